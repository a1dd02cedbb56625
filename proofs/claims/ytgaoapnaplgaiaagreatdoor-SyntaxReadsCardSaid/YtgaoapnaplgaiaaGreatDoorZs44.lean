/- This claim's own texts, joined, with only what the claim uses: AwkF. -/
import Derived.Test.YtgaoapnaplgaiaaGreatDoorZs42
import Derived.Test.YtgaoapnaplgaiaaGreatDoorZs43
import Derived.Lib.SlBytesConst
namespace Go.Proofs.YtgaoapnaplgaiaaGreatDoor.Sc
set_option maxRecDepth 100000
open Go.RowKit Tk Go.Proofs.YtgaoapnaplgaiaaGreatDoor.Wd Prn
abbrev sInit:ByteArray:=⟨#[105,110,105,116,32,123]⟩
abbrev sLoop:ByteArray:=⟨#[108,111,111,112,32,123]⟩
abbrev sEnd:ByteArray:=⟨#[125]⟩
abbrev awkL1:List UInt8:=[]++lineB 0 sInit++[]++lineB 0 sEnd
abbrev awkL2:List UInt8:=awkL1++lineB 0 sLoop++lineB (0+1) awkLine++lineB 0 sEnd
abbrev awkOut:ByteArray:=⟨#[105,110,105,116,32,123,10,125,10,108,111,111,112,32,123,10,32,32,120,32,61,32,49,59,10,125,10]⟩
theorem awk_out:(⟨awkL2.toArray⟩:ByteArray)=awkOut:=by kernel_rfl
set_option maxHeartbeats 4000000 in
theorem awk_printed (A1:Option Addr) (c1:Nat) (A2:Option Addr) (c2:Nat) (A3:Option Addr) (c3:Nat) (b4 b1:Addr) (k4 k1:Nat) (A5:Option Addr) (k5:Nat) (A6:Option Addr) (k6:Nat) (A7:Option Addr) (k7:Nat) (W:World) (h:AwkAt W.heap.size W b4 b1 k1 A5 k5 A6 k6 A7 k7) (h4:1≤k4) :
  Calls Tryz.prog 49 #[.agg #[.slice A1 0 c1,.slice A2 0 c2,.slice A3 0 c3,.slice (some b4) 1 k4]] W fun e W'=>e=.returned (.string awkOut)∧Below W.heap.size W W':=by
 have h:=A0.mk h
 have h4:=A0.mk h4
 go_enter Tryz.func49,Tryz.ntmps49
 go_upto_region 2 with fail
 have hk:=(_root_.Go.heap_alloc_old (W.alloc (.cells #[.slice A1 0 c1,.slice A2 0 c2,.slice A3 0 c3,.slice (some b4) 1 k4] 27)) (.cells #[.pointer none,.slice none 0 0,.int .i64 0] 129) (by simp)).trans (bN W (.cells #[.slice A1 0 c1,.slice A2 0 c2,.slice A3 0 c3,.slice (some b4) 1 k4] 27))
 have hn:=bN (W.alloc (.cells #[.slice A1 0 c1,.slice A2 0 c2,.slice A3 0 c3,.slice (some b4) 1 k4] 27)) (.cells #[.pointer none,.slice none 0 0,.int .i64 0] 129)
 have hz:(W.alloc (.cells #[.slice A1 0 c1,.slice A2 0 c2,.slice A3 0 c3,.slice (some b4) 1 k4] 27)).heap.size=W.heap.size+1:=by simp
 rw [hz] at hn
 have hb:=(bA W (.cells #[.slice A1 0 c1,.slice A2 0 c2,.slice A3 0 c3,.slice (some b4) 1 k4] 27)).alloc (by simp) (.cells #[.pointer none,.slice none 0 0,.int .i64 0] 129)
 have hz2:((W.alloc (.cells #[.slice A1 0 c1,.slice A2 0 c2,.slice A3 0 c3,.slice (some b4) 1 k4] 27)).alloc (.cells #[.pointer none,.slice none 0 0,.int .i64 0] 129)).heap.size=W.heap.size+2:=by simp
 generalize hX:(W.alloc (.cells #[.slice A1 0 c1,.slice A2 0 c2,.slice A3 0 c3,.slice (some b4) 1 k4] 27)).alloc (.cells #[.pointer none,.slice none 0 0,.int .i64 0] 129)=X at hk hn hb hz2 ⊢
 clear hX hz
 have hWr:Wr (W.heap.size+1) (W.heap.size+1) (Lib.byteCells []) ((0:Nat):Int) X:=.inl ⟨Nat.le_refl _,.slice none 0 0,hn,World.ownsRow_nil _ _ _ _,by simp [Value.ownBlock]⟩
 have hT:=(h.out.below hb).more (Nat.le_succ W.heap.size)
 have d0:X.cell? ⟨W.heap.size,0,none⟩=some (.slice A1 0 c1):=bC hk 0
 have d1:X.cell? ⟨W.heap.size,1,none⟩=some (.slice A2 0 c2):=bC hk 1
 have d2:X.cell? ⟨W.heap.size,2,none⟩=some (.slice A3 0 c3):=bC hk 2
 have BL1:=A0.mk (block_call hWr (m:=[]) (by omega) (by simp) (by simp) (by omega) sInit sEnd (by decide +kernel) (by decide +kernel) A3 0 c3 (fun W' hw _ _=>by
  have:=stmts_nil hw (by omega) A3 c3
  rw [List.append_nil]
  exact this))
 have hk:=A0.mk hk
 have hb:=A0.mk hb
 have hT:=A0.mk hT
 have hz2:=A0.mk hz2
 clear hn hWr
 go_wp2
 refine wp_loop_rounds 1 ?_
 rw [rounds_succ]
 go_wp2
 refine wp_loop_rounds 1 ?_
 rw [rounds_succ]
 go_upto_region 13 with (first|(go_at_call 91;(with_reducible refine BL1.out.mono ?_);rintro e w1 ⟨rfl,hW1⟩))
 have hk1:=(hW1.below.block W.heap.size (Nat.lt_succ_self _)).trans hk.out
 have d3:w1.cell? ⟨W.heap.size,3,none⟩=some (.slice (some b4) 1 k4):=bC hk1 3
 have hzz:W.heap.size+1≤w1.heap.size:=by have:=hW1.below.size;have:=hz2.out;omega
 have hT1:=hT.out.below hW1.below
 have BL2:=A0.mk (block_call (.inr hW1.wr) (m:=lineB (0+1) awkLine) (by omega) (by decide +kernel) (by decide +kernel) hzz sLoop sEnd (by decide +kernel) (by decide +kernel) (some b4) 1 k4 (fun W' hw hb' hz' =>
  stmts_awk hw (by omega) (by decide +kernel) hz' b4 b1 k4 k1 A5 k5 A6 k6 A7 k7 (hT1.below hb') h4.out))
 have hW1:=A0.mk hW1
 have hT1:=A0.mk hT1
 clear d0 d1 d2 hk1 BL1
 go_upto_region 14 with (first|(go_at_call 91;(with_reducible refine BL2.out.mono ?_);rintro e w2 ⟨rfl,hW2⟩))
 have SR:=string_call awkL2 (.inr hW2.wr) (by decide +kernel)
 rw [awk_out] at SR
 have SR:=A0.mk SR
 have hW2:=A0.mk hW2
 clear d3 BL2
 go_wp2_with (first|(go_at_call 92;(with_reducible refine SR.out.mono ?_);rintro e w3 ⟨rfl,hb3⟩;have hb3:=A0.mk hb3))
 go_ret
 exact ⟨rfl,hb.out.trans (((hW1.out.below.trans hW2.out.below).trans hb3.out).mono (Nat.le_succ _))⟩
set_option maxHeartbeats 4000000 in
theorem awk_print (A1:Option Addr) (c1:Nat) (A2:Option Addr) (c2:Nat) (A3:Option Addr) (c3:Nat) (b4 b1:Addr) (k4 k1:Nat) (A5:Option Addr) (k5:Nat) (A6:Option Addr) (k6:Nat) (A7:Option Addr) (k7:Nat) (W:World) (hE:Env W) (h:AwkAt W.heap.size W b4 b1 k1 A5 k5 A6 k6 A7 k7) (h4:1≤k4) :
  Calls Tryz.prog 20 #[.agg #[.slice A1 0 c1,.slice A2 0 c2,.slice A3 0 c3,.slice (some b4) 1 k4]] W fun e W'=>e=.returned (.string awkOut)∧Below W.heap.size W W':=by
 have FT:=A0.mk (fun o=>awk_fit A1 c1 A2 c2 A3 c3 b4 b1 k4 k1 A5 k5 A6 k6 A7 k7 (W.alloc o) (hE.alloc o) ((h.below (bA _ o)).more (by simp)) h4)
 have h:=A0.mk h
 have h4:=A0.mk h4
 clear hE
 go_enter Tryz.func20,Tryz.ntmps20
 go_wp2_with (go_at_call 18;with_reducible refine (FT.out _).mono ?_)
 rintro e w1 ⟨rfl,hb⟩
 have k0:=(hb.block W.heap.size (by simp)).trans (bN W (.cells #[.slice A1 0 c1,.slice A2 0 c2,.slice A3 0 c3,.slice (some b4) 1 k4] 27))
 have hbl:=(bA W (.cells #[.slice A1 0 c1,.slice A2 0 c2,.slice A3 0 c3,.slice (some b4) 1 k4] 27)).trans (hb.mono (by simp))
 have PR:=A0.mk (awk_printed A1 c1 A2 c2 A3 c3 b4 b1 k4 k1 A5 k5 A6 k6 A7 k7 w1 ((h.out.below hbl).more hbl.size) h4.out)
 have d0:w1.cell? ⟨W.heap.size,0,none⟩=some (.slice A1 0 c1):=bC k0 0
 have d1:w1.cell? ⟨W.heap.size,1,none⟩=some (.slice A2 0 c2):=bC k0 1
 have d2:w1.cell? ⟨W.heap.size,2,none⟩=some (.slice A3 0 c3):=bC k0 2
 have d3:w1.cell? ⟨W.heap.size,3,none⟩=some (.slice (some b4) 1 k4):=bC k0 3
 have hbl:=A0.mk hbl
 clear k0 FT hb
 go_wp2_with (go_at_call 49;with_reducible refine (PR.out).mono ?_)
 rintro e w2 ⟨rfl,hb2⟩
 go_wp2
 go_ret
 exact ⟨rfl,hbl.out.trans (hb2.mono hbl.out.size)⟩
abbrev C18:Array Value:=#[.int .u8 105,.int .u8 110,.int .u8 105,.int .u8 116,.int .u8 123,.int .u8 125,.int .u8 108,.int .u8 111,.int .u8 111,.int .u8 112,.int .u8 123,.int .u8 120,.int .u8 61,.int .u8 40,.int .u8 49,.int .u8 41,.int .u8 59,.int .u8 125]
theorem c18_at:∀i,i<18→C18[i]?=some (.int .u8 (awkTxt.getD i 0))
 | 0,_=>rfl
 | 1,_=>rfl
 | 2,_=>rfl
 | 3,_=>rfl
 | 4,_=>rfl
 | 5,_=>rfl
 | 6,_=>rfl
 | 7,_=>rfl
 | 8,_=>rfl
 | 9,_=>rfl
 | 10,_=>rfl
 | 11,_=>rfl
 | 12,_=>rfl
 | 13,_=>rfl
 | 14,_=>rfl
 | 15,_=>rfl
 | 16,_=>rfl
 | 17,_=>rfl
 | n+18,h=>by omega
theorem awk_byte:∀c ∈ awkTxt,Byte c:=by unfold Byte;decide
theorem awk_parse (W:World) (hE:Env W):Calls Tryz.prog 10 #[.slice (some ⟨W.heap.size,0,none⟩) 18 18] (W.alloc (.cells C18 5 (18,19))) fun e w1=>Below W.heap.size W w1∧∃A1 c1 A2 c2 A3 c3 b4 k4 b1 k1 A5 k5 A6 k6 A7 k7,e=.returned (.tuple #[.agg #[.slice A1 0 c1,.slice A2 0 c2,.slice A3 0 c3,.slice (some b4) 1 k4],.agg #[.int .i64 0,.int .i64 0]])∧1≤k4∧AwkAt w1.heap.size w1 b4 b1 k1 A5 k5 A6 k6 A7 k7:=by
 have hE2:=hE.alloc (.cells C18 5 (18,19))
 refine (parse_call (some ⟨W.heap.size,0,none⟩) 18 18 awkTxt _ (Nat.le_refl _) rfl awk_byte hE2.tab hE2.ops (fun i hi=>⟨_,rfl,?_⟩) (fun a e=>by cases e;simp) hE2.mx).mono ?_
 ·rw [show (⟨W.heap.size,0,none⟩:Addr).add i=⟨W.heap.size,i,none⟩ by unfold Addr.add;split <;> simp_all]
  exact (World.cell?_alloc_mark W C18 5 (18,19) i).trans (c18_at i hi)
 ·rintro e w1 ⟨hb,o,p,er,v,hPd,rfl,_,hv⟩
  obtain ⟨rfl,rfl,rfl⟩:=awk_parsed hPd
  obtain ⟨A1,c1,A2,c2,A3,c3,b4,c4,b1,k1,A5,k5,A6,k6,A7,k7,rfl,h4,hT⟩:=awk_at (hv _ rfl)
  exact ⟨(bA W _).trans (hb.mono (by simp)),_,_,_,_,_,_,_,_,_,_,_,_,_,_,_,_,rfl,h4,hT⟩
set_option maxHeartbeats 8000000 in
theorem awake_call (W:World) (hE:Env W):Calls Tryz.prog 13 #[] W fun e W'=>e=.returned (.bool true)∧Below W.heap.size W W':=by
 have cv:(convert 22 22 (.slice (some ⟨W.heap.size,0,none⟩) 18 18)).run Tryz.prog (W.alloc (.cells #[.int .u8 105,.int .u8 110,.int .u8 105,.int .u8 116,.int .u8 123,.int .u8 125,.int .u8 108,.int .u8 111,.int .u8 111,.int .u8 112,.int .u8 123,.int .u8 120,.int .u8 61,.int .u8 40,.int .u8 49,.int .u8 41,.int .u8 59,.int .u8 125] 5))=.ok (.slice (some ⟨W.heap.size,0,none⟩) 18 18) (W.alloc (.cells C18 5 (18,19))) :=
  Lib.run_convert_bytes_const W 22 5 C18 18 18 Tryz.underlying22 Tryz.underlying5
 have PC:=A0.mk (awk_parse W hE)
 have hE:=A0.mk hE
 go_enter Tryz.func13,Tryz.ntmps13
 go_wp2_with (go_at_call 10;with_reducible refine PC.out.mono ?_)
 rintro e w1 ⟨hb,A1,c1,A2,c2,A3,c3,b4,k4,b1,k1,A5,k5,A6,k6,A7,k7,rfl,h4,hT⟩
 have PR:=A0.mk (fun o o2=>awk_print A1 c1 A2 c2 A3 c3 b4 b1 k4 k1 A5 k5 A6 k6 A7 k7 ((w1.alloc o).alloc o2) (((hE.out.grow hb).alloc o).alloc o2) (hT.below ((bA _ o).alloc (by simp) o2) |>.more (by simp;omega)) h4)
 have hb:=A0.mk hb
 clear hT cv PC
 go_wp2_with (go_at_call 20;with_reducible refine (PR.out _ _).mono ?_)
 rintro e w2 ⟨rfl,hb2⟩
 have hb2:=A0.mk (((bA w1 _).alloc (by simp) _).trans (hb2.mono (by simp;omega)))
 go_wp2
 go_ret
 exact ⟨rfl,hb.out.trans (hb2.out.mono hb.out.size)⟩
end Go.Proofs.YtgaoapnaplgaiaaGreatDoor.Sc
