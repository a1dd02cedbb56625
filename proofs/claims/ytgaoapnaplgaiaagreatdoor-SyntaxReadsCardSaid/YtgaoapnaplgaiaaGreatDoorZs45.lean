/- This claim's own texts, joined, with only what the claim uses: BrkB, BrkC, BlkX, PlcA, PlcB, PlcC, PlcD, RdT, RdA, RdB, RdC, RdD, RdE, RdF, RdG, RdH, RdI, RdJ, RdK, RdL, RdM. -/
import Derived.Test.YtgaoapnaplgaiaaGreatDoorZs44
import Derived.Test.YtgaoapnaplgaiaaGreatDoorZs30
import Derived.Test.YtgaoapnaplgaiaaGreatDoorZs24
import Derived.Test.YtgaoapnaplgaiaaGreatDoorZs36
import Derived.Test.YtgaoapnaplgaiaaGreatDoorZs32
import Derived.Test.YtgaoapnaplgaiaaGreatDoorZs33
import Derived.Test.YtgaoapnaplgaiaaGreatDoorZs35
import Derived.Test.YtgaoapnaplgaiaaGreatDoorZs0
import Derived.Test.YtgaoapnaplgaiaaGreatDoorZs5
import Derived.Test.YtgaoapnaplgaiaaGreatDoorZs9
import Derived.Test.YtgaoapnaplgaiaaGreatDoorZs10
import Derived.Test.YtgaoapnaplgaiaaGreatDoorZs15
import Derived.Deep.DeepAppendWide
import Derived.Laws.OwnMore
import Derived.Deep.CutRange
import Derived.Laws.Concat
import Derived.Lib.AppendStr
namespace Go.Proofs.YtgaoapnaplgaiaaGreatDoor.Sc
set_option maxRecDepth 100000
open Go.RowKit Tk Go.Proofs.YtgaoapnaplgaiaaGreatDoor.Wd
def u8s (xs:List Int):List Value:=xs.map (.int .u8)
theorem u8s_append (a b:List Int):u8s (a++b)=u8s a++u8s b:=by unfold u8s;rw [List.map_append]
theorem lies_own {W:World} {base n c:Nat} {A:Option Addr} {xs:List Int} (h:W.ownsRow base 5 1 (.slice A n c) n (u8s xs)):Lies W A n xs:=by
 intro i hi
 have hl:=h.1
 rcases h.2 with ⟨_,h0⟩|⟨g,cap,cur,e,_⟩
 ·omega
 ·injection e with e1 e2 e3
  subst e1
  refine ⟨_,rfl,?_⟩
  refine h.cells (g:=g) rfl i (.int .u8 (xs.getD i 0)) ?_
  have hx:xs.length=n:=by simpa [u8s] using hl
  simp [u8s,List.getD,hx,hi]
theorem run_append_txt {w:World} {base:Nat} {i:TypeInfo} (hi:Tryz.prog.info? 5=some i) (hz:i.zero=some (.int .u8 0)) (hsize:i.size=1) (hby:i.bytes=1) {v:Value} {n:Nat} {xs ys:List Int} (hown:w.ownsRow base 5 1 v n (u8s xs))
  {B:Option Addr} {m c:Nat} (hL:Lies w B m ys) (hy:ys.length=m) (h0:B=none→m=0∧c=0) (hm:n+m≤200000000000000) (hbase:base≤w.heap.size) (ty:TypeId) :
  ∃v' w',(Builtin.append_ #[22,22] ty #[v,.slice B m c]).run Tryz.prog w=.ok v' w'∧w'.ownsRow base 5 1 v' (n+m) (u8s (xs++ys))∧w.grownBy w' v.ownBlock:=by
 cases B with
 | none =>
  obtain ⟨rfl,rfl⟩:=h0 rfl
  obtain rfl:ys=[]:=List.eq_nil_of_length_eq_zero hy
  refine ⟨v,w,run_append_owned_none w base 22 ty 5 i 1 Tryz.underlying22 hi v n _ hown,by rw [List.append_nil];exact hown,⟨rfl,rfl,rfl,Nat.le_refl _,fun _ _ _=>rfl⟩⟩
 | some a =>
  obtain ⟨v',w',h1,h2,h3,_⟩:=run_append_own_wide (P:=Tryz.prog) w base 22 ty 5 i (.int .u8 0) 1 1 Tryz.underlying22 hi hz hsize hby rfl (by decide) v n _ hown a m c (u8s ys) (by rw [u8s,List.length_map];omega) (fun j u hu=>by
   have hj:j<ys.length:=by
    rcases Nat.lt_or_ge j ys.length with h | h
    ·exact h
    ·rw [u8s,List.getElem?_eq_none (by rw [List.length_map];exact h)] at hu;cases hu
   rw [hL.at j (by omega)]
   rw [u8s,List.getElem?_map,List.getElem?_eq_getElem hj] at hu
   rw [List.getD_eq_getElem?_getD,List.getElem?_eq_getElem hj]
   exact hu) (fun u hu=>by rw [u8s] at hu;obtain ⟨x,_,rfl⟩:=List.mem_map.1 hu;rfl) (by unfold maxLen;omega) (by omega) hbase
  exact ⟨v',w',h1,by rw [u8s_append];exact h2,h3⟩
theorem wpList_append_txt {w:World} {ops:Array Oper} {rest:List Oper} {o:Oper} {a:Act} {Q:Exit→Act→World→Prop} (hgd:o.guard=none) (s x:Operand)
  (ho:o.op=.call { callee:=.builtin .append,args:=#[s,x],argTypes:=#[22,22] })
  {base:Nat} {i:TypeInfo} (hi:Tryz.prog.info? 5=some i) (hz:i.zero=some (.int .u8 0)) (hsize:i.size=1) (hby:i.bytes=1) {v:Value} {n:Nat} {xs ys:List Int} (hs:a.eval s=v) (hown:w.ownsRow base 5 1 v n (u8s xs))
  {B:Option Addr} {m c:Nat} (hx:a.eval x=.slice B m c) (hL:Lies w B m ys) (hy:ys.length=m) (h0:B=none→m=0∧c=0) (hm:n+m≤200000000000000) (hbase:base≤w.heap.size)
  (h:∀v' w',w'.ownsRow base 5 1 v' (n+m) (u8s (xs++ys))→w.grownBy w' v.ownBlock→wpList Tryz.prog ops Q rest (a.put o.dst v') w'):wpList Tryz.prog ops Q (o :: rest) a w :=
 wpList_plain hgd fun K hK=>by
  obtain ⟨v',w',hr,h2,h3⟩:=run_append_txt hi hz hsize hby hown hL hy h0 hm hbase o.type
  unfold Oper.wp execOp
  simp only [ho,resolve,invoke,builtin,Sem.run_bind,Sem.run_pure,Result.andThen_ok,List.map_toArray,List.map_cons,List.map_nil,hs,hx,hr]
  exact hK _ _ (h v' w' h2 h3)
theorem slice_head (w:World) (a:Addr) (n cap h:Nat) (hh:h≤cap):(Instr.sliceAt 22 (.slice (some a) n cap) none (some (.int .i64 (h:Int))) none).run Tryz.prog w=.ok (.slice (some a) h cap) w:=by
 rw [run_sliceAt_slice (h:=by rw [Tryz.underlying22];rfl),run_slice_h (ht:=by rw [Tryz.underlying22];rfl) (h0:=by omega) (h2:=by omega)]
 go_simp
structure Txt (A:Option Addr) (n cap:Nat) (xs:List Int) (W:World):Prop where
 hcap:n≤cap
 hx:xs.length=n
 hB:∀c ∈ xs,Byte c
 hL:Lies W A n xs
 hA:∀a,A=some a→a.block<W.heap.size
 hn:n+2≤140737488355328
 h0:A=none→n=0∧cap=0
theorem Txt.below {A:Option Addr} {n cap:Nat} {xs:List Int} {W W':World} (h:Txt A n cap xs W) (hb:Below W.heap.size W W'):Txt A n cap xs W' :=
 ⟨h.hcap,h.hx,h.hB,h.hL.below hb,fun a e=>by have:=h.hA a e;have:=hb.size;omega,h.hn,h.h0⟩
theorem grown_own {w w1:World} {base n s:Nat} {e:TypeId} {v:Value} {xs:List Value} (hg:w.grownBy w1 v.ownBlock) (h:w.ownsRow base e s v n xs) (hb:base≤w.heap.size):Below base w w1 :=
 ⟨hg.os,hg.tape,hg.output,hg.size,fun k hk=>hg.block k (by omega) (fun e=>by have:=(h.lt k e.symm).1;omega)⟩
theorem own_move {w w1:World} {b n s:Nat} {e:TypeId} {v:Value} {xs:List Value} (h:w.ownsRow b e s v n xs) (hk:∀k,v.ownBlock=some k→w1.heap[k]?=w.heap[k]?):w1.ownsRow b e s v n xs:=by
 refine ⟨h.1,?_⟩
 rcases h.2 with hn | ⟨g,cap,cur,rfl,hb,hgg,rest⟩
 ·exact .inl hn
 ·exact .inr ⟨g,cap,cur,rfl,hb,(hk g rfl).trans hgg,rest⟩
theorem own_below {w w1:World} {b n s:Nat} {e:TypeId} {v:Value} {xs:List Value} (h:w.ownsRow b e s v n xs) (hb:Below w.heap.size w w1):w1.ownsRow b e s v n xs :=
 own_move h (fun k hk=>hb.block k (h.lt k hk).2)
def i64s (ps:List Int):List Value:=ps.map (.int .i64)
theorem i64s_append (a b:List Int):i64s (a++b)=i64s a++i64s b:=by unfold i64s;rw [List.map_append]
theorem own_nums {W:World} {base:Nat} {v:Value} {ps:List Int} (h:W.ownsRow base 3 1 v ps.length (i64s ps)):∃A c,v=.slice A ps.length c∧∀i,i<ps.length→∃a,A=some a∧W.cell? (a.add i)=some (.int .i64 (ps.getD i 0)):=by
 rcases h.2 with ⟨rfl,h0⟩|⟨g,cap,cur,rfl,hb,hg,hc,_⟩
 ·exact ⟨none,0,by rw [h0],fun i hi=>by omega⟩
 ·refine ⟨_,cap,rfl,fun i hi=>⟨_,rfl,h.cells (g:=g) rfl i _ ?_⟩⟩
  simp [i64s,List.getD,hi]
def posE:Ex→List Int
 | .mk _ _ _ args pos=>pos :: posEs args
where posEs:List Ex→List Int
 | []=>[]
 | x :: xs=>posE x++posEs xs
abbrev posEs:=posE.posEs
theorem posE_mk (op num:Int) (name:ByteArray) (args:List Ex) (pos:Int):posE (.mk op num name args pos)=pos :: posEs args:=by rw [posE]
theorem posEs_cons (x:Ex) (xs:List Ex):posEs (x :: xs)=posE x++posEs xs:=by rw [posEs,posE.posEs]
theorem posEs_app:∀(l r:List Ex),posEs (l++r)=posEs l++posEs r
 | [],r=>by simp [posEs,posE.posEs]
 | x :: l,r=>by rw [List.cons_append,posEs_cons,posEs_cons,posEs_app l r,List.append_assoc]
theorem posEs_take {es:List Ex} {j:Nat} {x:Ex} (h:es[j]?=some x):posEs (es.take (j+1))=posEs (es.take j)++posE x:=by
 rw [List.take_add_one,h,posEs_app]
 simp [posEs,posE.posEs]
mutual
theorem posE_len:∀x:Ex,(posE x).length=exSz x
 | .mk _ _ _ args _=>by rw [posE_mk,exSz_mk,List.length_cons,posEs_len args];omega
theorem posEs_len:∀xs:List Ex,(posEs xs).length=exSzs xs
 | []=>by simp [posEs,posE.posEs,exSzs,exSz.exSzs]
 | x :: xs=>by
  rw [posEs_cons,List.length_append,posE_len x,posEs_len xs]
  conv=>rhs;rw [exSzs,exSz.exSzs]
end
theorem exSzs_at {es:List Ex} {j:Nat} {x:Ex} (h:es[j]?=some x):exSzs (es.take j)+exSz x≤exSzs es:=by
 have h1:es=es.take (j+1)++es.drop (j+1):=(List.take_append_drop _ _).symm
 have h2:exSzs es=exSzs (es.take (j+1))+exSzs (es.drop (j+1)):=(congrArg exSzs h1).trans (exSzs_app _ _)
 have h3:exSzs (es.take (j+1))=exSzs (es.take j)+exSz x:=by
  rw [List.take_add_one,h,exSzs_app];simp [exSzs_one]
 omega
theorem wpList_append_ns {w:World} {ops:Array Oper} {rest:List Oper} {o:Oper} {a:Act} {Q:Exit→Act→World→Prop} (hgd:o.guard=none) (s x:Operand)
  (ho:o.op=.call { callee:=.builtin .append,args:=#[s,x],argTypes:=#[38,38] })
  {base:Nat} {i:TypeInfo} (hi:Tryz.prog.info? 3=some i) (hz:i.zero=some (.int .i64 0)) (hsize:i.size=1) (hby:i.bytes=8) {v:Value} {ps:List Int} (hs:a.eval s=v) (hR:w.ownsRow base 3 1 v ps.length (i64s ps))
  {ad:Addr} {m:Nat} {zs:List Int} (hx:a.eval x=.slice (some ad) m m) (hzm:zs.length=m) (hc:∀j z,zs[j]?=some z→w.cell? (ad.add j)=some (.int .i64 z)) (hm:ps.length+zs.length≤1000000000000) (hbase:base≤w.heap.size)
  (h:∀v' w',w'.ownsRow base 3 1 v' (ps++zs).length (i64s (ps++zs))→Below base w w'→wpList Tryz.prog ops Q rest (a.put o.dst v') w'):wpList Tryz.prog ops Q (o :: rest) a w:=by
 subst hzm
 refine wpList_append_own w hgd s x 38 ho base 3 i (.int .i64 0) 1 8 Tryz.underlying38 hi hz hsize hby rfl (by decide) v ps.length _ hs hR ad zs.length zs.length (i64s zs) hx (by simp [i64s]) (fun j u hu=>by
  unfold i64s at hu
  rw [List.getElem?_map] at hu
  cases hz:zs[j]? with
  | none=>rw [hz] at hu;cases hu
  | some z=>rw [hz] at hu;cases hu;exact hc j z hz) (fun u hu=>by unfold i64s at hu;obtain ⟨z,_,rfl⟩:=List.mem_map.1 hu;rfl) (by unfold maxLen;omega) (by omega) hbase fun v' w' h2 h3 _=>?_
 have h2':w'.ownsRow base 3 1 v' (ps++zs).length (i64s (ps++zs)):=by rw [i64s_append,List.length_append];exact h2
 exact h v' w' h2' (grown_own h3 hR hbase)
structure ExsB (base:Nat) (W:World) (A:Option Addr) (c:Nat) (xs:List Ex):Prop where
 ex:xs.length≤c∧∃vs,Row (fun b=>b<base) W A vs.flatten∧RepEs (fun b=>b<base) W xs vs
theorem ExsB.keep {base:Nat} {W W':World} {A:Option Addr} {c:Nat} {xs:List Ex} (h:ExsB base W A c xs) (hb:Below base W W'):ExsB base W' A c xs:=by
 obtain ⟨hc,vs,hR,hr⟩:=h.ex
 refine ⟨hc,vs,hR.keep (fun _ h=>h) fun b hl _=>hb.block b hl,?_⟩
 rw [repEs_iff] at hr ⊢
 exact hr.imp fun x v hx=>RepE.keep (fun _ h=>h) (fun b hl _=>hb.block b hl) x v hx
theorem ExsB.at {base:Nat} {W:World} {A:Option Addr} {c:Nat} {xs:List Ex} (h:ExsB base W A c xs) {i:Nat} {op num pos:Int} {name:ByteArray} {args:List Ex} (hi:xs[i]?=some (.mk op num name args pos)) :
  ∃a A2 c2,A=some a∧∀Z,Below base W Z→Z.cell? ⟨(a.add (i * 5)).block,(a.add (i * 5)).off+3,none⟩=some (.slice A2 args.length c2)∧Z.cell? ⟨(a.add (i * 5)).block,(a.add (i * 5)).off+4,none⟩=some (.int .i64 pos)∧ExsB base Z A2 c2 args:=by
 obtain ⟨_,vs,hR,hr⟩:=h.ex
 have ha:=repEs_iff.1 hr
 obtain ⟨v,hv,hx⟩:=ha.at i _ hi
 rw [RepE] at hx
 obtain ⟨A2,c2,vs2,rfl,hc,hR2,hr2⟩:=hx
 have hs:=ha.mem (Q:=fun v=>v.length=5) fun _ _ h=>repE_len h
 obtain ⟨a,rfl,-,-⟩:=row_elem hR hs hv (by omega)
 refine ⟨a,A2,c2,rfl,fun Z hZ=>?_⟩
 have hRZ:=hR.keep (Q:=fun b=>b<base) (W':=Z) (fun _ h=>h) (fun b hl _=>hZ.block b hl)
 obtain ⟨a',e,h0,h1⟩:=row_elem hRZ hs hv (by omega)
 cases e
 exact ⟨h1 2 _ rfl,h1 3 _ rfl,ExsB.keep ⟨hc,vs2,hR2,hr2⟩ hZ⟩
set_option maxHeartbeats 8000000 in
theorem posExprs_call:∀(k:Nat) (es:List Ex),exSzs es≤k→∀(w:World) (base:Nat) (v:Value) (ps:List Int) (A:Option Addr) (c:Nat),ExsB base w A c es→w.ownsRow base 3 1 v ps.length (i64s ps)→base≤w.heap.size→ps.length+exSzs es≤1000000000000 →
  Calls Tryz.prog 109 #[v,.slice A es.length c] w fun e W=>∃v',e=.returned v'∧W.ownsRow base 3 1 v' (ps++posEs es).length (i64s (ps++posEs es))∧Below base w W:=by
 intro k
 induction k using Nat.strongRecOn with
 | ind k ih =>
  intro es hk w base v ps A c hX hR hbase hm
  have hxl:=exSzs_len es
  replace ih:=A0.mk ih
  replace hX:=A0.mk hX
  replace hk:=A0.mk hk
  obtain ⟨N,hNl⟩:∃N,A0 (es.length=N):=⟨_,⟨rfl⟩⟩
  rw [hNl.out] at hxl ⊢
  have hA:A0 (w.ownsRow base 3 1 v (ps++posEs (es.take 0)).length (i64s (ps++posEs (es.take 0)))):=⟨by simpa [posEs,posE.posEs] using hR⟩
  have hN6:N≤1000000000000:=by omega
  replace hm:=A0.mk hm
  clear hR
  go_enter Tryz.func109,Tryz.ntmps109
  go_wp2
  go_loopg [0,5] N (fun m v' i X=>∃j:Nat,i=.int .i64 (j:Int)∧j+m=N∧A0 (X.ownsRow base 3 1 v' (ps++posEs (es.take j)).length (i64s (ps++posEs (es.take j))))∧A0 (Below base w X))
  case atStart=>exact ⟨0,rfl,by omega,hA,⟨Below.refl _ _⟩⟩
  case round =>
   obtain ⟨j,rfl,hj,hR,hB⟩:=hrel
   clear hA
   by_cases hjN:j<N
   ·obtain ⟨x,hx⟩:∃x,es[j]?=some x:=⟨es[j]'(by rw [hNl.out];exact hjN),List.getElem?_eq_getElem _⟩
    obtain ⟨m,rfl⟩:∃m,gk=m+1:=⟨gk - 1,by omega⟩
    have hsz:=exSzs_at hx
    have htk:=A0.mk (posEs_take hx)
    have hsn:=exSzs_nth hx
    have hlen:=posEs_len (es.take j)
    obtain ⟨op,num,name,args,pos⟩:=x
    rw [exSz_mk] at hsz hsn
    obtain ⟨a,A2,c2,rfl,hZ⟩:=hX.out.at hx
    obtain ⟨a3,a4,-⟩:=hZ wr hB.out
    have k0:(0:Int)≤(j:Int):=by omega
    have k1:(j:Int)<(N:Int):=by omega
    have wk:IntKind.i64.wrap ((j:Int)+1)=((j+1:Nat):Int):=by rw [IntWalk.i64_in _ (by omega)];rfl
    have hbz:=hB.out.size
    have hin:A0 ((ps++posEs (es.take j)).length+1+exSzs args≤1000000000000):=⟨by have:=hm.out;rw [List.length_append];omega⟩
    have hka:A0 (exSzs args<k):=⟨by have:=hk.out;omega⟩
    have hinfo3:(Tryz.prog.info? 3).map (fun i=>(i.zero,i.size,i.bytes))=some (some (.int .i64 0),1,8):=by kernel_rfl
    obtain ⟨i0,hi,hz0,hz1,hz2⟩:=info_parts hinfo3
    clear hx hsz hsn hlen hinfo3
    replace hZ:=A0.mk hZ
    replace wk:=A0.mk wk
    have hb0:Below base wr (wr.alloc (.cells #[.int .i64 pos] 3)):=(bA wr (.cells #[.int .i64 pos] 3)).mono (by omega)
    have hR0:=A0.mk (own_below hR.out (bA _ (.cells #[.int .i64 pos] 3)))
    replace hb0:=A0.mk hb0
    go_upto_region 5 with (first|(at_builtin;refine wpList_append_ns rfl (.tmp 12) (.tmp 18) rfl hi hz0 hz1 hz2 rfl hR0.out (ad:=⟨wr.heap.size,0,none⟩) (m:=1) (zs:=[pos]) rfl rfl (fun i z hz=>oA (w:=wr) #[.int .i64 pos] 3 [.int .i64 pos] rfl i (.int .i64 z) (by match i,hz with | 0,hz=>(cases hz;rfl) | i+1,hz=>(simp at hz))) (by have:=hin.out;simp only [List.length_cons,List.length_nil];omega) (by simp;omega) ?_;intro v1 w1 hR1 hb1))
    have hB1:=hB.out.trans (hb0.out.trans hb1)
    obtain ⟨b3,-,hXa⟩:=hZ.out w1 hB1
    have CN:=ih.out (exSzs args) hka.out args (Nat.le_refl _) w1 base v1 _ A2 c2 hXa hR1 (by have:=hb1.size;have:=hb0.out.size;omega) (by have:=hin.out;rw [List.length_append];simp only [List.length_cons,List.length_nil];omega)
    replace hB1:=A0.mk hB1
    replace hXa:=A0.mk hXa
    clear hR1 hb1 a3 a4
    go_wp2_with (first|(go_at_call 109;(with_reducible refine CN.mono ?_);rintro e Y ⟨v2,rfl,hR2,hB2⟩))
    go_roundg m
    case rel=>exact ⟨j+1,rfl,by omega,⟨by rw [htk.out,posE_mk];simpa using hR2⟩,⟨hB1.out.trans hB2⟩⟩
    case measure=>omega
   ·obtain rfl:j=N:=by omega
    have hjj:¬ j<j:=Nat.lt_irrefl _
    go_wp2
    go_ret
    exact ⟨u0,rfl,by have:=hR.out;rwa [←hNl.out,List.take_length] at this,hB.out⟩
mutual
def posS:Stm→List Int
 | .mk _ _ _ args blocks cases pos=>pos :: (posEs args++cases.map (fun x=>x.2.2)++posBs blocks)
def posBs:List (List Stm)→List Int
 | []=>[]
 | b :: bs=>posSs b++posBs bs
def posSs:List Stm→List Int
 | []=>[]
 | x :: xs=>posS x++posSs xs
end
theorem posSs_app:∀(l r:List Stm),posSs (l++r)=posSs l++posSs r
 | [],r=>by rw [posSs];rfl
 | x :: l,r=>by rw [List.cons_append,posSs,posSs,posSs_app l r,List.append_assoc]
theorem posBs_app:∀(l r:List (List Stm)),posBs (l++r)=posBs l++posBs r
 | [],r=>by rw [posBs];rfl
 | x :: l,r=>by rw [List.cons_append,posBs,posBs,posBs_app l r,List.append_assoc]
theorem take_one {α:Type} {l:List α} {j:Nat} {x:α} (h:l[j]?=some x):l.take (j+1)=l.take j++[x]:=by rw [List.take_add_one,h];rfl
theorem posSs_take {ss:List Stm} {j:Nat} {x:Stm} (h:ss[j]?=some x):posSs (ss.take (j+1))=posSs (ss.take j)++posS x:=by
 rw [take_one h,posSs_app,posSs,posSs,List.append_nil]
theorem posBs_take {bs:List (List Stm)} {j:Nat} {x:List Stm} (h:bs[j]?=some x):posBs (bs.take (j+1))=posBs (bs.take j)++posSs x:=by
 rw [take_one h,posBs_app,posBs,posBs,List.append_nil]
theorem stSzs_at {ss:List Stm} {j:Nat} {x:Stm} (h:ss[j]?=some x):stSzs (ss.take j)+stSz x≤stSzs ss:=by
 have h1:ss=ss.take (j+1)++ss.drop (j+1):=(List.take_append_drop _ _).symm
 have h2:=(congrArg stSzs h1).trans (stSzs_app _ _)
 rw [take_one h,stSzs_app,stSzs_one] at h2
 omega
theorem bkSz_at {bs:List (List Stm)} {j:Nat} {x:List Stm} (h:bs[j]?=some x):bkSz (bs.take j)+(1+stSzs x)≤bkSz bs:=by
 have h1:bs=bs.take (j+1)++bs.drop (j+1):=(List.take_append_drop _ _).symm
 have h2:=(congrArg bkSz h1).trans (bkSz_app _ _)
 rw [take_one h,bkSz_app,bkSz_one] at h2
 omega
mutual
theorem posS_len:∀x:Stm,(posS x).length≤stSz x
 | .mk _ _ _ args blocks cases _=>by
  rw [posS,stSz,List.length_cons,List.length_append,List.length_append,List.length_map,posEs_len]
  have:=posBs_len blocks
  omega
theorem posBs_len:∀xs:List (List Stm),(posBs xs).length≤bkSz xs
 | []=>by rw [posBs];simp
 | x :: xs=>by
  rw [posBs,bkSz,List.length_append]
  have:=posSs_len x;have:=posBs_len xs
  omega
theorem posSs_len:∀xs:List Stm,(posSs xs).length≤stSzs xs
 | []=>by rw [posSs];simp
 | x :: xs=>by
  rw [posSs,stSzs,List.length_append]
  have:=posS_len x;have:=posSs_len xs
  omega
end
structure StsB (base:Nat) (W:World) (A:Option Addr) (c:Nat) (xs:List Stm):Prop where
 ex:xs.length≤c∧∃vs,Row (fun b=>b<base) W A vs.flatten∧RepSs (fun b=>b<base) W xs vs
structure BksB (base:Nat) (W:World) (A:Option Addr) (c:Nat) (xs:List (List Stm)):Prop where
 ex:xs.length≤c∧∃vs,Row (fun b=>b<base) W A vs.flatten∧RepBs (fun b=>b<base) W xs vs
structure ConsB (base:Nat) (W:World) (A:Option Addr) (c:Nat) (xs:List Con):Prop where
 ex:xs.length≤c∧Row (fun b=>b<base) W A (xs.map conCells).flatten
section
variable {base:Nat} {W Z:World} {A:Option Addr} {c:Nat}
theorem StsB.keep {xs:List Stm} (h:StsB base W A c xs) (hb:Below base W Z):StsB base Z A c xs:=by
 obtain ⟨hc,vs,hR,hr⟩:=h.ex
 refine ⟨hc,vs,hR.keep (fun _ h=>h) fun b hl _=>hb.block b hl,?_⟩
 rw [repSs_iff] at hr ⊢
 exact hr.imp fun x v hx=>RepS.keep (fun _ h=>h) (fun b hl _=>hb.block b hl) x v hx
theorem BksB.keep {xs:List (List Stm)} (h:BksB base W A c xs) (hb:Below base W Z):BksB base Z A c xs:=by
 obtain ⟨hc,vs,hR,hr⟩:=h.ex
 refine ⟨hc,vs,hR.keep (fun _ h=>h) fun b hl _=>hb.block b hl,?_⟩
 rw [repBs_iff] at hr ⊢
 exact hr.imp fun x v hx=>rK hx (fun _ h=>h) (fun b hl _=>hb.block b hl)
theorem ConsB.keep {xs:List Con} (h:ConsB base W A c xs) (hb:Below base W Z):ConsB base Z A c xs:=⟨h.ex.1,h.ex.2.keep (fun _ h=>h) fun b hl _=>hb.block b hl⟩
theorem StsB.at {xs:List Stm} (h:StsB base W A c xs) {i:Nat} {op pos:Int} {name read:ByteArray} {args:List Ex} {blocks:List (List Stm)} {cases:List Con} (hi:xs[i]?=some (.mk op name read args blocks cases pos)) :
  ∃a A1 c1 A2 c2 A3 c3,A=some a∧∀Z,Below base W Z→Z.cell? ⟨(a.add (i * 7)).block,(a.add (i * 7)).off+3,none⟩=some (.slice A1 args.length c1)∧Z.cell? ⟨(a.add (i * 7)).block,(a.add (i * 7)).off+4,none⟩=some (.slice A2 blocks.length c2)∧Z.cell? ⟨(a.add (i * 7)).block,(a.add (i * 7)).off+5,none⟩=some (.slice A3 cases.length c3) ∧
   Z.cell? ⟨(a.add (i * 7)).block,(a.add (i * 7)).off+6,none⟩=some (.int .i64 pos)∧ExsB base Z A1 c1 args∧BksB base Z A2 c2 blocks∧ConsB base Z A3 c3 cases:=by
 obtain ⟨_,vs,hR,hr⟩:=h.ex
 have ha:=repSs_iff.1 hr
 obtain ⟨v,hv,hx⟩:=ha.at i _ hi
 rw [RepS] at hx
 obtain ⟨A1,c1,v1,A2,c2,v3,A3,c3,rfl,h1,h2,h3,r1,e1,r2,e2,r3⟩:=hx
 have hs:=ha.mem (Q:=fun v=>v.length=7) fun _ _ h=>repS_len h
 obtain ⟨a,rfl,-,-⟩:=row_elem hR hs hv (by omega)
 refine ⟨a,A1,c1,A2,c2,A3,c3,rfl,fun Z hZ=>?_⟩
 obtain ⟨a',e,q0,q1⟩:=row_elem (hR.keep (Q:=fun b=>b<base) (W':=Z) (fun _ h=>h) (fun b hl _=>hZ.block b hl)) hs hv (by omega)
 cases e
 exact ⟨q1 2 _ rfl,q1 3 _ rfl,q1 4 _ rfl,q1 5 _ rfl,ExsB.keep ⟨h1,v1,r1,e1⟩ hZ,BksB.keep ⟨h2,v3,r2,e2⟩ hZ,ConsB.keep ⟨h3,r3⟩ hZ⟩
theorem BksB.at {xs:List (List Stm)} (h:BksB base W A c xs) {i:Nat} {b:List Stm} (hi:xs[i]?=some b):∃a A1 c1,A=some a∧∀Z,Below base W Z→Z.cell? (a.add i)=some (.slice A1 b.length c1)∧StsB base Z A1 c1 b:=by
 obtain ⟨_,vs,hR,hr⟩:=h.ex
 have ha:=repBs_iff.1 hr
 obtain ⟨v,hv,A1,c1,us,rfl,h1,r1,e1⟩:=ha.at i _ hi
 have hs:=ha.mem (Q:=fun v=>v.length=1) (fun _ _ h=>by obtain ⟨A1,c1,us,rfl,_⟩:=h;rfl)
 obtain ⟨a,rfl,-,-⟩:=row_elem hR (s:=1) hs hv (by omega)
 refine ⟨a,A1,c1,rfl,fun Z hZ=>?_⟩
 obtain ⟨a',e,q0,q1⟩:=row_elem (s:=1) (hR.keep (Q:=fun b=>b<base) (W':=Z) (fun _ h=>h) (fun b hl _=>hZ.block b hl)) hs hv (by omega)
 cases e
 rw [Nat.mul_one] at q0
 exact ⟨q0 _ rfl,StsB.keep ⟨h1,us,r1,e1⟩ hZ⟩
theorem ConsB.at {xs:List Con} (h:ConsB base W A c xs) {i:Nat} {x:Con} (hi:xs[i]?=some x):∃a,A=some a∧∀Z,Below base W Z→Z.cell? ⟨(a.add (i * 3)).block,(a.add (i * 3)).off+2,none⟩=some (.int .i64 x.2.2):=by
 obtain ⟨_,hR⟩:=h.ex
 have hs:∀u ∈ xs.map conCells,u.length=3:=fun u hu=>by obtain ⟨y,_,rfl⟩:=List.mem_map.1 hu;rfl
 have hv:(xs.map conCells)[i]?=some (conCells x):=by rw [List.getElem?_map,hi];rfl
 obtain ⟨a,rfl,-,-⟩:=row_elem hR (s:=3) hs hv (by omega)
 refine ⟨a,rfl,fun Z hZ=>?_⟩
 obtain ⟨a',e,q0,q1⟩:=row_elem (s:=3) (hR.keep (Q:=fun b=>b<base) (W':=Z) (fun _ h=>h) (fun b hl _=>hZ.block b hl)) hs hv (by omega)
 cases e
 exact q1 1 _ rfl
end
set_option maxHeartbeats 16000000 in
theorem posStmts_call:∀(k:Nat) (ss:List Stm),stSzs ss≤k→∀(w:World) (base:Nat) (v:Value) (ps:List Int) (A:Option Addr) (c:Nat),StsB base w A c ss→w.ownsRow base 3 1 v ps.length (i64s ps)→base≤w.heap.size→ps.length+stSzs ss≤1000000000000 →
  Calls Tryz.prog 71 #[v,.slice A ss.length c] w fun e W=>∃v',e=.returned v'∧W.ownsRow base 3 1 v' (ps++posSs ss).length (i64s (ps++posSs ss))∧Below base w W:=by
 intro k
 induction k using Nat.strongRecOn with
 | ind k ih =>
  intro ss hk w base v ps A c hX hR hbase hm
  have hxl:=stSzs_len ss
  replace ih:=A0.mk ih
  replace hX:=A0.mk hX
  replace hk:=A0.mk hk
  obtain ⟨N,hNl⟩:∃N,A0 (ss.length=N):=⟨_,⟨rfl⟩⟩
  rw [hNl.out] at hxl ⊢
  have hA:A0 (w.ownsRow base 3 1 v (ps++posSs (ss.take 0)).length (i64s (ps++posSs (ss.take 0)))):=⟨by rw [List.take_zero,posSs,List.append_nil];exact hR⟩
  have hN6:N≤1000000000000:=by omega
  replace hm:=A0.mk hm
  clear hR
  go_enter Tryz.func71,Tryz.ntmps71
  go_wp2
  go_loopg [0,5,6,7] N (fun m v' i i6 i7 X=>∃j:Nat,i=.int .i64 (j:Int)∧j+m=N∧A0 (X.ownsRow base 3 1 v' (ps++posSs (ss.take j)).length (i64s (ps++posSs (ss.take j))))∧A0 (Below base w X))
  case atStart=>exact ⟨0,rfl,by omega,hA,⟨Below.refl _ _⟩⟩
  case round =>
   obtain ⟨j,rfl,hj,hR,hB⟩:=hrel
   clear hA
   by_cases hjN:j<N
   ·obtain ⟨x,hx⟩:∃x,ss[j]?=some x:=⟨ss[j]'(by rw [hNl.out];exact hjN),List.getElem?_eq_getElem _⟩
    obtain ⟨m,rfl⟩:∃m,gk=m+1:=⟨gk - 1,by omega⟩
    have hsz:=stSzs_at hx
    have htk:=A0.mk (posSs_take hx)
    have hsn:=stSzs_nth hx
    have hlen:=posSs_len (ss.take j)
    obtain ⟨op,name,read,args,blocks,cases,pos⟩:=x
    rw [stSz] at hsz hsn
    obtain ⟨a,A1,c1,A2,c2,A3,c3,rfl,hZ⟩:=hX.out.at hx
    replace hZ:=A0.mk hZ
    have k0:(0:Int)≤(j:Int):=by omega
    have k1:(j:Int)<(N:Int):=by omega
    have wk:IntKind.i64.wrap ((j:Int)+1)=((j+1:Nat):Int):=by rw [IntWalk.i64_in _ (by omega)];rfl
    replace wk:=A0.mk wk
    obtain ⟨T,hT⟩:∃T,A0 (ps++posSs (ss.take j)=T):=⟨_,⟨rfl⟩⟩
    rw [hT.out] at hR
    have hin:A0 (T.length+(1+exSzs args+bkSz blocks+cases.length)≤1000000000000):=⟨by have:=hm.out;rw [←hT.out,List.length_append];omega⟩
    have hka:A0 (1+exSzs args+bkSz blocks+cases.length≤k):=⟨by have:=hk.out;omega⟩
    obtain ⟨nB,hnB⟩:∃n,A0 (blocks.length=n):=⟨_,⟨rfl⟩⟩
    obtain ⟨nC,hnC⟩:∃n,A0 (cases.length=n):=⟨_,⟨rfl⟩⟩
    rw [hnB.out,hnC.out] at hZ
    have hnC6:nC≤1000000000000:=by have:=hin.out;have:=hnC.out;omega
    have hnB6:nB≤1000000000000:=by have:=hin.out;have:=bkSz_len blocks;have:=hnB.out;omega
    have hinfo3:(Tryz.prog.info? 3).map (fun i=>(i.zero,i.size,i.bytes))=some (some (.int .i64 0),1,8):=by kernel_rfl
    obtain ⟨i0,hi,hz0,hz1,hz2⟩:=info_parts hinfo3
    replace hx:=A0.mk hx
    clear hsz hsn hlen hinfo3
    obtain ⟨-,-,-,a6,-,-,-⟩:=hZ.out wr hB.out
    have hbz:=hB.out.size
    have hb0:Below base wr (wr.alloc (.cells #[.int .i64 pos] 3)):=(bA wr (.cells #[.int .i64 pos] 3)).mono (by omega)
    have hR0:=A0.mk (own_below hR.out (bA _ (.cells #[.int .i64 pos] 3)))
    replace hb0:=A0.mk hb0
    go_upto_region 5 with (first|(at_builtin;refine wpList_append_ns rfl (.tmp 14) (.tmp 20) rfl hi hz0 hz1 hz2 rfl hR0.out (ad:=⟨wr.heap.size,0,none⟩) (m:=1) (zs:=[pos]) rfl rfl (fun i z hz=>oA (w:=wr) #[.int .i64 pos] 3 [.int .i64 pos] rfl i (.int .i64 z) (by match i,hz with | 0,hz=>(cases hz;rfl) | i+1,hz=>(simp at hz))) (by have:=hin.out;simp only [List.length_cons,List.length_nil];omega) (by simp;omega) ?_;intro v1 w1 hR1 hb1))
    have hB1:=hB.out.trans (hb0.out.trans hb1)
    obtain ⟨b3,-,-,-,hXa,-,-⟩:=hZ.out w1 hB1
    have CN:=posExprs_call (exSzs args) args (Nat.le_refl _) w1 base v1 _ A1 c1 hXa hR1 (by have:=hb1.size;have:=hb0.out.size;omega) (by have:=hin.out;rw [List.length_append];simp only [List.length_cons,List.length_nil];omega)
    have hbz1:=hB1.size
    replace hB1:=A0.mk hB1
    clear hR1 hb1 a6 hb0 hR0 hXa
    go_upto_region 6 with (first|(go_at_call 109;(with_reducible refine CN.mono ?_);rintro e Y ⟨v2,rfl,hR2,hB2⟩))
    have hB2:=A0.mk (hB1.out.trans hB2)
    clear CN b3
    obtain ⟨T2,hT2⟩:∃T2,A0 (T++[pos]++posEs args=T2):=⟨_,⟨rfl⟩⟩
    rw [hT2.out] at hR2
    have hin2:A0 (T2.length+(bkSz blocks+cases.length)≤1000000000000):=⟨by have:=hin.out;rw [←hT2.out,List.length_append,List.length_append,posEs_len];simp only [List.length_cons,List.length_nil];omega⟩
    have hA2:A0 (Y.ownsRow base 3 1 v2 (T2++(cases.take 0).map (fun x=>x.2.2)).length (i64s (T2++(cases.take 0).map (fun x=>x.2.2)))):=⟨by rw [List.take_zero,List.map_nil,List.append_nil];exact hR2⟩
    clear hR2 hB1
    go_wp2
    go_loopg [0,6] nC (fun m6 v' i X=>∃l:Nat,i=.int .i64 (l:Int)∧l+m6=nC∧A0 (X.ownsRow base 3 1 v' (T2++(cases.take l).map (fun x=>x.2.2)).length (i64s (T2++(cases.take l).map (fun x=>x.2.2))))∧A0 (Below base w X))
    case atStart=>exact ⟨0,rfl,by omega,hA2,hB2⟩
    case round =>
     obtain ⟨l,rfl,hl,hR3,hB3⟩:=hrel
     clear hA2 hB2
     obtain ⟨-,-,a5,-,-,-,hCa⟩:=hZ.out _ hB3.out
     have l0:(0:Int)≤(l:Int):=by omega
     by_cases hlC:l<nC
     ·obtain ⟨x,hcx⟩:∃x,cases[l]?=some x:=⟨cases[l]'(by rw [hnC.out];exact hlC),List.getElem?_eq_getElem _⟩
      obtain ⟨m6,rfl⟩:∃m,gk=m+1:=⟨gk - 1,by omega⟩
      have l1:(l:Int)<(nC:Int):=by omega
      obtain ⟨b,rfl,hcz⟩:=hCa.at hcx
      have b2:=hcz _ (Below.refl _ _)
      have htc:=A0.mk (show (cases.take (l+1)).map (fun x=>x.2.2)=(cases.take l).map (fun x=>x.2.2)++[x.2.2] by rw [take_one hcx,List.map_append];rfl)
      have wl:IntKind.i64.wrap ((l:Int)+1)=((l+1:Nat):Int):=by rw [IntWalk.i64_in _ (by omega)];rfl
      replace wl:=A0.mk wl
      have hbz3:=hB3.out.size
      have hlt:=A0.mk (show ((cases.take l).map (fun x:Con=>x.2.2)).length=l by rw [List.length_map,List.length_take];have:=hnC.out;omega)
      clear hcx hcz hCa
      obtain ⟨cn,cz,cp⟩:=x
      have hb0:Below base wr (wr.alloc (.cells #[.int .i64 cp] 3)):=(bA wr (.cells #[.int .i64 cp] 3)).mono (by omega)
      have hR0:=A0.mk (own_below hR3.out (bA _ (.cells #[.int .i64 cp] 3)))
      replace hb0:=A0.mk hb0
      go_wp2_with (first|(at_builtin;refine wpList_append_ns rfl (.tmp 39) (.tmp 49) rfl hi hz0 hz1 hz2 rfl hR0.out (ad:=⟨wr.heap.size,0,none⟩) (m:=1) (zs:=[cp]) rfl rfl (fun i z hz=>oA (w:=wr) #[.int .i64 cp] 3 [.int .i64 cp] rfl i (.int .i64 z) (by match i,hz with | 0,hz=>(cases hz;rfl) | i+1,hz=>(simp at hz))) (by have:=hin2.out;have:=hnC.out;rw [List.length_append,hlt.out];simp only [List.length_cons,List.length_nil];omega) (by simp;omega) ?_;intro v4 w4 hR4 hb4))
      have hB4:=hB3.out.trans (hb0.out.trans hb4)
      go_roundg m6
      case rel=>exact ⟨l+1,rfl,by omega,⟨by rw [htc.out,←List.append_assoc];exact hR4⟩,⟨hB4⟩⟩
      case measure=>omega
     ·obtain rfl:l=nC:=by omega
      have hll:¬ l<l:=Nat.lt_irrefl _
      obtain ⟨T3,hT3⟩:∃T3,A0 (T2++cases.map (fun x=>x.2.2)=T3):=⟨_,⟨rfl⟩⟩
      have hin3:A0 (T3.length+bkSz blocks≤1000000000000):=⟨by have:=hin2.out;rw [←hT3.out,List.length_append,List.length_map];omega⟩
      rw [show cases.take l=cases from by rw [←hnC.out,List.take_length],hT3.out] at hR3
      have hA3:A0 (wr.ownsRow base 3 1 u0 (T3++posBs (blocks.take 0)).length (i64s (T3++posBs (blocks.take 0)))):=⟨by rw [List.take_zero,posBs,List.append_nil];exact hR3.out⟩
      clear hR3 hCa
      go_wp2
      go_loopg [0,7] nB (fun m7 v' i X=>∃q:Nat,i=.int .i64 (q:Int)∧q+m7=nB∧A0 (X.ownsRow base 3 1 v' (T3++posBs (blocks.take q)).length (i64s (T3++posBs (blocks.take q))))∧A0 (Below base w X))
      case atStart=>exact ⟨0,rfl,by omega,hA3,hB3⟩
      case round =>
       obtain ⟨q,rfl,hq,hR5,hB5⟩:=hrel
       clear hA3 hB3 a5
       obtain ⟨-,a4,-,-,-,hBa,-⟩:=hZ.out _ hB5.out
       have q0:(0:Int)≤(q:Int):=by omega
       by_cases hqB:q<nB
       ·obtain ⟨x,hbx⟩:∃x,blocks[q]?=some x:=⟨blocks[q]'(by rw [hnB.out];exact hqB),List.getElem?_eq_getElem _⟩
        obtain ⟨m7,rfl⟩:∃m,gk=m+1:=⟨gk - 1,by omega⟩
        have q1:(q:Int)<(nB:Int):=by omega
        obtain ⟨b,A5,c5,rfl,hbz5⟩:=hBa.at hbx
        obtain ⟨b2,hSx⟩:=hbz5 _ (Below.refl _ _)
        have htb:=A0.mk (posBs_take hbx)
        have wq:IntKind.i64.wrap ((q:Int)+1)=((q+1:Nat):Int):=by rw [IntWalk.i64_in _ (by omega)];rfl
        replace wq:=A0.mk wq
        have hbz3:=hB5.out.size
        have hba:=bkSz_at hbx
        have hpl:=posBs_len (blocks.take q)
        have CN:=ih.out (stSzs x) (by have:=hka.out;omega) x (Nat.le_refl _) _ base _ _ A5 c5 hSx hR5.out (by omega) (by have:=hin3.out;rw [List.length_append];omega)
        clear hbx hbz5 hBa hba hpl
        replace hSx:=A0.mk hSx
        go_wp2_with (first|(go_at_call 71;(with_reducible refine CN.mono ?_);rintro e Y6 ⟨v6,rfl,hR6,hB6⟩))
        go_roundg m7
        case rel=>exact ⟨q+1,rfl,by omega,⟨by rw [htb.out,←List.append_assoc];exact hR6⟩,⟨hB5.out.trans hB6⟩⟩
        case measure=>omega
       ·obtain rfl:q=nB:=by omega
        have hqq:¬ q<q:=Nat.lt_irrefl _
        clear hBa
        go_wp2
        go_roundg m
        case rel=>exact ⟨j+1,rfl,by omega,⟨by rw [htk.out,←List.append_assoc,hT.out,posS,←List.singleton_append,←List.append_assoc,←List.append_assoc,←List.append_assoc,hT2.out,hT3.out];have:=hR5.out;rwa [show blocks.take q=blocks from by rw [←hnB.out,List.take_length]] at this⟩,hB5⟩
        case measure=>omega
   ·obtain rfl:j=N:=by omega
    have hjj:¬ j<j:=Nat.lt_irrefl _
    go_wp2
    go_ret
    exact ⟨u0,rfl,by have:=hR.out;rwa [←hNl.out,List.take_length] at this,hB.out⟩
def posD (x:Dec):List Int:=[x.pos,x.size.2.2,x.lo.2.2,x.hi.2.2]
def posP (x:Prc):List Int:=x.pos :: posSs x.body
def posT (t:Tre):List Int:=t.decls.flatMap posD++(t.procs.flatMap posP++(posSs t.init++posSs t.loop))
structure Few2 (t:Tre):Prop where
 h1:t.decls.length≤20000
 h2:t.procs.length≤20000
 h3:∀x ∈ t.procs,stSzs x.body≤20000
 h4:stSzs t.init≤20000
 h5:stSzs t.loop≤20000
theorem flat_take {α:Type} {f:α→List Int} {l:List α} {j:Nat} {x:α} (h:l[j]?=some x):(l.take (j+1)).flatMap f=(l.take j).flatMap f++f x:=by
 rw [take_one h,List.flatMap_append];simp
theorem flatD_len (l:List Dec):(l.flatMap posD).length=4 * l.length:=by
 induction l with
 | nil=>rfl
 | cons x l ih=>rw [List.flatMap_cons,List.length_append,ih,List.length_cons];unfold posD;simp only [List.length_cons,List.length_nil];omega
theorem flatP_len (l:List Prc) (h:∀x ∈ l,stSzs x.body≤20000):(l.flatMap posP).length≤20001 * l.length:=by
 induction l with
 | nil=>simp
 | cons x l ih =>
  have h1:=h x (by simp)
  have h2:=posSs_len x.body
  have:=ih fun y hy=>h y (by simp [hy])
  have e:(posP x).length=1+(posSs x.body).length:=by unfold posP;rw [List.length_cons];omega
  rw [List.flatMap_cons,List.length_append,List.length_cons,e];omega
theorem StsAt.toB {w w1:World} {B:Nat} {A:Option Addr} {c:Nat} {xs:List Stm} (h:StsAt w A c xs) (hb:Below w.heap.size w w1) (hB:w.heap.size≤B):StsB B w1 A c xs:=by
 obtain ⟨hc,P,vs,hR,hr⟩:=h.ex
 refine ⟨hc,vs,hR.lt.keep (fun b hb=>by have:=hb.2;omega) fun b hl _=>hb.block b hl.2,?_⟩
 rw [repSs_iff] at hr ⊢
 exact hr.imp fun x v hx=>RepS.keep (P:=fun b=>P b∧b<w.heap.size) (fun b hb=>by have:=hb.2;omega) (fun b hl _=>hb.block b hl.2) x v (repS_lt hx)
theorem PrcsAt.pos {W:World} {A:Option Addr} {xs:List Prc} (h:PrcsAt W A xs) {i:Nat} {x:Prc} (hi:xs[i]?=some x) :
  ∃a A1 c1,A=some a∧W.cell? ⟨(a.add (i * 3)).block,(a.add (i * 3)).off+1,none⟩=some (.slice A1 x.body.length c1)∧W.cell? ⟨(a.add (i * 3)).block,(a.add (i * 3)).off+2,none⟩=some (.int .i64 x.pos)∧StsAt W A1 c1 x.body:=by
 obtain ⟨P,vs,hR,hr⟩:=h.ex
 obtain ⟨v,hv,A1,n1,c1,rfl,hB⟩:=hr.at i _ hi
 obtain ⟨rfl,hS⟩:=repB_at hB
 obtain ⟨a,rfl,q0,q1⟩:=row_elem hR (s:=3) (hr.mem fun _ _ h=>by obtain ⟨A1,n1,c1,rfl,_⟩:=h;rfl) hv (by omega)
 exact ⟨a,A1,c1,rfl,q1 0 _ rfl,q1 1 _ rfl,hS⟩
set_option maxHeartbeats 16000000 in
theorem places_call (t:Tre) (hF:Few2 t) (w:World) (A1:Option Addr) (c1:Nat) (A2:Option Addr) (c2:Nat) (A3:Option Addr) (c3:Nat) (A4:Option Addr) (c4:Nat) (hT:TreAt w t A1 c1 A2 c2 A3 c3 A4 c4) :
  Calls Tryz.prog 38 #[.agg #[.slice A1 t.decls.length c1,.slice A2 t.procs.length c2,.slice A3 t.init.length c3,.slice A4 t.loop.length c4]] w fun e W=>∃v',e=.returned v'∧W.ownsRow (w.heap.size+1) 3 1 v' (posT t).length (i64s (posT t))∧Below w.heap.size w W:=by
 obtain ⟨ds,pr,ini,lp⟩:=t
 unfold posT
 obtain ⟨f1,f2,f3,f4,f5⟩:=hF
 dsimp only at f1 f2 f3 f4 f5 ⊢
 obtain ⟨n1,hn1⟩:∃n,A0 (ds.length=n):=⟨_,⟨rfl⟩⟩
 obtain ⟨n2,hn2⟩:∃n,A0 (pr.length=n):=⟨_,⟨rfl⟩⟩
 obtain ⟨n3,hn3⟩:∃n,A0 (ini.length=n):=⟨_,⟨rfl⟩⟩
 obtain ⟨n4,hn4⟩:∃n,A0 (lp.length=n):=⟨_,⟨rfl⟩⟩
 rw [hn1.out,hn2.out,hn3.out,hn4.out]
 rw [hn1.out] at f1
 rw [hn2.out] at f2
 replace hT:=A0.mk hT
 replace f3:=A0.mk f3
 have hb1:Below w.heap.size w (w.alloc (.cells #[.slice A1 n1 c1,.slice A2 n2 c2,.slice A3 n3 c3,.slice A4 n4 c4] 27)):=bA _ _
 have hx1:(w.alloc (.cells #[.slice A1 n1 c1,.slice A2 n2 c2,.slice A3 n3 c3,.slice A4 n4 c4] 27)).heap[w.heap.size]?=some (.cells #[.slice A1 n1 c1,.slice A2 n2 c2,.slice A3 n3 c3,.slice A4 n4 c4] 27 (0,0)):=bN w _
 have hs1:w.heap.size+1≤(w.alloc (.cells #[.slice A1 n1 c1,.slice A2 n2 c2,.slice A3 n3 c3,.slice A4 n4 c4] 27)).heap.size:=by simp
 obtain ⟨B,hBe⟩:∃B,A0 (w.heap.size+1=B):=⟨_,⟨rfl⟩⟩
 rw [hBe.out]
 have hinfo3:(Tryz.prog.info? 3).map (fun i=>(i.zero,i.size,i.bytes))=some (some (.int .i64 0),1,8):=by kernel_rfl
 obtain ⟨i0,hi,hz0,hz1,hz2⟩:=info_parts hinfo3
 clear hinfo3
 go_enter Tryz.func38,Tryz.ntmps38
 go_upto_region 1 with fail
 generalize w.alloc (.cells #[.slice A1 n1 c1,.slice A2 n2 c2,.slice A3 n3 c3,.slice A4 n4 c4] 27)=w1 at hb1 hx1 hs1 ⊢
 have hBw:w.heap.size<B:=by have:=hBe.out;omega
 rw [hBe.out] at hs1
 generalize hgx:w.heap.size=gx at hx1 hBw ⊢
 replace hgx:=A0.mk hgx
 rw [hgx.out] at hb1
 replace hb1:=A0.mk hb1
 replace hx1:=A0.mk hx1
 have hA:A0 (w1.ownsRow B 3 1 (.slice none 0 0) ((ds.take 0).flatMap posD).length (i64s ((ds.take 0).flatMap posD))):=⟨World.ownsRow_nil _ _ _ _⟩
 go_wp2
 go_loopg [3,4,5] n1 (fun m v' i d X=>∃j:Nat,i=.int .i64 (j:Int)∧j+m=n1∧A0 (X.ownsRow B 3 1 v' ((ds.take j).flatMap posD).length (i64s ((ds.take j).flatMap posD)))∧A0 (Below B w1 X))
 case atStart=>exact ⟨0,rfl,by omega,hA,⟨Below.refl _ _ |>.mono (by omega)⟩⟩
 case round =>
  obtain ⟨j,rfl,hj,hR,hB⟩:=hrel
  clear hA
  have ux:=(hB.out.block gx hBw).trans hx1.out
  have x0:wr.cell? ⟨gx,0,none⟩=some (.slice A1 n1 c1):=bC ux 0
  have hbT:=hb1.out.trans (hB.out.mono (Nat.le_of_lt hBw))
  have hbz:=hB.out.size
  have j0:(0:Int)≤(j:Int):=by omega
  by_cases hjn:j<n1
  ·obtain ⟨x,hx⟩:∃x,ds[j]?=some x:=⟨ds[j]'(by rw [hn1.out];exact hjn),List.getElem?_eq_getElem _⟩
   obtain ⟨m,rfl⟩:∃m,gk=m+1:=⟨gk - 1,by omega⟩
   have j1:(j:Int)<(n1:Int):=by omega
   have wk:IntKind.i64.wrap ((j:Int)+1)=((j+1:Nat):Int):=by rw [IntWalk.i64_in _ (by omega)];rfl
   replace wk:=A0.mk wk
   have htk:=A0.mk (flat_take (f:=posD) hx)
   have hlen:=A0.mk (show ((ds.take j).flatMap posD).length≤80000 by rw [flatD_len,List.length_take];have:=hn1.out;omega)
   obtain ⟨a,hAe,p0,p1⟩:=(hT.out.r1.keep (by rw [hgx.out];exact hbT)).at hx
   subst hAe
   obtain ⟨op,ty,nm,⟨s1,s2,s3⟩,⟨l1,l2,l3⟩,⟨h1,h2,h3⟩,ps⟩:=x
   have y0:wr.cell? (a.add (j * 13))=some (.int .i64 op):=p0 _ rfl
   have y1:wr.cell? ⟨(a.add (j * 13)).block,(a.add (j * 13)).off+1,none⟩=some (.int .i64 ty):=p1 0 _ rfl
   have y2:wr.cell? ⟨(a.add (j * 13)).block,(a.add (j * 13)).off+2,none⟩=some (.string nm):=p1 1 _ rfl
   have y3:wr.cell? ⟨(a.add (j * 13)).block,(a.add (j * 13)).off+3,none⟩=some (.string s1):=p1 2 _ rfl
   have y4:wr.cell? ⟨(a.add (j * 13)).block,(a.add (j * 13)).off+4,none⟩=some (.int .i64 s2):=p1 3 _ rfl
   have y5:wr.cell? ⟨(a.add (j * 13)).block,(a.add (j * 13)).off+5,none⟩=some (.int .i64 s3):=p1 4 _ rfl
   have y6:wr.cell? ⟨(a.add (j * 13)).block,(a.add (j * 13)).off+6,none⟩=some (.string l1):=p1 5 _ rfl
   have y7:wr.cell? ⟨(a.add (j * 13)).block,(a.add (j * 13)).off+7,none⟩=some (.int .i64 l2):=p1 6 _ rfl
   have y8:wr.cell? ⟨(a.add (j * 13)).block,(a.add (j * 13)).off+8,none⟩=some (.int .i64 l3):=p1 7 _ rfl
   have y9:wr.cell? ⟨(a.add (j * 13)).block,(a.add (j * 13)).off+9,none⟩=some (.string h1):=p1 8 _ rfl
   have y10:wr.cell? ⟨(a.add (j * 13)).block,(a.add (j * 13)).off+10,none⟩=some (.int .i64 h2):=p1 9 _ rfl
   have y11:wr.cell? ⟨(a.add (j * 13)).block,(a.add (j * 13)).off+11,none⟩=some (.int .i64 h3):=p1 10 _ rfl
   have y12:wr.cell? ⟨(a.add (j * 13)).block,(a.add (j * 13)).off+12,none⟩=some (.int .i64 ps):=p1 11 _ rfl
   clear p0 p1 hx
   go_upto_region 6 with fail
   have hb2:Below B w1 (wr.alloc (.cells #[.int .i64 op,.int .i64 ty,.string nm,.string s1,.int .i64 s2,.int .i64 s3,.string l1,.int .i64 l2,.int .i64 l3,.string h1,.int .i64 h2,.int .i64 h3,.int .i64 ps] 69)):=hB.out.trans ((bA wr (.cells #[.int .i64 op,.int .i64 ty,.string nm,.string s1,.int .i64 s2,.int .i64 s3,.string l1,.int .i64 l2,.int .i64 l3,.string h1,.int .i64 h2,.int .i64 h3,.int .i64 ps] 69)).mono (by omega))
   have hd:=bN wr (.cells #[.int .i64 op,.int .i64 ty,.string nm,.string s1,.int .i64 s2,.int .i64 s3,.string l1,.int .i64 l2,.int .i64 l3,.string h1,.int .i64 h2,.int .i64 h3,.int .i64 ps] 69)
   have hR2:=A0.mk (own_below hR.out (bA _ (.cells #[.int .i64 op,.int .i64 ty,.string nm,.string s1,.int .i64 s2,.int .i64 s3,.string l1,.int .i64 l2,.int .i64 l3,.string h1,.int .i64 h2,.int .i64 h3,.int .i64 ps] 69)))
   clear y0 y1 y2 y3 y4 y5 y6 y7 y8 y9 y10 y11 y12 x0 ux
   generalize wr.alloc (.cells #[.int .i64 op,.int .i64 ty,.string nm,.string s1,.int .i64 s2,.int .i64 s3,.string l1,.int .i64 l2,.int .i64 l3,.string h1,.int .i64 h2,.int .i64 h3,.int .i64 ps] 69)=X2 at hb2 hd hR2 ⊢
   generalize wr.heap.size=gd at hd ⊢
   have hbz2:=hb2.size
   have y5:X2.cell? ⟨gd,5,none⟩=some (.int .i64 s3):=bC hd 5
   have y8:X2.cell? ⟨gd,8,none⟩=some (.int .i64 l3):=bC hd 8
   have y11:X2.cell? ⟨gd,11,none⟩=some (.int .i64 h3):=bC hd 11
   have y12:X2.cell? ⟨gd,12,none⟩=some (.int .i64 ps):=bC hd 12
   have hb0:Below B X2 (X2.alloc (.cells #[.int .i64 ps,.int .i64 s3,.int .i64 l3,.int .i64 h3] 3)):=(bA X2 (.cells #[.int .i64 ps,.int .i64 s3,.int .i64 l3,.int .i64 h3] 3)).mono (by omega)
   have hR0:=A0.mk (own_below hR2.out (bA _ (.cells #[.int .i64 ps,.int .i64 s3,.int .i64 l3,.int .i64 h3] 3)))
   replace hb0:=A0.mk hb0
   replace hb2:=A0.mk hb2
   clear hbz
   go_wp2_with (first|(at_builtin;refine wpList_append_ns rfl (.tmp 19) (.tmp 31) rfl hi hz0 hz1 hz2 rfl hR0.out (ad:=⟨X2.heap.size,0,none⟩) (m:=4) (zs:=[ps,s3,l3,h3]) rfl rfl (fun i z hz=>oA (w:=X2) #[.int .i64 ps,.int .i64 s3,.int .i64 l3,.int .i64 h3] 3 [.int .i64 ps,.int .i64 s3,.int .i64 l3,.int .i64 h3] rfl i (.int .i64 z) (by match i,hz with | 0,hz=>(cases hz;rfl) | 1,hz=>(cases hz;rfl) | 2,hz=>(cases hz;rfl) | 3,hz=>(cases hz;rfl) | i+4,hz=>(simp at hz))) (by have:=hlen.out;simp only [List.length_cons,List.length_nil];omega) (by simp;omega) ?_;intro v1 X3 hR3 hb3))
   go_roundg m
   case rel=>exact ⟨j+1,rfl,by omega,⟨by rw [htk.out];exact hR3⟩,⟨hb2.out.trans (hb0.out.trans hb3)⟩⟩
   case measure=>omega
  ·obtain rfl:j=n1:=by omega
   have hjj:¬ j<j:=Nat.lt_irrefl _
   obtain ⟨T1,hT1⟩:∃T,A0 (ds.flatMap posD=T):=⟨_,⟨rfl⟩⟩
   have hl1:=A0.mk (show T1.length≤80000 by rw [←hT1.out,flatD_len];have:=hn1.out;omega)
   rw [show ds.take j=ds from by rw [←hn1.out,List.take_length],hT1.out] at hR
   have hA2:A0 (wr.ownsRow B 3 1 u3 (T1++(pr.take 0).flatMap posP).length (i64s (T1++(pr.take 0).flatMap posP))):=⟨by rw [List.take_zero,List.flatMap_nil,List.append_nil];exact hR.out⟩
   clear hR
   go_wp2
   go_loopg [3,6] n2 (fun m6 v' i X=>∃l:Nat,i=.int .i64 (l:Int)∧l+m6=n2∧A0 (X.ownsRow B 3 1 v' (T1++(pr.take l).flatMap posP).length (i64s (T1++(pr.take l).flatMap posP)))∧A0 (Below B w1 X))
   case atStart=>exact ⟨0,rfl,by omega,hA2,hB⟩
   case round =>
    obtain ⟨l,rfl,hl,hR,hB2⟩:=hrel
    clear hA2 hB ux x0 hbT hbz
    have ux:=(hB2.out.block gx hBw).trans hx1.out
    have x1:wr.cell? ⟨gx,1,none⟩=some (.slice A2 n2 c2):=bC ux 1
    have hbT:=hb1.out.trans (hB2.out.mono (Nat.le_of_lt hBw))
    have hbz:=hB2.out.size
    have l0:(0:Int)≤(l:Int):=by omega
    have hlen:=A0.mk (show (T1++(pr.take l).flatMap posP).length≤1000000000 by
     have h1:=flatP_len (pr.take l) fun x hx=>f3.out x (List.mem_of_mem_take hx)
     have h2:=hl1.out;rw [List.length_append];rw [List.length_take] at h1;have:=hn2.out;omega)
    by_cases hln:l<n2
    ·obtain ⟨x,hx⟩:∃x,pr[l]?=some x:=⟨pr[l]'(by rw [hn2.out];exact hln),List.getElem?_eq_getElem _⟩
     obtain ⟨m6,rfl⟩:∃m,gk=m+1:=⟨gk - 1,by omega⟩
     have l1:(l:Int)<(n2:Int):=by omega
     have wl:IntKind.i64.wrap ((l:Int)+1)=((l+1:Nat):Int):=by rw [IntWalk.i64_in _ (by omega)];rfl
     replace wl:=A0.mk wl
     have htp:=A0.mk (flat_take (f:=posP) hx)
     have hsb:=A0.mk (f3.out x (List.mem_of_getElem? hx))
     obtain ⟨a,A5,c5,hAe,q1,q2,hS⟩:=(hT.out.r2.keep (by rw [hgx.out];exact hbT)).pos hx
     subst hAe
     replace hS:=A0.mk hS
     obtain ⟨nm,body,pos⟩:=x
     have hxx:=A0.mk hx
     dsimp only at q1 q2
     have hblk:=World.block_lt_of_cell? wr _ q1
     have hblkT:(a.add (l * 3)).block<gx:=by
      obtain ⟨a',A5',c5',e,q1',-,-⟩:=hT.out.r2.pos hx
      cases e;have:=World.block_lt_of_cell? w _ q1';rw [hgx.out] at this;exact this
     clear hx
     have hb0:Below B wr (wr.alloc (.cells #[.int .i64 pos] 3)):=(bA wr (.cells #[.int .i64 pos] 3)).mono (by omega)
     have hR0:=A0.mk (own_below hR.out (bA _ (.cells #[.int .i64 pos] 3)))
     replace hb0:=A0.mk hb0
     go_upto_region 11 with (first|(at_builtin;refine wpList_append_ns rfl (.tmp 40) (.tmp 47) rfl hi hz0 hz1 hz2 rfl hR0.out (ad:=⟨wr.heap.size,0,none⟩) (m:=1) (zs:=[pos]) rfl rfl (fun i z hz=>oA (w:=wr) #[.int .i64 pos] 3 [.int .i64 pos] rfl i (.int .i64 z) (by match i,hz with | 0,hz=>(cases hz;rfl) | i+1,hz=>(simp at hz))) (by have:=hlen.out;simp only [List.length_cons,List.length_nil];omega) (by simp;omega) ?_;intro v1 X3 hR3 hb3))
     have hb3':=hb0.out.trans hb3
     have r1:X3.cell? ⟨(a.add (l * 3)).block,(a.add (l * 3)).off+1,none⟩=some (.slice A5 body.length c5):=(World.cell?_of_block (hb3'.block _ (by dsimp only;omega))).trans q1
     have ux3:=(hb3'.block gx hBw).trans ux
     have x3:=bC ux3 1
     have hB3:=hB2.out.trans hb3'
     have hbw3:Below w.heap.size w X3:=by rw [hgx.out];exact hb1.out.trans (hB3.mono (Nat.le_of_lt hBw))
     have hSB:StsB B X3 A5 c5 body:=by
      obtain ⟨a',A5',c5',e,q1',-,hS0⟩:=hT.out.r2.pos hxx.out
      cases e
      have e2:X3.cell? ⟨(a.add (l * 3)).block,(a.add (l * 3)).off+1,none⟩=some (.slice A5' body.length c5'):=(World.cell?_of_block (a:=⟨(a.add (l * 3)).block,(a.add (l * 3)).off+1,none⟩) (hbw3.block (a.add (l * 3)).block (by rw [hgx.out];exact hblkT))).trans q1'
      rw [r1] at e2;cases e2
      exact hS0.toB hbw3 (by rw [hgx.out];omega)
     have CN:=posStmts_call (stSzs body) body (Nat.le_refl _) X3 B v1 _ A5 c5 hSB hR3 (by have:=hb3'.size;omega) (by have:=hlen.out;have:=hsb.out;dsimp only at this;rw [List.length_append];simp only [List.length_cons,List.length_nil];omega)
     replace hB3:=A0.mk hB3
     replace hSB:=A0.mk hSB
     clear hR3 q1 q2 x1 ux hb3 hb3' hbw3
     go_wp2_with (first|(go_at_call 71;(with_reducible refine CN.mono ?_);rintro e X4 ⟨v4,rfl,hR4,hb4⟩))
     go_roundg m6
     case rel=>exact ⟨l+1,rfl,by omega,⟨by rw [htp.out,show posP ⟨nm,body,pos⟩=[pos]++posSs body from rfl,←List.append_assoc,←List.append_assoc];exact hR4⟩,⟨hB3.out.trans hb4⟩⟩
     case measure=>omega
    ·obtain rfl:l=n2:=by omega
     have hll:¬ l<l:=Nat.lt_irrefl _
     rw [show pr.take l=pr from by rw [←hn2.out,List.take_length]] at hR hlen
     have x2:wr.cell? ⟨gx,2,none⟩=some (.slice A3 n3 c3):=bC ux 2
     have hbw3:Below w.heap.size w wr:=by rw [hgx.out];exact hbT
     have S3:=A0.mk (hT.out.r3.toB hbw3 (show w.heap.size≤B by rw [hgx.out];omega))
     have CN:=posStmts_call (stSzs ini) ini (Nat.le_refl _) wr B u3 _ A3 c3 S3.out hR.out (by omega) (by have:=hlen.out;omega)
     rw [hn3.out] at CN
     go_upto_region 13 with (first|(go_at_call 71;(with_reducible refine CN.mono ?_);rintro e X5 ⟨v5,rfl,hR5,hb5⟩))
     have ux5:=(hb5.block gx hBw).trans ux
     have x5:X5.cell? ⟨gx,3,none⟩=some (.slice A4 n4 c4):=bC ux5 3
     have hB5:=hB2.out.trans hb5
     have hbw5:Below w.heap.size w X5:=by rw [hgx.out];exact hb1.out.trans (hB5.mono (Nat.le_of_lt hBw))
     have S4:=A0.mk (hT.out.r4.toB hbw5 (show w.heap.size≤B by rw [hgx.out];omega))
     have hsi:=posSs_len ini
     have CN:=posStmts_call (stSzs lp) lp (Nat.le_refl _) X5 B v5 _ A4 c4 S4.out hR5 (by have:=hB5.size;omega) (by have:=hlen.out;rw [List.length_append];omega)
     rw [hn4.out] at CN
     replace hB5:=A0.mk hB5
     clear hR5 hb5 x1 x2 ux hbw3 hbT
     go_wp2_with (first|(go_at_call 71;(with_reducible refine CN.mono ?_);rintro e X6 ⟨v6,rfl,hR6,hb6⟩))
     go_ret
     refine ⟨v6,rfl,?_,by have:=hb1.out.trans ((hB5.out.trans hb6).mono (Nat.le_of_lt hBw));rwa [←hgx.out] at this⟩
     rw [hT1.out,←List.append_assoc,←List.append_assoc]
     exact hR6
theorem Few2.few {t:Tre} (h:Few2 t):Few t:=⟨by have:=h.h1;omega,by have:=h.h2;omega,fun x hx=>by have:=h.h3 x hx;omega,by have:=h.h4;omega,by have:=h.h5;omega⟩
set_option maxHeartbeats 8000000 in
theorem just_call (t:Tre) (hF:Few2 t) (W:World) (A1:Option Addr) (c1:Nat) (A2:Option Addr) (c2:Nat) (A3:Option Addr) (c3:Nat) (A4:Option Addr) (c4:Nat) (B1:Option Addr) (d1:Nat) (B2:Option Addr) (d2:Nat) (B3:Option Addr) (d3:Nat) (B4:Option Addr) (d4:Nat)
  (hT:TreAt W t A1 c1 A2 c2 A3 c3 A4 c4) (hU:TreAt W t B1 d1 B2 d2 B3 d3 B4 d4) :
  Calls Tryz.prog 12 #[.agg #[.slice A1 t.decls.length c1,.slice A2 t.procs.length c2,.slice A3 t.init.length c3,.slice A4 t.loop.length c4],.agg #[.slice B1 t.decls.length d1,.slice B2 t.procs.length d2,.slice B3 t.init.length d3,.slice B4 t.loop.length d4]] W fun e w=>e=.returned (.bool true)∧Below W.heap.size W w:=by
 have SA:=fun X (hX:Below W.heap.size W X)=>same_call t t rfl hF.few X A1 c1 A2 c2 A3 c3 A4 c4 B1 d1 B2 d2 B3 d3 B4 d4 (hT.keep hX) (hU.keep hX)
 have P1:=fun X (hX:Below W.heap.size W X)=>places_call t hF X A1 c1 A2 c2 A3 c3 A4 c4 (hT.keep hX)
 have P2:=fun X (hX:Below W.heap.size W X)=>places_call t hF X B1 d1 B2 d2 B3 d3 B4 d4 (hU.keep hX)
 clear hT hU
 obtain ⟨L,hL⟩:∃L,A0 (posT t=L):=⟨_,⟨rfl⟩⟩
 have hLl:L.length≤1000000000:=by
  rw [←hL.out];unfold posT
  have h1:=flatP_len t.procs hF.h3
  have h2:=hF.h1;have h3:=hF.h2;have h4:=hF.h4;have h5:=hF.h5
  have h6:=posSs_len t.init;have h7:=posSs_len t.loop
  rw [List.length_append,List.length_append,List.length_append,flatD_len];omega
 simp only [hL.out] at P1 P2
 generalize t.decls.length=n1 at *
 generalize t.procs.length=n2 at *
 generalize t.init.length=n3 at *
 generalize t.loop.length=n4 at *
 have hb1:Below W.heap.size W ((W.alloc (.cells #[.slice A1 n1 c1,.slice A2 n2 c2,.slice A3 n3 c3,.slice A4 n4 c4] 27)).alloc (.cells #[.slice B1 n1 d1,.slice B2 n2 d2,.slice B3 n3 d3,.slice B4 n4 d4] 27)):=(bA _ _).alloc (by simp) _
 have hx:((W.alloc (.cells #[.slice A1 n1 c1,.slice A2 n2 c2,.slice A3 n3 c3,.slice A4 n4 c4] 27)).alloc (.cells #[.slice B1 n1 d1,.slice B2 n2 d2,.slice B3 n3 d3,.slice B4 n4 d4] 27)).heap[W.heap.size]?=some (.cells #[.slice A1 n1 c1,.slice A2 n2 c2,.slice A3 n3 c3,.slice A4 n4 c4] 27 (0,0)):=(_root_.Go.heap_alloc_old _ _ (bL (bN W _))).trans (bN W _)
 have hy:((W.alloc (.cells #[.slice A1 n1 c1,.slice A2 n2 c2,.slice A3 n3 c3,.slice A4 n4 c4] 27)).alloc (.cells #[.slice B1 n1 d1,.slice B2 n2 d2,.slice B3 n3 d3,.slice B4 n4 d4] 27)).heap[W.heap.size+1]?=some (.cells #[.slice B1 n1 d1,.slice B2 n2 d2,.slice B3 n3 d3,.slice B4 n4 d4] 27 (0,0)):=by
  have:=bN (W.alloc (.cells #[.slice A1 n1 c1,.slice A2 n2 c2,.slice A3 n3 c3,.slice A4 n4 c4] 27)) (.cells #[.slice B1 n1 d1,.slice B2 n2 d2,.slice B3 n3 d3,.slice B4 n4 d4] 27)
  rwa [show (W.alloc (.cells #[.slice A1 n1 c1,.slice A2 n2 c2,.slice A3 n3 c3,.slice A4 n4 c4] 27)).heap.size=W.heap.size+1 by simp] at this
 go_enter Tryz.func12,Tryz.ntmps12
 go_upto_region 1 with fail
 generalize (W.alloc (.cells #[.slice A1 n1 c1,.slice A2 n2 c2,.slice A3 n3 c3,.slice A4 n4 c4] 27)).alloc (.cells #[.slice B1 n1 d1,.slice B2 n2 d2,.slice B3 n3 d3,.slice B4 n4 d4] 27)=X1 at hb1 hx hy ⊢
 have CN:=SA _ hb1
 have x0:X1.cell? ⟨W.heap.size,0,none⟩=some (.slice A1 n1 c1):=bC hx 0
 have x1:X1.cell? ⟨W.heap.size,1,none⟩=some (.slice A2 n2 c2):=bC hx 1
 have x2:X1.cell? ⟨W.heap.size,2,none⟩=some (.slice A3 n3 c3):=bC hx 2
 have x3:X1.cell? ⟨W.heap.size,3,none⟩=some (.slice A4 n4 c4):=bC hx 3
 have y0:X1.cell? ⟨W.heap.size+1,0,none⟩=some (.slice B1 n1 d1):=bC hy 0
 have y1:X1.cell? ⟨W.heap.size+1,1,none⟩=some (.slice B2 n2 d2):=bC hy 1
 have y2:X1.cell? ⟨W.heap.size+1,2,none⟩=some (.slice B3 n3 d3):=bC hy 2
 have y3:X1.cell? ⟨W.heap.size+1,3,none⟩=some (.slice B4 n4 d4):=bC hy 3
 go_upto_region 3 with (first|(go_at_call 16;(with_reducible refine CN.mono ?_);rintro e X2 ⟨rfl,hb2⟩))
 replace hx:=bB hx hb2
 replace hy:=bB hy hb2
 replace hb1:=hb1.trans (hb2.mono hb1.size)
 clear x0 x1 x2 x3 y0 y1 y2 y3 hb2 CN SA
 have CN:=P1 _ hb1
 have x0:X2.cell? ⟨W.heap.size,0,none⟩=some (.slice A1 n1 c1):=bC hx 0
 have x1:X2.cell? ⟨W.heap.size,1,none⟩=some (.slice A2 n2 c2):=bC hx 1
 have x2:X2.cell? ⟨W.heap.size,2,none⟩=some (.slice A3 n3 c3):=bC hx 2
 have x3:X2.cell? ⟨W.heap.size,3,none⟩=some (.slice A4 n4 c4):=bC hx 3
 go_upto_region 4 with (first|(go_at_call 38;(with_reducible refine CN.mono ?_);rintro e X3 ⟨v1,rfl,hR1,hb2⟩))
 replace hy:=bB hy hb2
 replace hb1:=hb1.trans (hb2.mono hb1.size)
 clear x0 x1 x2 x3 hb2 CN P1 hx
 have CN:=P2 _ hb1
 have y0:X3.cell? ⟨W.heap.size+1,0,none⟩=some (.slice B1 n1 d1):=bC hy 0
 have y1:X3.cell? ⟨W.heap.size+1,1,none⟩=some (.slice B2 n2 d2):=bC hy 1
 have y2:X3.cell? ⟨W.heap.size+1,2,none⟩=some (.slice B3 n3 d3):=bC hy 2
 have y3:X3.cell? ⟨W.heap.size+1,3,none⟩=some (.slice B4 n4 d4):=bC hy 3
 go_upto_region 5 with (first|(go_at_call 38;(with_reducible refine CN.mono ?_);rintro e X4 ⟨v2,rfl,hR2,hb2⟩))
 replace hR1:=own_below hR1 hb2
 replace hb1:=hb1.trans (hb2.mono hb1.size)
 clear y0 y1 y2 y3 hb2 CN P2 hy
 obtain ⟨R1,k1,rfl,hr1⟩:=own_nums hR1
 obtain ⟨R2,k2,rfl,hr2⟩:=own_nums hR2
 clear hR1 hR2
 obtain ⟨N,hN⟩:∃N,A0 (L.length=N):=⟨_,⟨rfl⟩⟩
 rw [hN.out] at hr1 hr2 hLl ⊢
 replace hr1:=A0.mk hr1
 replace hr2:=A0.mk hr2
 replace hb1:=A0.mk hb1
 go_wp2
 go_loopg [7] N (fun m i X=>∃j:Nat,i=.int .i64 (j:Int)∧j+m=N∧∃q,X=X4.drewN q)
 case atStart=>exact ⟨0,rfl,by omega,0,rfl⟩
 case round =>
  obtain ⟨j,rfl,hj,q,rfl⟩:=hrel
  have j0:(0:Int)≤(j:Int):=by omega
  by_cases hjn:j<N
  ·obtain ⟨m,rfl⟩:∃m,gk=m+1:=⟨gk - 1,by omega⟩
   have j1:(j:Int)<(N:Int):=by omega
   have wk:IntKind.i64.wrap ((j:Int)+1)=((j+1:Nat):Int):=by rw [IntWalk.i64_in _ (by omega)];rfl
   replace wk:=A0.mk wk
   obtain ⟨a,rfl,a0⟩:=hr1.out j hjn
   obtain ⟨b,rfl,b0⟩:=hr2.out j hjn
   go_wp2
   go_quiet (fail)
   go_wp2
   go_roundg m
   case rel=>exact ⟨j+1,rfl,by omega,_,rfl⟩
   case measure=>omega
  ·obtain rfl:j=N:=by omega
   have hjj:¬ j<j:=Nat.lt_irrefl _
   go_wp2
   go_ret
   exact ⟨rfl,bel_drewN hb1.out q⟩
def textK (i:Int):ByteArray:=if i<3 then ⟨#[]⟩ else if 53≤i then ⟨#[]⟩ else Wds.getD (i - 3).toNat ⟨#[]⟩
set_option maxHeartbeats 2000000 in
theorem words_call (W:World):Calls Tryz.prog 136 #[] W fun e w=>e=.returned (.slice (some ⟨W.heap.size,0,none⟩) 25 25)∧w=W.alloc (.cells ((Wds.take 25).map Value.string).toArray 9):=by
 go_enter Tryz.func136,Tryz.ntmps136
 go_wp2
 go_ret
 exact ⟨rfl,rfl⟩
set_option maxHeartbeats 2000000 in
theorem marks_call (W:World):Calls Tryz.prog 137 #[] W fun e w=>e=.returned (.slice (some ⟨W.heap.size,0,none⟩) 25 25)∧w=W.alloc (.cells ((Wds.drop 25).map Value.string).toArray 9):=by
 go_enter Tryz.func137,Tryz.ntmps137
 go_wp2
 go_ret
 exact ⟨rfl,rfl⟩
def strs (l:List ByteArray):List Value:=l.map Value.string
theorem strs_at (l:List ByteArray) (j:Nat) (hj:j<l.length):(strs l)[j]?=some (.string (l.getD j ⟨#[]⟩)):=by
 simp [strs,List.getD,hj]
set_option maxHeartbeats 2000000 in
theorem text3_call (k:Int) (W:World):Calls Tryz.prog 104 #[.int .i64 k] W fun e w=>e=.returned (.string (textK k))∧Below W.heap.size W w:=by
 have WC:=words_call W
 have MC:=fun W=>marks_call W
 have hA:=A0.mk (World.ownsRow_lit (e:=9) (base:=W.heap.size) (size:=1) W ((Wds.take 25).map Value.string).toArray 25 (Nat.le_refl _) (by decide) rfl)
 have hA2:=A0.mk (hA.out.alloc (.cells ((Wds.drop 25).map Value.string).toArray 9))
 have hinfo:(Tryz.prog.info? 9).map (fun i=>(i.zero,i.size,i.bytes))=some (some (.string ⟨#[]⟩),1,16):=by kernel_rfl
 obtain ⟨i9,hi9,hz0,hz1,hz2⟩:∃i,Tryz.prog.info? 9=some i∧i.zero=some (.string ⟨#[]⟩)∧i.size=1∧i.bytes=16:=by
  cases h:Tryz.prog.info? 9 with
  | none=>rw [h] at hinfo;cases hinfo
  | some i =>
   rw [h] at hinfo
   simp only [Option.map_some,Option.some.injEq,Prod.mk.injEq] at hinfo
   exact ⟨i,rfl,hinfo.1,hinfo.2.1,hinfo.2.2⟩
 have hM:=A0.mk (bN (W.alloc (.cells ((Wds.take 25).map Value.string).toArray 9)) (.cells ((Wds.drop 25).map Value.string).toArray 9))
 have hsz:(W.alloc (.cells ((Wds.take 25).map Value.string).toArray 9)).heap.size=W.heap.size+1:=by simp
 generalize hg1:(.cells ((Wds.take 25).map Value.string).toArray 9:Obj)=o1 at WC hA hA2 hM hsz
 generalize hg2:(.cells ((Wds.drop 25).map Value.string).toArray 9:Obj)=o2 at MC hA2 hM
 replace hg1:=A0.mk hg1
 replace hg2:=A0.mk hg2
 have hb2:=A0.mk ((bA W o1).alloc (by simp) o2)
 rw [hsz] at hM
 have HC:∀(j:Nat) u,(strs (Wds.drop 25))[j]?=some u→((W.alloc o1).alloc o2).cell? ((⟨W.heap.size+1,0,none⟩:Addr).add j)=some u:=by
  intro j u hu
  have h:=hM.out
  rw [←hg2.out] at h
  have e:(⟨W.heap.size+1,0,none⟩:Addr).add j=⟨W.heap.size+1,j,none⟩:=by unfold Addr.add;split <;> simp_all
  rw [e,←hg2.out,bC h j,←hu]
  simp [strs]
 have H1:∀u ∈ strs (Wds.drop 25),u.oneCell'=true:=by intro u hu;obtain ⟨s,_,rfl⟩:=List.mem_map.1 hu;rfl
 have H2:W.heap.size≤((W.alloc o1).alloc o2).heap.size:=by simp;omega
 clear hinfo hA
 obtain ⟨T,hT⟩:∃T,A0 (textK k=T):=⟨_,⟨rfl⟩⟩
 rw [hT.out]
 go_enter Tryz.func104,Tryz.ntmps104
 go_upto_region 2 with (first|(go_at_call 136;with_reducible refine WC.mono ?_;rintro e w2 ⟨rfl,rfl⟩)|(go_at_call 137;with_reducible refine (MC _).mono ?_;rintro e w3 ⟨rfl,rfl⟩)|(at_builtin;refine wpList_append_own _ rfl (.tmp 4) (.tmp 5) 156 rfl W.heap.size 9 i9 (.string ⟨#[]⟩) 1 16 Tryz.underlying156 hi9 hz0 hz1 hz2 rfl (by decide) _ _ _ rfl hA2.out ⟨W.heap.size+1,0,none⟩ 25 25 (strs (Wds.drop 25)) rfl rfl HC H1 (by decide) (by decide) H2 ?_;intro v w4 hown hg hif;clear hif))
 have hb4:Below W.heap.size W w4:=hb2.out.trans ⟨hg.os,hg.tape,hg.output,hg.size,fun j hj=>hg.block j (by have:=hb2.out.size;omega) (fun e=>by have:=(hA2.out.lt j e.symm).1;omega)⟩
 obtain ⟨g,cap,rfl⟩:∃g cap,v=.slice (some ⟨g,0,none⟩) 50 cap:=by
  rcases hown.2 with ⟨_,h0⟩|⟨g,cap,cur,rfl,_⟩
  ·omega
  ·exact ⟨g,cap,rfl⟩
 have hcl:=A0.mk (fun j u h=>hown.cells (g:=g) rfl j u h)
 replace hb4:=A0.mk hb4
 clear hA2 hM hb2 WC MC hg hown hsz hi9 hz0 hz1 hz2 HC H1 H2
 by_cases h1:k<3
 ·have hT2:A0 (T=⟨#[]⟩):=⟨by rw [←hT.out];unfold textK;rw [if_pos h1]⟩
  go_wp2
  go_ret
  exact ⟨by rw [hT2.out];rfl,hb4.out⟩
 by_cases h2:53≤k
 ·have hT2:A0 (T=⟨#[]⟩):=⟨by rw [←hT.out];unfold textK;rw [if_neg h1,if_pos h2]⟩
  go_wp2
  go_ret
  exact ⟨by rw [hT2.out];rfl,hb4.out⟩
 obtain ⟨j,hj,rfl⟩:∃j:Nat,j<50∧k=(j:Int)+3:=⟨(k - 3).toNat,by omega,by omega⟩
 have d1:decide ((j:Int)+3<3)=false:=decide_eq_false h1
 have d2:decide ((53:Int)≤(j:Int)+3)=false:=decide_eq_false h2
 have e1:IntKind.i64.wrap ((j:Int)+3 - 3)=(j:Int):=by rw [IntWalk.i64_in _ (by omega)];omega
 have j0:(0:Int)≤(j:Int):=by omega
 have j1:(j:Int)<50:=by omega
 have hc:=hcl.out j (.string (Wds.getD j ⟨#[]⟩)) (by
  have e:∀j:Fin 50,(((Wds.take 25).map Value.string).toArray.toList++strs (Wds.drop 25))[j.val]?=some (.string (Wds.getD j.val ⟨#[]⟩)):=by
   intro j
   rw [show ((Wds.take 25).map Value.string).toArray.toList++strs (Wds.drop 25)=strs Wds by rfl,strs_at _ _ (by rw [Wds_len];exact j.isLt)]
  exact e ⟨j,hj⟩)
 have hT2:Wds.getD j ⟨#[]⟩=T:=by rw [←hT.out];unfold textK;rw [if_neg h1,if_neg h2,show ((j:Int)+3 - 3).toNat=j by omega]
 rw [hT2,show (⟨g,0,none⟩:Addr).add j=⟨g,j,none⟩ by unfold Addr.add;split <;> simp_all] at hc
 clear hcl h1 h2 hT hT2
 go_wp2
 go_ret
 exact ⟨rfl,hb4.out⟩
inductive Sta where
 | here (a:Nat) (d:Int)
 | lost (p er:Int)
def Sta.go {α:Type} (s:Sta) (S:Nat→Int→Out α):Out α:=match s with
 | .here a d=>S a d
 | .lost p er=>.bad p er
def Out.sta {α:Type}:Out α→Sta
 | .ok _ a d=>.here a d
 | .bad p er=>.lost p er
def Out.val {α:Type}:Out α→Option α
 | .ok x _ _=>some x
 | .bad _ _=>none
abbrev Ctx.rcells (c:Ctx) (a:Nat) (d p er:Int):Array Value :=
 #[.slice c.A c.n c.cap,.slice c.B c.L.length c.tc,.int .i64 a,.int .i64 d,.int .i64 p,.int .i64 er]
structure RAt (c:Ctx) (W:World) (a:Nat) (d p er:Int):Prop where
 blk:W.heap[c.g]?=some (.cells (c.rcells a d p er) 65 (0,0))
 lies:Lies W c.A c.n c.xs
 toks:TokAt W c.B c.L
section
variable {c:Ctx} {W W':World} {a:Nat} {d p er:Int}
theorem RAt.drewN (h:RAt c W a d p er) (q:Nat):RAt c (W.drewN q) a d p er:=⟨h.blk,fun i hi=>h.lies i hi,fun i hi=>h.toks i hi⟩
theorem RAt.c0 (h:RAt c W a d p er):W.cell? ⟨c.g,0,none⟩=some (.slice c.A c.n c.cap):=(bC h.blk 0).trans rfl
theorem RAt.c1 (h:RAt c W a d p er):W.cell? ⟨c.g,1,none⟩=some (.slice c.B c.L.length c.tc):=(bC h.blk 1).trans rfl
theorem RAt.c2 (h:RAt c W a d p er):W.cell? ⟨c.g,2,none⟩=some (.int .i64 a):=(bC h.blk 2).trans rfl
theorem RAt.c3 (h:RAt c W a d p er):W.cell? ⟨c.g,3,none⟩=some (.int .i64 d):=(bC h.blk 3).trans rfl
theorem RAt.c4 (h:RAt c W a d p er):W.cell? ⟨c.g,4,none⟩=some (.int .i64 p):=(bC h.blk 4).trans rfl
theorem RAt.c5 (h:RAt c W a d p er):W.cell? ⟨c.g,5,none⟩=some (.int .i64 er):=(bC h.blk 5).trans rfl
theorem RAt.fz (h:RAt c W a d p er) (i:Nat):W.frozen? ⟨c.g,i,none⟩=false:=bF h.blk i
theorem TokAt.below {B:Option Addr} {L:List Tok} (h:TokAt W B L) (hb:Below W.heap.size W W'):TokAt W' B L:=fun i hi=>by
 obtain ⟨b,e,q0,q1,q2,q3⟩:=h i hi
 exact ⟨b,e,(hb.cell (World.block_lt_of_cell? W _ q0)).trans q0,(hb.cell (World.block_lt_of_cell? W _ q1)).trans q1,(hb.cell (World.block_lt_of_cell? W _ q2)).trans q2,(hb.cell (World.block_lt_of_cell? W _ q3)).trans q3⟩
theorem RAt.below (h:RAt c W a d p er) (hb:Below W.heap.size W W'):RAt c W' a d p er:=⟨bB h.blk hb,h.lies.below hb,h.toks.below hb⟩
theorem RAt.frame (hG:Good c) {a':Nat} {d' p' er':Int} (h:RAt c W a d p er) (hg:W.grownBy W' (some c.g)) (hb:W'.heap[c.g]?=some (.cells (c.rcells a' d' p' er') 65 (0,0))):RAt c W' a' d' p' er':=by
 refine ⟨hb,fun j hj=>?_,fun j hj=>?_⟩
 ·obtain ⟨x,hx,hc⟩:=h.lies j hj
  refine ⟨x,hx,?_⟩
  rw [World.cell?_of_block (hg.block _ (World.block_lt_of_cell? W _ hc) (fun e=>by
   have:=Option.some.inj e
   have hbl:(x.add j).block=x.block:=by unfold Addr.add;split <;> rfl
   exact hG.hA x hx (by rw [←hbl];exact this)))]
  exact hc
 ·obtain ⟨b,hb,q0,q1,q2,q3⟩:=h.toks j hj
  have hbl:(b.add (j * 4)).block=b.block:=by unfold Addr.add;split <;> rfl
  have hk:=hg.block (b.add (j * 4)).block (World.block_lt_of_cell? W _ q0) (fun e=>hG.hB b hb (by rw [←hbl];exact Option.some.inj e))
  have key:∀k,W'.cell? ⟨(b.add (j * 4)).block,k,none⟩=W.cell? ⟨(b.add (j * 4)).block,k,none⟩:=fun k=>World.cell?_of_block hk
  exact ⟨b,hb,(World.cell?_of_block hk).trans q0,(key _).trans q1,(key _).trans q2,(key _).trans q3⟩
theorem RAt.put (hG:Good c) (h:RAt c W a d p er) (i:Nat) (v:Value) {a':Nat} {d' p' er':Int} (e:(c.rcells a d p er).setIfInBounds i v=c.rcells a' d' p' er'):RAt c (W.setCell ⟨c.g,i,none⟩ v) a' d' p' er' :=
 h.frame hG (gP (World.grownBy.refl _ _) _) (bP h.blk i v e)
end
def RSt (c:Ctx) (W:World):Sta→Prop
 | .here a d=>RAt c W a d 0 0∧a≤c.L.length∧-(a:Int)≤d∧d≤64
 | .lost p er=>er≠0∧∃a d,RAt c W a d p er
theorem RSt.below {c:Ctx} {W W':World}:∀{s:Sta},RSt c W s→Below W.heap.size W W'→RSt c W' s
 | .here _ _,h,hb=>⟨h.1.below hb,h.2⟩
 | .lost _ _,⟨h,a,d,k⟩,hb=>⟨h,a,d,k.below hb⟩
theorem grown_of_below {W W':World} {row:Option Nat} (h:Below W.heap.size W W'):W.grownBy W' row:=⟨h.os,h.tape,h.output,h.size,fun k hk _=>h.block k hk⟩
def RPost {α:Type} (c:Ctx) (W:World) (rep:World→Value→Option α→Prop) (o:Out α) (e:Ending) (W':World):Prop :=
 W.grownBy W' (some c.g)∧(∃v,e=.returned v∧rep W' v o.val)∧RSt c W' o.sta
def wordB (k:Int):ByteArray:=if k=1 then ⟨#[110,97,109,101]⟩ else if k=2 then ⟨#[105,110,116]⟩ else textK k
theorem word_inj:∀a b:Fin 53,b≠0→(wordB a.val).toList=(wordB b.val).toList→a=b:=by decide +kernel
theorem word_eq {k K:Int} (h0:0≤k) (hK:1≤K) (hK2:K≤52):((wordB k).toList==(wordB K).toList)=decide (k=K):=by
 by_cases hk:k=K
 ·subst hk;simp
 ·rw [decide_eq_false hk,beq_eq_false_iff_ne]
  intro e
  obtain ⟨n,rfl⟩:=Int.eq_ofNat_of_zero_le (show 0≤K by omega)
  obtain ⟨m,rfl⟩:=Int.eq_ofNat_of_zero_le h0
  by_cases hm:m<53
  ·have:=word_inj ⟨m,hm⟩ ⟨n,by omega⟩ (by intro h;have:=congrArg Fin.val h;simp at this;omega) e
   have:=congrArg Fin.val this
   simp at this
   omega
  ·have h1:wordB (m:Int)=wordB (0:Int):=by
    unfold wordB textK
    rw [if_neg (by omega),if_neg (by omega),if_neg (by omega),if_pos (by omega)]
    rfl
   rw [h1] at e
   have:=word_inj 0 ⟨n,by omega⟩ (by intro h;have:=congrArg Fin.val h;simp at this;omega) e
   have:=congrArg Fin.val this
   simp at this
   omega
theorem kd_nonneg {c:Ctx} (hG:Good c) (a:Nat):0≤kd c a:=by
 unfold kd
 rcases Nat.lt_or_ge a c.L.length with h | h
 ·rw [List.getD_eq_getElem?_getD,List.getElem?_eq_getElem h]
  have:=hG.kinds _ (List.getElem_mem h)
  simp only [Option.getD_some]
  omega
 ·rw [List.getD_eq_getElem?_getD,List.getElem?_eq_none h];decide
set_option maxHeartbeats 1000000 in
theorem pC {c:Ctx} {W:World} {a:Nat} {d p er:Int} (h:RAt c W a d p er) :
  Calls Tryz.prog 33 #[c.me] W fun e W'=>e=.returned (.int .i64 (ps c a))∧∃q,W'=W.drewN q:=by
 have c0:=h.c0
 have c1:=h.c1
 have c2:=h.c2
 have ha:(0:Int)≤(a:Int):=by omega
 by_cases hal:a<c.L.length
 ·have d1:decide ((c.L.length:Int)≤(a:Int))=false:=decide_eq_false (by omega)
  have a1:(a:Int)<(c.L.length:Int):=by omega
  obtain ⟨b,e,_,q1,_⟩:=h.toks a hal
  rw [e] at c1
  unfold ps
  rw [if_pos hal]
  generalize c.L.getD a zTok=t at q1 ⊢
  go_enter Tryz.func33,Tryz.ntmps33
  go_wp2
  go_quiet (fail)
  go_wp2
  go_quiet (fail)
  go_wp2
  go_ret
  exact ⟨rfl,_,World.drewN_drewN _ _ _⟩
 ·have d1:decide ((c.L.length:Int)≤(a:Int))=true:=decide_eq_true (by omega)
  unfold ps
  rw [if_neg hal]
  go_enter Tryz.func33,Tryz.ntmps33
  go_wp2
  go_quiet (fail)
  go_wp2
  go_ret
  exact ⟨rfl,_,rfl⟩
set_option maxHeartbeats 1000000 in
theorem rfail_call {c:Ctx} (hG:Good c) {W:World} {a:Nat} {d:Int} (h:RAt c W a d 0 0) (er:Int) :
  Calls Tryz.prog 37 #[c.me,.int .i64 er] W fun e W'=>e=.returned (.tuple #[])∧RAt c W' a d (ps c a) er∧W.grownBy W' (some c.g):=by
 have c5:=h.c5
 have f5:=h.fz 5
 have h1:=h.put hG 5 (.int .i64 er) (a':=a) (d':=d) (p':=0) (er':=er) rfl
 have hg1:W.grownBy (W.setCell ⟨c.g,5,none⟩ (.int .i64 er)) (some c.g):=gP (World.grownBy.refl _ _) _
 have PS:=pC h1
 go_enter Tryz.func37,Tryz.ntmps37
 go_upto_region 2 with fail
 generalize W.setCell ⟨c.g,5,none⟩ (.int .i64 er)=X at h1 hg1 PS ⊢
 have c4:=fun q=>(h1.drewN q).c4
 have f4:=fun q=>(h1.drewN q).fz 4
 go_wp2_with (first|(go_at_call 33;with_reducible refine PS.mono ?_;rintro e w' ⟨rfl,q,rfl⟩;have c4:=c4 q;have f4:=f4 q))
 go_end0
 exact ⟨rfl,(h1.drewN q).put hG 4 _ rfl,gP (Q6 hg1 q) _⟩
set_option maxHeartbeats 1000000 in
theorem rfail_lost {c:Ctx} {W:World} {a:Nat} {d p e0:Int} (h:RAt c W a d p e0) (he:e0≠0) (er:Int) :
  Calls Tryz.prog 37 #[c.me,.int .i64 er] W fun e W'=>e=.returned (.tuple #[])∧W'=W:=by
 have c5:=h.c5
 have e1:(e0==0)=false:=beq_eq_false_iff_ne.mpr he
 go_enter Tryz.func37,Tryz.ntmps37
 go_wp2
 go_end0
 exact ⟨rfl,rfl⟩
theorem bel_dN {a b:World} {B:Nat} (h:Below B a b) (q:Nat):Below B a (b.drewN q):=⟨h.os,h.tape,h.output,h.size,h.block⟩
set_option maxHeartbeats 1000000 in
theorem rdeeper_ok {c:Ctx} (hG:Good c) {W:World} {a:Nat} {d:Int} (h:RAt c W a d 0 0) (hd:-100000≤d∧d<64) :
  Calls Tryz.prog 69 #[c.me] W fun e W'=>e=.returned (.tuple #[])∧RAt c W' a (d+1) 0 0∧W.grownBy W' (some c.g):=by
 have c3:=h.c3
 have f3:=h.fz 3
 have d64:decide ((64:Int)≤d)=false:=decide_eq_false (by omega)
 have wd:IntKind.i64.wrap (d+1)=d+1:=IntWalk.i64_in _ (by omega)
 go_enter Tryz.func69,Tryz.ntmps69
 go_wp2
 go_end0
 exact ⟨rfl,h.put hG 3 _ rfl,gP (World.grownBy.refl _ _) _⟩
set_option maxHeartbeats 1000000 in
theorem rdeeper_bad {c:Ctx} (hG:Good c) {W:World} {a:Nat} (h:RAt c W a 64 0 0) :
  Calls Tryz.prog 69 #[c.me] W fun e W'=>e=.returned (.tuple #[])∧RAt c W' a 64 (ps c a) 41∧W.grownBy W' (some c.g):=by
 have c3:=h.c3
 have FL:=rfail_call hG h 41
 go_enter Tryz.func69,Tryz.ntmps69
 go_wp2_with (first|(go_at_call 37;(with_reducible refine FL.mono ?_);rintro e w' ⟨rfl,hR,hg⟩))
 refine bodyPost_ret (results_none rfl _ _ _) rfl ?_
 exact ⟨rfl,hR,hg⟩
set_option maxHeartbeats 1000000 in
theorem rword_call {c:Ctx} (hG:Good c) {W:World} {a:Nat} {d p er:Int} (h:RAt c W a d p er) :
  Calls Tryz.prog 64 #[c.me] W fun e W'=>e=.returned (.string (wordB (kd c a)))∧Below W.heap.size W W':=by
 have c1:=h.c1
 have c2:=h.c2
 have ha:(0:Int)≤(a:Int):=by omega
 by_cases hal:a<c.L.length
 ·have d1:decide ((c.L.length:Int)≤(a:Int))=false:=decide_eq_false (by omega)
  have a1:(a:Int)<(c.L.length:Int):=by omega
  obtain ⟨b,e,q0,_⟩:=h.toks a hal
  rw [e] at c1
  have hk:(c.L.getD a zTok).1=kd c a:=rfl
  rw [hk] at q0
  generalize kd c a=k at q0 ⊢
  have TX:=fun q=>text3_call k (W.drewN q)
  obtain ⟨T,hT⟩:∃T,A0 (wordB k=T):=⟨_,⟨rfl⟩⟩
  rw [hT.out]
  clear hk
  by_cases h1:k=1
  ·subst h1
   have hT2:=A0.mk hT.out.symm
   clear hT TX
   go_enter Tryz.func64,Tryz.ntmps64
   go_wp2
   go_quiet (fail)
   go_wp2
   go_quiet (fail)
   go_wp2
   go_ret
   exact ⟨by rw [hT2.out];rfl,bel_dN (Below.refl _ _) _⟩
  have n1:(k==1)=false:=beq_eq_false_iff_ne.mpr h1
  by_cases h2:k=2
  ·subst h2
   have hT2:=A0.mk hT.out.symm
   clear hT TX
   go_enter Tryz.func64,Tryz.ntmps64
   go_wp2
   go_quiet (fail)
   go_wp2
   go_quiet (fail)
   go_wp2
   go_ret
   exact ⟨by rw [hT2.out];rfl,bel_dN (Below.refl _ _) _⟩
  have n2:(k==2)=false:=beq_eq_false_iff_ne.mpr h2
  have hT2:textK k=T:=by rw [←hT.out];unfold wordB;rw [if_neg h1,if_neg h2]
  simp only [hT2] at TX
  clear hT hT2 h1 h2
  go_enter Tryz.func64,Tryz.ntmps64
  go_wp2
  go_quiet (fail)
  go_wp2
  go_quiet (fail)
  simp only [World.drewN_drewN]
  go_wp2_with (first|(go_at_call 104;(with_reducible refine (TX _).mono ?_);rintro e w' ⟨rfl,hb⟩))
  go_ret
  exact ⟨rfl,(bel_dN (Below.refl _ _) _).trans hb⟩
 ·have d1:decide ((c.L.length:Int)≤(a:Int))=true:=decide_eq_true (by omega)
  have hk:=kd_end (c:=c) (a:=a) (by omega)
  rw [hk]
  have hw:wordB 0=⟨#[]⟩:=rfl
  rw [hw]
  clear hk hw
  go_enter Tryz.func64,Tryz.ntmps64
  go_wp2
  go_quiet (fail)
  go_wp2
  go_ret
  exact ⟨rfl,bel_dN (Below.refl _ _) _⟩
set_option maxHeartbeats 1000000 in
theorem rI {c:Ctx} (hG:Good c) {W:World} {a:Nat} {d:Int} (h:RAt c W a d 0 0) (K:Int) (hK:1≤K∧K≤52) (s:ByteArray) (hs:wordB K=s) :
  Calls Tryz.prog 31 #[c.me,.string s] W fun e W'=>e=.returned (.bool (decide (kd c a=K)))∧Below W.heap.size W W':=by
 have c5:=h.c5
 have WD:=rword_call hG h
 have he:=word_eq (kd_nonneg hG a) hK.1 hK.2
 rw [hs] at he
 generalize decide (kd c a=K)=b at he ⊢
 generalize wordB (kd c a)=T at he WD
 go_enter Tryz.func31,Tryz.ntmps31
 go_wp2_with (first|(go_at_call 64;(with_reducible refine WD.mono ?_);rintro e w' ⟨rfl,hb⟩))
 go_ret
 exact ⟨rfl,hb⟩
set_option maxHeartbeats 1000000 in
theorem ris_lost {c:Ctx} {W:World} {a:Nat} {d p er:Int} (h:RAt c W a d p er) (he:er≠0) (s:ByteArray) :
  Calls Tryz.prog 31 #[c.me,.string s] W fun e W'=>e=.returned (.bool false)∧W'=W:=by
 have c5:=h.c5
 have e1:(er==0)=false:=beq_eq_false_iff_ne.mpr he
 go_enter Tryz.func31,Tryz.ntmps31
 go_wp2
 go_ret
 exact ⟨rfl,rfl⟩
def Sta.sees (c:Ctx) (K:Int):Sta→Bool
 | .here a _=>decide (kd c a=K)
 | .lost _ _=>false
theorem ris_call {c:Ctx} (hG:Good c) {W:World} {s0:Sta} (h:RSt c W s0) (K:Int) (hK:1≤K∧K≤52) (s:ByteArray) (hs:wordB K=s) :
  Calls Tryz.prog 31 #[c.me,.string s] W fun e W'=>e=.returned (.bool (s0.sees c K))∧Below W.heap.size W W':=by
 match s0,h with
 | .here a d,h=>exact rI hG h.1 K hK s hs
 | .lost p er,⟨he,a,d,h⟩=>exact (ris_lost h he s).mono fun e w ⟨h1,h2⟩=>⟨h1,h2 ▸ Below.refl _ _⟩
def opB (s:ByteArray):Bool:=decide (s.toList=[40]∨s.toList=[91]∨s.toList=[123])
set_option maxHeartbeats 1000000 in
theorem opens_call (s:ByteArray) (W:World):Calls Tryz.prog 68 #[.string s] W fun e W'=>e=.returned (.bool (opB s))∧W'=W:=by
 obtain ⟨b,hb⟩:∃b,A0 (opB s=b):=⟨_,⟨rfl⟩⟩
 rw [hb.out]
 by_cases h1:s.toList=[40]
 ·have hb2:A0 (b=true):=⟨by rw [←hb.out];simp [opB,h1]⟩
  go_enter Tryz.func68,Tryz.ntmps68
  go_wp2
  go_ret
  exact ⟨by rw [hb2.out];rfl,rfl⟩
 by_cases h2:s.toList=[91]
 ·have hb2:A0 (b=true):=⟨by rw [←hb.out];simp [opB,h2]⟩
  go_enter Tryz.func68,Tryz.ntmps68
  go_wp2
  go_ret
  exact ⟨by rw [hb2.out];rfl,rfl⟩
 by_cases h3:s.toList=[123]
 ·have hb2:A0 (b=true):=⟨by rw [←hb.out];simp [opB,h3]⟩
  go_enter Tryz.func68,Tryz.ntmps68
  go_wp2
  go_ret
  exact ⟨by rw [hb2.out];rfl,rfl⟩
 ·have hb2:A0 (b=false):=⟨by rw [←hb.out];simp [opB,h1,h2,h3]⟩
  have e1:(s.toList==[40])=false:=beq_eq_false_iff_ne.mpr h1
  have e2:(s.toList==[91])=false:=beq_eq_false_iff_ne.mpr h2
  have e3:(s.toList==[123])=false:=beq_eq_false_iff_ne.mpr h3
  go_enter Tryz.func68,Tryz.ntmps68
  go_wp2
  go_ret
  exact ⟨by rw [hb2.out];rfl,rfl⟩
def clB (s:ByteArray):Bool:=decide (s.toList=[41]∨s.toList=[93]∨s.toList=[125])
set_option maxHeartbeats 1000000 in
theorem closes_call (s:ByteArray) (W:World):Calls Tryz.prog 70 #[.string s] W fun e W'=>e=.returned (.bool (clB s))∧W'=W:=by
 obtain ⟨b,hb⟩:∃b,A0 (clB s=b):=⟨_,⟨rfl⟩⟩
 rw [hb.out]
 by_cases h1:s.toList=[41]
 ·have hb2:A0 (b=true):=⟨by rw [←hb.out];simp [clB,h1]⟩
  go_enter Tryz.func70,Tryz.ntmps70
  go_wp2
  go_ret
  exact ⟨by rw [hb2.out];rfl,rfl⟩
 by_cases h2:s.toList=[93]
 ·have hb2:A0 (b=true):=⟨by rw [←hb.out];simp [clB,h2]⟩
  go_enter Tryz.func70,Tryz.ntmps70
  go_wp2
  go_ret
  exact ⟨by rw [hb2.out];rfl,rfl⟩
 by_cases h3:s.toList=[125]
 ·have hb2:A0 (b=true):=⟨by rw [←hb.out];simp [clB,h3]⟩
  go_enter Tryz.func70,Tryz.ntmps70
  go_wp2
  go_ret
  exact ⟨by rw [hb2.out];rfl,rfl⟩
 ·have hb2:A0 (b=false):=⟨by rw [←hb.out];simp [clB,h1,h2,h3]⟩
  have e1:(s.toList==[41])=false:=beq_eq_false_iff_ne.mpr h1
  have e2:(s.toList==[93])=false:=beq_eq_false_iff_ne.mpr h2
  have e3:(s.toList==[125])=false:=beq_eq_false_iff_ne.mpr h3
  go_enter Tryz.func70,Tryz.ntmps70
  go_wp2
  go_ret
  exact ⟨by rw [hb2.out];rfl,rfl⟩
theorem word_marks:∀k:Fin 53,opB (wordB k.val)=decide (k.val=32∨k.val=48∨k.val=50)∧clB (wordB k.val)=decide (k.val=33∨k.val=49∨k.val=52):=by decide +kernel
def tkS (c:Ctx) (K:Int) (a:Nat) (d:Int):Out Unit:=(wS c K a d).bind fun _ a d=>.ok () a d
abbrev repU':World→Value→Option Unit→Prop:=fun _ v _=>v=.tuple #[]
theorem marks_of {K:Int} (hK:1≤K∧K≤52):opB (wordB K)=decide (K=32∨K=48∨K=50)∧clB (wordB K)=decide (K=33∨K=49∨K=52):=by
 obtain ⟨n,rfl⟩:=Int.eq_ofNat_of_zero_le (show 0≤K by omega)
 obtain ⟨h1,h2⟩:=word_marks ⟨n,by omega⟩
 dsimp only at h1 h2
 rw [h1,h2]
 exact ⟨decide_eq_decide.2 (by omega),decide_eq_decide.2 (by omega)⟩
set_option maxHeartbeats 2000000 in
theorem rtake_call {c:Ctx} (hG:Good c) {W:World} {s0:Sta} (h:RSt c W s0) (K:Int) (hK:1≤K∧K≤52) (s:ByteArray) (hs:wordB K=s) :
  Calls Tryz.prog 36 #[c.me,.string s] W (RPost c W repU' (s0.go (tkS c K))):=by
 match s0,h with
 | .lost p er,⟨he,a,d,h⟩ =>
  have c5:=h.c5
  have e1:(er != 0)=true:=bne_iff_ne.mpr he
  show Calls _ _ _ _ (RPost c W repU' (.bad p er))
  go_enter Tryz.func36,Tryz.ntmps36
  go_wp2
  refine bodyPost_ret (results_none rfl _ _ _) rfl ?_
  exact ⟨World.grownBy.refl _ _,⟨_,rfl,rfl⟩,he,a,d,h⟩
 | .here a d,⟨h,hl,hd0,hd1⟩ =>
  show Calls _ _ _ _ (RPost c W repU' (tkS c K a d))
  obtain ⟨S,hS⟩:∃S,A0 (tkS c K a d=S):=⟨_,⟨rfl⟩⟩
  rw [hS.out]
  have hal2:=hG.hl
  have c5:=h.c5
  have WD:=rword_call hG h
  have he:=word_eq (kd_nonneg hG a) hK.1 hK.2
  rw [hs] at he
  obtain ⟨m1,m2⟩:=marks_of hK
  rw [hs] at m1 m2
  have OP:=opens_call s
  have CL:=closes_call s
  by_cases hk:kd c a=K
  ·have hal:a<c.L.length:=by
    rcases Nat.lt_or_ge a c.L.length with h | h
    ·exact h
    ·rw [kd_end h] at hk;omega
   rw [decide_eq_true hk] at he
   have wa:IntKind.i64.wrap ((a:Int)+1)=((a+1:Nat):Int):=by rw [IntWalk.i64_in _ (by omega)];push_cast;rfl
   generalize wordB (kd c a)=T at he WD
   by_cases ho:K=32∨K=48∨K=50
   ·rw [decide_eq_true ho] at m1
    have hc:¬ (K=33∨K=49∨K=52):=by omega
    rw [decide_eq_false hc] at m2
    rw [m1] at OP
    rw [m2] at CL
    by_cases h64:d=64
    ·have hS2:A0 (S=.bad (ps c a) 41):=⟨by rw [←hS.out];unfold tkS wS;rw [if_pos hk,if_pos ho,if_pos h64];rfl⟩
     subst h64
     have DB:=fun X (hb:Below W.heap.size W X)=>rdeeper_bad hG (h.below hb)
     clear hS hs wa m1 m2 hk ho hc
     go_enter Tryz.func36,Tryz.ntmps36
     go_wp2_with (first|(go_at_call 64;(with_reducible refine WD.mono ?_);rintro e w2 ⟨rfl,hb⟩)|(go_at_call 68;(with_reducible refine (OP _).mono ?_);rintro e w' ⟨rfl,h2⟩;have h2:=h2.symm;subst h2)|(go_at_call 70;(with_reducible refine (CL _).mono ?_);rintro e w' ⟨rfl,h2⟩;have h2:=h2.symm;subst h2)|(go_at_call 69;(with_reducible refine (DB _ hb).mono ?_);rintro e w3 ⟨rfl,hR,hg⟩;have c5:=hR.c5))
     go_end0
     rw [hS2.out]
     exact ⟨Q4 (grown_of_below hb) hg,⟨_,rfl,rfl⟩,by decide,a,_,hR⟩
    ·have hS2:A0 (S=.ok () (a+1) (d+1)):=⟨by rw [←hS.out];unfold tkS wS;rw [if_pos hk,if_pos ho,if_neg h64];rfl⟩
     have DB:=fun X (hb:Below W.heap.size W X)=>rdeeper_ok hG (h.below hb) (by omega)
     clear hS hs m1 m2 hk ho hc
     go_enter Tryz.func36,Tryz.ntmps36
     go_wp2_with (first|(go_at_call 64;(with_reducible refine WD.mono ?_);rintro e w2 ⟨rfl,hb⟩)|(go_at_call 68;(with_reducible refine (OP _).mono ?_);rintro e w' ⟨rfl,h2⟩;have h2:=h2.symm;subst h2)|(go_at_call 70;(with_reducible refine (CL _).mono ?_);rintro e w' ⟨rfl,h2⟩;have h2:=h2.symm;subst h2)|(go_at_call 69;(with_reducible refine (DB _ hb).mono ?_);rintro e w3 ⟨rfl,hR,hg⟩;have c5:=hR.c5;have c2:=hR.c2;have f2:=hR.fz 2))
     go_end0
     rw [hS2.out]
     exact ⟨gP (Q4 (grown_of_below hb) hg) _,⟨_,rfl,rfl⟩,hR.put hG 2 _ (by rfl),by omega,by omega,by omega⟩
   ·rw [decide_eq_false ho] at m1
    rw [m1] at OP
    by_cases hc:K=33∨K=49∨K=52
    ·have hS2:A0 (S=.ok () (a+1) (d - 1)):=⟨by rw [←hS.out];unfold tkS wS;rw [if_pos hk,if_neg ho,if_pos hc];rfl⟩
     rw [decide_eq_true hc] at m2
     rw [m2] at CL
     have wd:IntKind.i64.wrap (d - 1)=d - 1:=IntWalk.i64_in _ (by omega)
     have C3:=fun X (hb:Below W.heap.size W X)=>(h.below hb).c3
     have F3:=fun X (hb:Below W.heap.size W X)=>(h.below hb).fz 3
     have hP:=fun X (hb:Below W.heap.size W X)=>(h.below hb).put hG 3 (.int .i64 (d - 1)) (a':=a) (d':=d - 1) (p':=0) (er':=0) rfl
     clear hS hs m1 m2 hk ho hc
     go_enter Tryz.func36,Tryz.ntmps36
     go_upto_region 7 with (first|(go_at_call 64;(with_reducible refine WD.mono ?_);rintro e w2 ⟨rfl,hb⟩;have c3:=C3 _ hb;have f3:=F3 _ hb)|(go_at_call 68;(with_reducible refine (OP _).mono ?_);rintro e w' ⟨rfl,h2⟩;have h2:=h2.symm;subst h2)|(go_at_call 70;(with_reducible refine (CL _).mono ?_);rintro e w' ⟨rfl,h2⟩;have h2:=h2.symm;subst h2))
     have hR:=hP _ hb
     have hg:W.grownBy (w2.setCell ⟨c.g,3,none⟩ (.int .i64 (d - 1))) (some c.g):=gP (grown_of_below hb) _
     generalize w2.setCell ⟨c.g,3,none⟩ (.int .i64 (d - 1))=X at hR hg ⊢
     have g5:=hR.c5
     have g2:=hR.c2
     have k2:=hR.fz 2
     go_wp2
     go_end0
     rw [hS2.out]
     exact ⟨gP hg _,⟨_,rfl,rfl⟩,hR.put hG 2 _ (by rfl),by omega,by omega,by omega⟩
    ·have hS2:A0 (S=.ok () (a+1) d):=⟨by rw [←hS.out];unfold tkS wS;rw [if_pos hk,if_neg ho,if_neg hc];rfl⟩
     rw [decide_eq_false hc] at m2
     rw [m2] at CL
     have C5:=fun X (hb:Below W.heap.size W X)=>(h.below hb).c5
     have C2:=fun X (hb:Below W.heap.size W X)=>(h.below hb).c2
     have F2:=fun X (hb:Below W.heap.size W X)=>(h.below hb).fz 2
     clear hS hs m1 m2 hk ho hc
     go_enter Tryz.func36,Tryz.ntmps36
     go_wp2_with (first|(go_at_call 64;(with_reducible refine WD.mono ?_);rintro e w2 ⟨rfl,hb⟩;have g5:=C5 _ hb;have c2:=C2 _ hb;have f2:=F2 _ hb)|(go_at_call 68;(with_reducible refine (OP _).mono ?_);rintro e w' ⟨rfl,h2⟩;have h2:=h2.symm;subst h2)|(go_at_call 70;(with_reducible refine (CL _).mono ?_);rintro e w' ⟨rfl,h2⟩;have h2:=h2.symm;subst h2))
     go_end0
     rw [hS2.out]
     exact ⟨gP (grown_of_below hb) _,⟨_,rfl,rfl⟩,(h.below hb).put hG 2 _ (by rfl),by omega,by omega,by omega⟩
  ·have hS2:A0 (S=.bad (ps c a) 40):=⟨by rw [←hS.out];unfold tkS wS;rw [if_neg hk];rfl⟩
   rw [decide_eq_false hk] at he
   have FL:=fun X (hb:Below W.heap.size W X)=>rfail_call hG (h.below hb) 40
   generalize wordB (kd c a)=T at he WD
   clear hS hs m1 m2 hk
   go_enter Tryz.func36,Tryz.ntmps36
   go_wp2_with (first|(go_at_call 64;(with_reducible refine WD.mono ?_);rintro e w2 ⟨rfl,hb⟩)|(go_at_call 37;(with_reducible refine (FL _ hb).mono ?_);rintro e w3 ⟨rfl,hR,hg⟩))
   refine bodyPost_ret (results_none rfl _ _ _) rfl ?_
   rw [hS2.out]
   exact ⟨Q4 (grown_of_below hb) hg,⟨_,rfl,rfl⟩,by decide,a,_,hR⟩
abbrev repN':World→Value→Option ByteArray→Prop:=fun _ v x=>v=.string (x.getD ⟨#[]⟩)
theorem rfail_call2 {c:Ctx} (hG:Good c) {W:World} {s0:Sta} (h:RSt c W s0) (er:Int) (he:er≠0) :
  Calls Tryz.prog 37 #[c.me,.int .i64 er] W (RPost c W repU' (s0.go fun a _=>(.bad (ps c a) er:Out Unit))):=by
 match s0,h with
 | .here a d,h=>exact (rfail_call hG h.1 er).mono fun e w ⟨h1,h2,h3⟩=>⟨h3,⟨_,h1,rfl⟩,he,a,d,h2⟩
 | .lost p e0,⟨h0,a,d,h⟩=>exact (rfail_lost h h0 er).mono fun e w ⟨h1,h2⟩=>⟨h2 ▸ World.grownBy.refl _ _,⟨_,h1,rfl⟩,h0,a,d,h2 ▸ h⟩
set_option maxHeartbeats 2000000 in
theorem rname_call {c:Ctx} (hG:Good c) {W:World} {s0:Sta} (h:RSt c W s0) :
  Calls Tryz.prog 34 #[c.me] W (RPost c W repN' (s0.go (nS c))):=by
 have IS:=ris_call hG h 1 (by omega) ⟨#[110,97,109,101]⟩ rfl
 obtain ⟨S,hS⟩:∃S,A0 (s0.go (nS c)=S):=⟨_,⟨rfl⟩⟩
 rw [hS.out]
 have FL:=fun X (hb:Below W.heap.size W X)=>rfail_call2 hG (h.below hb) 40 (by decide)
 cases hs:s0.sees c 1 with
 | false =>
  have hS2:A0 (S=s0.go fun a _=>(.bad (ps c a) 40:Out ByteArray)):=⟨by
   rw [←hS.out]
   cases s0 with
   | lost p er=>rfl
   | here a d =>
    have:kd c a≠1:=of_decide_eq_false hs
    show nS c a d=.bad (ps c a) 40
    unfold nS wS
    rw [if_neg this]
    rfl⟩
  rw [hs] at IS
  clear hS
  go_enter Tryz.func34,Tryz.ntmps34
  go_wp2_with (first|(go_at_call 31;(with_reducible refine IS.mono ?_);rintro e w2 ⟨rfl,hb⟩)|(go_at_call 37;(with_reducible refine (FL _ hb).mono ?_);rintro e w3 ⟨hg,⟨v,rfl,rfl⟩,hR⟩))
  go_ret
  rw [hS2.out]
  refine ⟨Q4 (grown_of_below hb) hg,⟨_,rfl,?_⟩,?_⟩
  ·cases s0 <;> rfl
  ·cases s0 <;> exact hR
 | true =>
  match s0,h,hs with
  | .here a d,⟨h,hl,hd0,hd1⟩,hs =>
  have hk:kd c a=1:=of_decide_eq_true hs
  have hal:a<c.L.length:=by
   rcases Nat.lt_or_ge a c.L.length with h | h
   ·exact h
   ·rw [kd_end h] at hk;omega
  have hS2:A0 (S=.ok (textS c (c.L.getD a zTok)) (a+1) d):=⟨by
   rw [←hS.out]
   show nS c a d=_
   unfold nS wS
   rw [if_pos hk,if_neg (by omega),if_neg (by omega)]
   rfl⟩
  rw [hs] at IS
  have hal2:=hG.hl
  have hpl:=hG.places (c.L.getD a zTok) (by rw [List.getD_eq_getElem?_getD,List.getElem?_eq_getElem hal];exact List.getElem_mem hal)
  obtain ⟨b,eB,q0,q1,q2,q3⟩:=h.toks a hal
  generalize c.L.getD a zTok=t at q0 q1 q2 q3 hS2 hpl
  obtain ⟨tk,tp,te,tv⟩:=t
  simp only at q0 q1 q2 q3 hpl
  obtain ⟨p,rfl⟩:=Int.eq_ofNat_of_zero_le hpl.1
  obtain ⟨e,rfl⟩:=Int.eq_ofNat_of_zero_le (show 0≤te by omega)
  obtain ⟨m,hm⟩:∃m,p+m=e:=⟨e - p,by omega⟩
  have hsm:∀w,(Instr.sliceAt 22 (.slice c.A c.n c.cap) (some (.int .i64 (p:Int))) (some (.int .i64 (e:Int))) none).run Tryz.prog w=.ok (.slice (tl c.A c.cap p) m (c.cap - p)) w:=fun w=>by
   have:=slice_mid w c.A c.n c.cap p e (by omega) (by have:=hG.hcap;omega)
   rwa [show e - p=m by omega] at this
  have wa:IntKind.i64.wrap ((a:Int)+1)=((a+1:Nat):Int):=by rw [IntWalk.i64_in _ (by omega)];push_cast;rfl
  have a0:(0:Int)≤(a:Int):=by omega
  have a1:(a:Int)<(c.L.length:Int):=by omega
  have c1:=fun X (hb:Below W.heap.size W X)=>(h.below hb).c1
  rw [eB] at c1
  have c2:=fun X (hb:Below W.heap.size W X)=>(h.below hb).c2
  have Q0:=fun X (hb:Below W.heap.size W X)=>(hb.cell (World.block_lt_of_cell? W _ q0)).trans q0
  have Q1:=fun X (hb:Below W.heap.size W X)=>(hb.cell (World.block_lt_of_cell? W _ q1)).trans q1
  have Q2:=fun X (hb:Below W.heap.size W X)=>(hb.cell (World.block_lt_of_cell? W _ q2)).trans q2
  have Q3:=fun X (hb:Below W.heap.size W X)=>(hb.cell (World.block_lt_of_cell? W _ q3)).trans q3
  clear hS q0 q1 q2 q3
  go_enter Tryz.func34,Tryz.ntmps34
  go_upto_region 4 with (first|(go_at_call 31;(with_reducible refine IS.mono ?_);rintro e w2 ⟨rfl,hb⟩;have c1:=c1 _ hb;have c2:=c2 _ hb;have q0:=Q0 _ hb;have q1:=Q1 _ hb;have q2:=Q2 _ hb;have q3:=Q3 _ hb))
  go_region_held3 (fun w':World=>w'.cell? ⟨c.g,1,none⟩=some (.slice (some b) c.L.length c.tc)∧w'.cell? ⟨c.g,2,none⟩=some (.int .i64 (a:Int))∧w'.cell? (b.add (a * 4))=some (.int .i64 tk)∧w'.cell? ⟨(b.add (a * 4)).block,(b.add (a * 4)).off+1,none⟩=some (.int .i64 (p:Int))∧w'.cell? ⟨(b.add (a * 4)).block,(b.add (a * 4)).off+2,none⟩=some (.int .i64 (e:Int))∧w'.cell? ⟨(b.add (a * 4)).block,(b.add (a * 4)).off+3,none⟩=some (.int .i64 tv)) (go_keep) (fail)
  have hbX:=(hb.alloc hb.size (.cells #[.int .i64 tk,.int .i64 p,.int .i64 e,.int .i64 tv] 44)).drew
  have bx:(w2.alloc (.cells #[.int .i64 tk,.int .i64 p,.int .i64 e,.int .i64 tv] 44)).drew.heap[w2.heap.size]?=some (.cells #[.int .i64 tk,.int .i64 p,.int .i64 e,.int .i64 tv] 44 (0,0)):=bN w2 _
  have hgl:=bL (h.below hb).blk
  generalize (w2.alloc (.cells #[.int .i64 tk,.int .i64 p,.int .i64 e,.int .i64 tv] 44)).drew=X at hbX bx ⊢
  have hRX:=h.below hbX
  have g2:=hRX.c2
  have k2:=hRX.fz 2
  have hRY:=hRX.put hG 2 (.int .i64 ((a:Int)+1)) (a':=a+1) (d':=d) (p':=0) (er':=0) (by rfl)
  have hgY:W.grownBy (X.setCell ⟨c.g,2,none⟩ (.int .i64 ((a:Int)+1))) (some c.g):=gP (grown_of_below hbX) _
  have bY:=Q5 bx (p:=⟨c.g,2,none⟩) (by dsimp only;omega) (.int .i64 ((a:Int)+1))
  clear c1 c2 q0 q1 q2 q3
  go_upto_region 6 with fail
  generalize X.setCell ⟨c.g,2,none⟩ (.int .i64 ((a:Int)+1))=Y at hRY hgY bY ⊢
  have y0:=hRY.c0
  have y1:Y.cell? ⟨w2.heap.size,1,none⟩=some (.int .i64 p):=bC bY 1
  have y2:Y.cell? ⟨w2.heap.size,2,none⟩=some (.int .i64 e):=bC bY 2
  obtain ⟨T,hT⟩:∃T,textS c (tk,(p:Int),(e:Int),tv)=T:=⟨_,rfl⟩
  rw [hT] at hS2
  have cv:∀q,(convert 22 9 (.slice (tl c.A c.cap p) m (c.cap - p))).run Tryz.prog (Y.drewN q)=.ok (.string T) (Y.drewN q):=fun q=>by
   have hx:=hG.hx
   have:=((hRY.drewN q).lies.mid hG.hcap (l:=p) (m:=m) (by omega)).bytes.convert (by simp;omega) (c.cap - p) 22 5 9 Tryz.underlying22 Tryz.underlying5 Tryz.underlying9
   rw [this,←hT]
   unfold textS
   simp only [Int.toNat_natCast]
   rw [show ((e:Int) - (p:Int)).toNat=m by omega]
  clear hT hm g2 k2
  go_quiet (fail)
  go_wp2
  go_ret
  rw [hS2.out]
  exact ⟨Q6 hgY _,⟨_,rfl,rfl⟩,hRY.drewN _,by omega,by omega,by omega⟩
def PB (c:Ctx) (X:World):Sta→Prop
 | .here a d=>X.heap[c.g]?=some (.cells (c.rcells a d 0 0) 65 (0,0))∧a≤c.L.length∧-(a:Int)≤d∧d≤64
 | .lost p er=>er≠0∧∃(a:Nat) (d:Int),X.heap[c.g]?=some (.cells (c.rcells a d p er) 65 (0,0))
section
variable {c:Ctx} {W X Y:World} {s s':Sta}
theorem lies_frame (hG:Good c) (h:Lies W c.A c.n c.xs) (hg:W.grownBy X (some c.g)):Lies X c.A c.n c.xs:=fun j hj=>by
 obtain ⟨x,hx,hc⟩:=h j hj
 refine ⟨x,hx,?_⟩
 rw [World.cell?_of_block (hg.block _ (World.block_lt_of_cell? W _ hc) (fun e=>by
  have:=Option.some.inj e
  have hbl:(x.add j).block=x.block:=by unfold Addr.add;split <;> rfl
  exact hG.hA x hx (by rw [←hbl];exact this)))]
 exact hc
theorem toks_frame (hG:Good c) (h:TokAt W c.B c.L) (hg:W.grownBy X (some c.g)):TokAt X c.B c.L:=fun j hj=>by
 obtain ⟨b,hb,q0,q1,q2,q3⟩:=h j hj
 have hbl:(b.add (j * 4)).block=b.block:=by unfold Addr.add;split <;> rfl
 have hk:=hg.block (b.add (j * 4)).block (World.block_lt_of_cell? W _ q0) (fun e=>hG.hB b hb (by rw [←hbl];exact Option.some.inj e))
 have key:∀k,X.cell? ⟨(b.add (j * 4)).block,k,none⟩=W.cell? ⟨(b.add (j * 4)).block,k,none⟩:=fun k=>World.cell?_of_block hk
 exact ⟨b,hb,(World.cell?_of_block hk).trans q0,(key _).trans q1,(key _).trans q2,(key _).trans q3⟩
theorem RSt.pb:∀{s:Sta},RSt c X s→PB c X s
 | .here _ _,h=>⟨h.1.blk,h.2⟩
 | .lost _ _,⟨h,a,d,k⟩=>⟨h,a,d,k.blk⟩
theorem RSt.lies:∀{s:Sta},RSt c X s→Lies X c.A c.n c.xs
 | .here _ _,h=>h.1.lies
 | .lost _ _,⟨_,_,_,k⟩=>k.lies
theorem RSt.toks:∀{s:Sta},RSt c X s→TokAt X c.B c.L
 | .here _ _,h=>h.1.toks
 | .lost _ _,⟨_,_,_,k⟩=>k.toks
theorem PB.st (h1:Lies X c.A c.n c.xs) (h2:TokAt X c.B c.L):∀{s:Sta},PB c X s→RSt c X s
 | .here _ _,h=>⟨⟨h.1,h1,h2⟩,h.2⟩
 | .lost _ _,⟨h,a,d,k⟩=>⟨h,a,d,k,h1,h2⟩
theorem PB.keep (e:Y.heap[c.g]?=X.heap[c.g]?):∀{s:Sta},PB c X s→PB c Y s
 | .here _ _,h=>⟨e.trans h.1,h.2⟩
 | .lost _ _,⟨h,a,d,k⟩=>⟨h,a,d,e.trans k⟩
theorem PB.gl:∀{s:Sta},PB c X s→c.g<X.heap.size
 | .here _ _,h=>bL h.1
 | .lost _ _,⟨_,_,_,k⟩=>bL k
structure Fr (c:Ctx) (W X:World) (s:Sta):Prop where
 fr:W.grownBy X (some c.g)
 lies:Lies W c.A c.n c.xs
 toks:TokAt W c.B c.L
 gl:c.g<W.heap.size
 pb:PB c X s
theorem Fr.st (hG:Good c) (h:Fr c W X s):RSt c X s:=h.pb.st (lies_frame hG h.lies h.fr) (toks_frame hG h.toks h.fr)
theorem Fr.start (h:RSt c W s):Fr c W W s:=⟨World.grownBy.refl _ _,h.lies,h.toks,h.pb.gl,h.pb⟩
theorem Fr.call (h:Fr c W X s) (hg:X.grownBy Y (some c.g)) (hs:RSt c Y s'):Fr c W Y s':=⟨Q4 h.fr hg,h.lies,h.toks,h.gl,hs.pb⟩
theorem Fr.below (h:Fr c W X s) (hb:Below X.heap.size X Y):Fr c W Y s:=⟨Q4 h.fr (grown_of_below hb),h.lies,h.toks,h.gl,h.pb.keep (hb.block _ h.pb.gl)⟩
theorem Fr.alloc (h:Fr c W X s) (o:Obj):Fr c W (X.alloc o) s:=h.below (bA _ o)
theorem Fr.drewN (h:Fr c W X s) (q:Nat):Fr c W (X.drewN q) s:=h.below (bel_dN (Below.refl _ _) q)
theorem Fr.drew (h:Fr c W X s):Fr c W X.drew s:=h.below ((Below.refl _ _).drew)
theorem Fr.set (h:Fr c W X s) {p:Addr} (hp:W.heap.size≤p.block) (v:Value):Fr c W (X.setCell p v) s :=
 ⟨grown_far h.fr hp v,h.lies,h.toks,h.gl,h.pb.keep (Below.heap_setCell X p v c.g (by have:=h.gl;omega))⟩
theorem Fr.step {a:Nat} {d:Int} (h:Fr c W X (.here a d)) (ha:a<c.L.length):Fr c W (X.setCell ⟨c.g,2,none⟩ (.int .i64 ((a:Int)+1))) (.here (a+1) d) :=
 ⟨gP h.fr _,h.lies,h.toks,h.gl,bP h.pb.1 2 _ (by rfl),by omega,by have:=h.pb.2.2.1;omega,h.pb.2.2.2⟩
theorem Fr.dep {a:Nat} {d d':Int} (h:Fr c W X (.here a d)) (h0:-(a:Int)≤d') (h1:d'≤64):Fr c W (X.setCell ⟨c.g,3,none⟩ (.int .i64 d')) (.here a d') :=
 ⟨gP h.fr _,h.lies,h.toks,h.gl,bP h.pb.1 3 _ (by rfl),h.pb.2.1,h0,h1⟩
theorem Fr.sz (h:Fr c W X s):W.heap.size≤X.heap.size:=h.fr.size
theorem Fr.end {α:Type} (hG:Good c) (h:Fr c W X s) {rep:World→Value→Option α→Prop} {o:Out α} {v:Value} (ho:o.sta=s) (hv:rep X v o.val):RPost c W rep o (.returned v) X:=⟨h.fr,⟨v,rfl,hv⟩,ho ▸ h.st hG⟩
abbrev Bx (X:World) (g:Nat) (t:TypeId) (cs:Array Value):Prop:=X.heap[g]?=some (.cells cs t (0,0))
theorem xN (X:World) (t:TypeId) (cs:Array Value):Bx (X.alloc (.cells cs t)) X.heap.size t cs:=bN X _
theorem xB {g:Nat} {t:TypeId} {cs:Array Value} (h:Bx X g t cs) (hb:Below X.heap.size X Y):Bx Y g t cs:=bB h hb
theorem xC {g:Nat} {t:TypeId} {cs:Array Value} (h:Bx X g t cs) (hg:X.grownBy Y (some c.g)) (hne:c.g<g):Bx Y g t cs:=blk_grown h hg (fun e=>by have:=Option.some.inj e;omega)
end
theorem rpos_call2 {c:Ctx} {W:World}:∀{s:Sta},RSt c W s→∃z,(∀a d,s=.here a d→z=ps c a)∧Calls Tryz.prog 33 #[c.me] W fun e W'=>e=.returned (.int .i64 z)∧∃q,W'=W.drewN q
 | .here a d,h=>⟨ps c a,fun _ _ e=>by cases e;rfl,pC h.1⟩
 | .lost _ _,⟨_,a,_,k⟩=>⟨ps c a,fun _ _ e=>(by cases e),pC k⟩
theorem nameS_ok {c:Ctx} {a:Nat} {d:Int} (h:kd c a=1):nS c a d=.ok (textS c (c.L.getD a zTok)) (a+1) d:=by
 unfold nS wS
 rw [if_pos h,if_neg (by omega),if_neg (by omega)]
 rfl
theorem kL {c:Ctx} {a:Nat} {K:Int} (h:kd c a=K) (hK:1≤K):a<c.L.length:=by
 rcases Nat.lt_or_ge a c.L.length with h' | h'
 ·exact h'
 ·rw [kd_end h'] at h;omega
theorem rname_ok {c:Ctx} (hG:Good c) {W:World} {a:Nat} {d:Int} (h:RSt c W (.here a d)) (hk:kd c a=1) :
  Calls Tryz.prog 34 #[c.me] W fun e W'=>W.grownBy W' (some c.g)∧e=.returned (.string (textS c (c.L.getD a zTok)))∧RSt c W' (.here (a+1) d) :=
 (rname_call hG h).mono fun e w ⟨hg,⟨v,he,hv⟩,hR⟩=>by
  rw [show Sta.go (.here a d) (nS c)=nS c a d from rfl,nameS_ok hk] at hv hR
  exact ⟨hg,he.trans (congrArg _ hv),hR⟩
theorem RAt.t3 {c:Ctx} {W:World} {a0:Nat} {d p er:Int} (h:RAt c W a0 d p er) {tb:Addr} (eB:c.B=some tb) {i:Nat} (hi:i<c.L.length):W.cell? ⟨(tb.add (i * 4)).block,(tb.add (i * 4)).off+3,none⟩=some (.int .i64 (c.L.getD i zTok).2.2.2):=by
 obtain ⟨b,e,_,_,_,q3⟩:=h.toks i hi
 rw [eB] at e
 cases e
 exact q3
abbrev repCo:World→Value→Option Con→Prop:=fun _ v x=>∃nm n p,v=.agg #[.string nm,.int .i64 n,.int .i64 p]∧∀y,x=some y→y=(nm,n,p)
theorem all67 {X:World} {g:Nat} {a b c:Value} {cs:Array Value} (h:Bx X g 67 cs) (hs:cs.size=3):Bx (((X.setCell ⟨g,0,none⟩ a).setCell ⟨g,1,none⟩ b).setCell ⟨g,2,none⟩ c) g 67 #[a,b,c]:=by
 obtain ⟨l⟩:=cs
 match l,hs with
 | [x,y,z],_=>exact bP (bP (bP h 0 a rfl) 1 b rfl) 2 c rfl
theorem fr_set3 {c:Ctx} {W X:World} {s:Sta} (h:Fr c W X s) {g:Nat} (hg:W.heap.size≤g) (a b d:Value):Fr c W (((X.setCell ⟨g,0,none⟩ a).setCell ⟨g,1,none⟩ b).setCell ⟨g,2,none⟩ d) s:=((h.set (p:=⟨g,0,none⟩) hg a).set (p:=⟨g,1,none⟩) hg b).set (p:=⟨g,2,none⟩) hg d
set_option maxHeartbeats 4000000 in
theorem rconst_call {c:Ctx} (hG:Good c) {W:World} {s0:Sta} (h:RSt c W s0) :
  Calls Tryz.prog 65 #[c.me] W (RPost c W repCo (s0.go (coS c))):=by
 have F0:=(Fr.start h).alloc (.cells (C67 ⟨#[]⟩ 0 0) 67)
 obtain ⟨z,hz,PS⟩:=rpos_call2 (F0.st hG)
 obtain ⟨S,hS⟩:∃S,A0 (s0.go (coS c)=S):=⟨_,⟨rfl⟩⟩
 rw [hS.out]
 have F1:=fun q=>(F0.drewN q).alloc (.cells (C67 ⟨#[]⟩ 0 z) 67)
 have r1:∀q,Bx (((W.alloc (.cells (C67 ⟨#[]⟩ 0 0) 67)).drewN q).alloc (.cells (C67 ⟨#[]⟩ 0 z) 67)) W.heap.size 67 (C67 ⟨#[]⟩ 0 0):=fun q=>xB (X:=(W.alloc (.cells (C67 ⟨#[]⟩ 0 0) 67)).drewN q) (xN W 67 _) (bA _ _)
 have v1:∀q,Bx (((W.alloc (.cells (C67 ⟨#[]⟩ 0 0) 67)).drewN q).alloc (.cells (C67 ⟨#[]⟩ 0 z) 67)) (W.heap.size+1) 67 (C67 ⟨#[]⟩ 0 z):=fun q=>by
  have:=xN ((W.alloc (.cells (C67 ⟨#[]⟩ 0 0) 67)).drewN q) 67 (C67 ⟨#[]⟩ 0 z)
  rwa [show ((W.alloc (.cells (C67 ⟨#[]⟩ 0 0) 67)).drewN q).heap.size=W.heap.size+1 by simp] at this
 go_enter Tryz.func65,Tryz.ntmps65
 go_upto_region 2 with (first|(go_at_call 33;(with_reducible refine PS.mono ?_);rintro e w2 ⟨rfl,q,rfl⟩))
 have F:=F1 q
 have hr:=r1 q
 have hv:=v1 q
 generalize ((W.alloc (.cells (C67 ⟨#[]⟩ 0 0) 67)).drewN q).alloc (.cells (C67 ⟨#[]⟩ 0 z) 67)=X at F hr hv ⊢
 have IS:=ris_call hG (F.st hG) 1 (by omega) ⟨#[110,97,109,101]⟩ rfl
 clear F0 F1 r1 v1 PS
 have hWX:=F.sz
 cases hn:s0.sees c 1 with
 | true =>
  rw [hn] at IS
  match s0,F,hn,hz,hS with
  | .here a d,F,hn,hz,hS =>
  have hk:kd c a=1:=of_decide_eq_true hn
  obtain rfl:=hz a d rfl
  have hal:=kL hk (by omega)
  obtain ⟨T,hT⟩:∃T,textS c (c.L.getD a zTok)=T:=⟨_,rfl⟩
  have hS2:A0 (S=.ok (T,0,ps c a) (a+1) d):=⟨by rw [←hS.out];show coS c a d=_;unfold coS;rw [if_pos hk,nameS_ok hk,hT];rfl⟩
  have NM:=fun Y (hb:Below X.heap.size X Y)=>rname_ok hG ((F.below hb).st hG) hk
  rw [hT] at NM
  clear hS hz hn hk hT
  go_upto_region 4 with (first|(go_at_call 31;(with_reducible refine IS.mono ?_);rintro e w2 ⟨rfl,hb⟩)|(go_at_call 34;(with_reducible refine (NM _ hb).mono ?_);rintro e w3 ⟨hg,rfl,hR⟩;have F2:=(F.below hb).call hg hR;have hv2:=xC (xB hv hb) hg (by have:=F.gl;omega);have hr2:=xC (xB hr hb) hg (by have:=F.gl;omega);have k0:=bF hv2 0;have k1:=bC hv2 0))
  have F3:=F2.set (p:=⟨W.heap.size+1,0,none⟩) (Nat.le_succ _) (.string T)
  have hv3:=bP hv2 0 (.string T) rfl
  have hr3:=Q5 hr2 (p:=⟨W.heap.size+1,0,none⟩) (by dsimp only;omega) (.string T)
  generalize w3.setCell ⟨W.heap.size+1,0,none⟩ (.string T)=Y at F3 hv3 hr3 ⊢
  have z0:Y.cell? ⟨W.heap.size+1,0,none⟩=some (.string T):=bC hv3 0
  have z1:Y.cell? ⟨W.heap.size+1,1,none⟩=some (.int .i64 0):=bC hv3 1
  have z2:Y.cell? ⟨W.heap.size+1,2,none⟩=some (.int .i64 (ps c a)):=bC hv3 2
  have y0:=bF hr3 0
  have y1:=bF hr3 1
  have y2:=bF hr3 2
  have x0:Y.cell? ⟨W.heap.size,0,none⟩=some (.string ⟨#[]⟩):=bC hr3 0
  have x1:Y.cell? ⟨W.heap.size,1,none⟩=some (.int .i64 0):=bC hr3 1
  have x2:Y.cell? ⟨W.heap.size,2,none⟩=some (.int .i64 0):=bC hr3 2
  clear k0 k1 hv2 hr2 hv hr F F2 IS NM hg hR hb
  go_wp2
  rw [hS2.out]
  have F4:=fr_set3 F3 (Nat.le_refl _) (.string T) (.int .i64 0) (.int .i64 (ps c a))
  exact bodyPost_ret (res_c rfl _ _ W.heap.size 67 _ (0,0) _ rfl (all67 hr3 rfl) Tryz.underlying67 rfl (by kernel_rfl)) rfl (F4.end hG rfl ⟨_,_,_,rfl,fun y hy=>by cases hy;rfl⟩)
 | false =>
  rw [hn] at IS
  match s0,F,hn,hS,hz with
  | .lost p er,F,hn,hS,hz =>
   clear hz
   have hS2:A0 (S=.bad p er):=⟨by rw [←hS.out];rfl⟩
   have IM:=fun Y (hb:Below X.heap.size X Y)=>ris_call hG ((F.below hb).st hG) 37 (by omega) ⟨#[45]⟩ rfl
   have II:=fun Y (hb:Below X.heap.size X Y)=>ris_call hG ((F.below hb).st hG) 2 (by omega) ⟨#[105,110,116]⟩ rfl
   have FL:=fun Y (hb:Below X.heap.size X Y)=>rfail_call2 hG ((F.below hb).st hG) 40 (by decide)
   simp only [Sta.sees] at IM II
   clear hS
   go_upto_region 10 with (first|(go_at_call 31;(with_reducible refine IS.mono ?_);rintro e w2 ⟨rfl,hb⟩)|(go_at_call 31;(with_reducible refine (IM _ hb).mono ?_);rintro e w3 ⟨rfl,hb3⟩;have hb3:=hb.trans (hb3.mono hb.size))|(go_at_call 31;(with_reducible refine (II _ hb3).mono ?_);rintro e w4 ⟨rfl,hb4⟩;have hb4:=hb3.trans (hb4.mono hb3.size))|(go_at_call 37;(with_reducible refine (FL _ hb4).mono ?_);rintro e w5 ⟨hg,⟨v,rfl,rfl⟩,hR⟩))
   have F2:=(F.below hb4).call hg hR
   have hv2:=xC (xB hv hb4) hg (by have:=F.gl;omega)
   have hr2:=xC (xB hr hb4) hg (by have:=F.gl;omega)
   have z0:w5.cell? ⟨W.heap.size+1,0,none⟩=some (.string ⟨#[]⟩):=bC hv2 0
   have z1:w5.cell? ⟨W.heap.size+1,1,none⟩=some (.int .i64 0):=bC hv2 1
   have z2:w5.cell? ⟨W.heap.size+1,2,none⟩=some (.int .i64 z):=bC hv2 2
   have y0:=bF hr2 0
   have y1:=bF hr2 1
   have y2:=bF hr2 2
   have x0:w5.cell? ⟨W.heap.size,0,none⟩=some (.string ⟨#[]⟩):=bC hr2 0
   have x1:w5.cell? ⟨W.heap.size,1,none⟩=some (.int .i64 0):=bC hr2 1
   have x2:w5.cell? ⟨W.heap.size,2,none⟩=some (.int .i64 0):=bC hr2 2
   clear IS IM II FL hv hr hb hb3 hb4 F hg hR hv2
   go_wp2
   rw [hS2.out]
   have F4:=fr_set3 F2 (Nat.le_refl _) (.string ⟨#[]⟩) (.int .i64 0) (.int .i64 z)
   exact bodyPost_ret (res_c rfl _ _ W.heap.size 67 _ (0,0) _ rfl (all67 hr2 rfl) Tryz.underlying67 rfl (by kernel_rfl)) rfl (F4.end hG rfl ⟨_,_,_,rfl,fun y hy=>by cases hy⟩)
  | .here a d,F,hn,hS,hz =>
   have hk1:kd c a≠1:=of_decide_eq_false hn
   have IM:=fun Y (hb:Below X.heap.size X Y)=>rI hG ((F.below hb).st hG).1 37 (by omega) ⟨#[45]⟩ rfl
   have hz0:z=ps c a:=hz a d rfl
   clear hz
   subst hz0
   have hal2:=hG.hl
   by_cases h37:kd c a=37
   ·obtain ⟨a1,ha1⟩:∃a1,A0 (a+1=a1):=⟨_,⟨rfl⟩⟩
    have hal:=kL h37 (by omega)
    have hS1:A0 (S=(wS c 2 a1 d).bind fun t a2 d2=>.ok (⟨#[]⟩,IntKind.i64.wrap (-t.2.2.2),ps c a) a2 d2):=⟨by
     rw [←hS.out,←ha1.out]
     show coS c a d=_
     unfold coS takeS wS
     rw [if_neg hk1,if_pos h37,if_pos h37,if_neg (by omega),if_neg (by omega)]
     rfl⟩
    simp only [h37,decide_true] at IM
    have wa0:IntKind.i64.wrap ((a:Int)+1)=(a:Int)+1:=IntWalk.i64_in _ (by omega)
    clear hS hk1 h37 hn
    go_upto_region 8 with (first|(go_at_call 31;(with_reducible refine IS.mono ?_);rintro e w2 ⟨rfl,hb⟩)|(go_at_call 31;(with_reducible refine (IM _ hb).mono ?_);rintro e w3 ⟨rfl,hb3⟩;have hb3:=hb.trans (hb3.mono hb.size);have k2:=((F.below hb3).st hG).1.c2;have j2:=((F.below hb3).st hG).1.fz 2))
    have F2:=(F.below hb3).step hal
    have hv2:=Q5 (xB hv hb3) (p:=⟨c.g,2,none⟩) (by have:=F.gl;dsimp only;omega) (.int .i64 ((a:Int)+1))
    have hr2:=Q5 (xB hr hb3) (p:=⟨c.g,2,none⟩) (by have:=F.gl;dsimp only;omega) (.int .i64 ((a:Int)+1))
    generalize w3.setCell ⟨c.g,2,none⟩ (.int .i64 ((a:Int)+1))=Y at F2 hv2 hr2 ⊢
    rw [ha1.out] at F2
    clear IS IM hb hb3 hv hr F k2 j2 wa0 hal
    have II:=rI hG (F2.st hG).1 2 (by omega) ⟨#[105,110,116]⟩ rfl
    have hWY:=F2.sz
    have hll:=F2.pb.2.1
    by_cases h2:kd c a1=2
    ·rw [decide_eq_true h2] at II
     have hal:=kL h2 (by omega)
     have hal2:=hG.hl
     have hS2:A0 (S=.ok (⟨#[]⟩,IntKind.i64.wrap (-(c.L.getD a1 zTok).2.2.2),ps c a) (a1+1) d):=⟨by rw [hS1.out];unfold wS;rw [if_pos h2,if_neg (by omega),if_neg (by omega)];rfl⟩
     obtain ⟨tb,eB,q0,q1,q2,q3⟩:=(F2.st hG).1.toks a1 hal
     have T3:=fun (Z:World) (hZ:Fr c W Z (.here a1 d))=>(hZ.st hG).1.t3 eB hal
     generalize (c.L.getD a1 zTok).2.2.2=tv at q3 hS2 T3
     have a0:(0:Int)≤(a1:Int):=by omega
     have a1l:(a1:Int)<(c.L.length:Int):=by omega
     have wa:IntKind.i64.wrap ((a1:Int)+1)=(a1:Int)+1:=IntWalk.i64_in _ (by omega)
     have A1:=(F2.st hG).1.c1
     rw [eB] at A1
     have A2:=(F2.st hG).1.c2
     have k1:=bC hv2 1
     have j1:=bF hv2 1
     clear q0 q1 q2 h2
     go_upto_region 11 with (first|(go_at_call 31;(with_reducible refine II.mono ?_);rintro e w6 ⟨rfl,hb6⟩))
     have F3:=F2.below hb6
     have hv3:=xB hv2 hb6
     have hr3:=xB hr2 hb6
     have q3:=(cT hb6 q3)
     have A1:w6.cell? ⟨c.g,1,none⟩=_:=(cT hb6 A1)
     have A2:w6.cell? ⟨c.g,2,none⟩=_:=(cT hb6 A2)
     have z1v:w6.cell? ⟨W.heap.size+1,1,none⟩=some (.int .i64 0):=bC hv3 1
     have f1v:=bF hv3 1
     have F9:=(F3.set (p:=⟨W.heap.size+1,1,none⟩) (Nat.le_succ _) (.int .i64 tv)).drew
     have A19:=(F9.st hG).1.c1
     rw [eB] at A19
     have hS9:=A0.mk (And.intro A19 (And.intro (F9.st hG).1.c2 (T3 _ F9)))
     have hS3:=A0.mk (And.intro A1 (And.intro A2 q3))
     clear k1 j1 II F2 hv2 hr2 T3 A19
     go_region_held3 (fun w':World=>w'.cell? ⟨c.g,1,none⟩=some (.slice (some tb) c.L.length c.tc)∧w'.cell? ⟨c.g,2,none⟩=some (.int .i64 (a1:Int))∧w'.cell? ⟨(tb.add (a1 * 4)).block,(tb.add (a1 * 4)).off+3,none⟩=some (.int .i64 tv)) (first | with_reducible exact hS9.out | exact hS3.out) (fail)
     have hv4:=bD (bP hv3 1 (.int .i64 tv) rfl)
     have hr4:=bD (Q5 hr3 (p:=⟨W.heap.size+1,1,none⟩) (by dsimp only;omega) (.int .i64 tv))
     generalize (w6.setCell ⟨W.heap.size+1,1,none⟩ (.int .i64 tv)).drew=Y1 at F9 hv4 hr4 ⊢
     clear hS9 hS3 F3 hv3 hr3 A1 A2 q3 z1v f1v
     have A2:=(F9.st hG).1.c2
     have A1:=(F9.st hG).1.fz 2
     go_upto_region 13 with fail
     have F5:=F9.step hal
     have hv4:=Q5 hv4 (p:=⟨c.g,2,none⟩) (by have:=F9.gl;dsimp only;omega) (.int .i64 ((a1:Int)+1))
     have hr4:=Q5 hr4 (p:=⟨c.g,2,none⟩) (by have:=F9.gl;dsimp only;omega) (.int .i64 ((a1:Int)+1))
     generalize Y1.setCell ⟨c.g,2,none⟩ (.int .i64 ((a1:Int)+1))=Y2 at F5 hv4 hr4 ⊢
     clear F9
     have z1n:Y2.cell? ⟨W.heap.size+1,1,none⟩=some (.int .i64 tv):=bC hv4 1
     have y1n:=bF hv4 1
     clear A1 A2
     go_upto_region 15 with fail
     have F6:=F5.set (p:=⟨W.heap.size+1,1,none⟩) (Nat.le_succ _) (.int .i64 (wrap64 (-tv)))
     have hv5:=bP hv4 1 (.int .i64 (wrap64 (-tv))) rfl
     have hr5:=Q5 hr4 (p:=⟨W.heap.size+1,1,none⟩) (by dsimp only;omega) (.int .i64 (wrap64 (-tv)))
     generalize Y2.setCell ⟨W.heap.size+1,1,none⟩ (.int .i64 (wrap64 (-tv)))=Y3 at F6 hv5 hr5 ⊢
     clear z1n y1n
     have z0:Y3.cell? ⟨W.heap.size+1,0,none⟩=some (.string ⟨#[]⟩):=bC hv5 0
     have z1:Y3.cell? ⟨W.heap.size+1,1,none⟩=some (.int .i64 (wrap64 (-tv))):=bC hv5 1
     have z2:Y3.cell? ⟨W.heap.size+1,2,none⟩=some (.int .i64 (ps c a)):=bC hv5 2
     have y0:=bF hr5 0
     have y1:=bF hr5 1
     have y2:=bF hr5 2
     have x0:Y3.cell? ⟨W.heap.size,0,none⟩=some (.string ⟨#[]⟩):=bC hr5 0
     have x1:Y3.cell? ⟨W.heap.size,1,none⟩=some (.int .i64 0):=bC hr5 1
     have x2:Y3.cell? ⟨W.heap.size,2,none⟩=some (.int .i64 0):=bC hr5 2
     clear hal wa hS1
     go_wp2
     rw [hS2.out]
     have F7:=fr_set3 F6 (Nat.le_refl _) (.string ⟨#[]⟩) (.int .i64 (wrap64 (-tv))) (.int .i64 (ps c a))
     exact bodyPost_ret (res_c rfl _ _ W.heap.size 67 _ (0,0) _ rfl (all67 hr5 rfl) Tryz.underlying67 rfl (by kernel_rfl)) rfl (F7.end hG rfl ⟨_,_,_,rfl,fun y hy=>by cases hy;first | rfl | rw [IntWalk.i64_left]⟩)
    ·rw [decide_eq_false h2] at II
     have hS2:A0 (S=.bad (ps c a1) 40):=⟨by rw [hS1.out];unfold wS;rw [if_neg h2];rfl⟩
     have FL:=fun Z (hb:Below Y.heap.size Y Z)=>rfail_call2 hG ((F2.below hb).st hG) 40 (by decide)
     clear hS1 h2
     go_upto_region 10 with (first|(go_at_call 31;(with_reducible refine II.mono ?_);rintro e w6 ⟨rfl,hb6⟩)|(go_at_call 37;(with_reducible refine (FL _ hb6).mono ?_);rintro e w7 ⟨hg,⟨v,rfl,rfl⟩,hR⟩))
     have F3:=(F2.below hb6).call hg hR
     have hv5:=xC (xB hv2 hb6) hg (by have:=F2.gl;omega)
     have hr5:=xC (xB hr2 hb6) hg (by have:=F2.gl;omega)
     have z0:w7.cell? ⟨W.heap.size+1,0,none⟩=some (.string ⟨#[]⟩):=bC hv5 0
     have z1:w7.cell? ⟨W.heap.size+1,1,none⟩=some (.int .i64 0):=bC hv5 1
     have z2:w7.cell? ⟨W.heap.size+1,2,none⟩=some (.int .i64 (ps c a)):=bC hv5 2
     have y0:=bF hr5 0
     have y1:=bF hr5 1
     have y2:=bF hr5 2
     have x0:w7.cell? ⟨W.heap.size,0,none⟩=some (.string ⟨#[]⟩):=bC hr5 0
     have x1:w7.cell? ⟨W.heap.size,1,none⟩=some (.int .i64 0):=bC hr5 1
     have x2:w7.cell? ⟨W.heap.size,2,none⟩=some (.int .i64 0):=bC hr5 2
     clear II FL F2 hv2 hr2 hb6 hg hR
     go_wp2
     rw [hS2.out]
     have F7:=fr_set3 F3 (Nat.le_refl _) (.string ⟨#[]⟩) (.int .i64 0) (.int .i64 (ps c a))
     exact bodyPost_ret (res_c rfl _ _ W.heap.size 67 _ (0,0) _ rfl (all67 hr5 rfl) Tryz.underlying67 rfl (by kernel_rfl)) rfl (F7.end hG rfl ⟨_,_,_,rfl,fun y hy=>by cases hy⟩)
   ·obtain ⟨a1,ha1⟩:∃a1,A0 (a=a1):=⟨_,⟨rfl⟩⟩
    have hS1:A0 (S=(wS c 2 a1 d).bind fun t a2 d2=>.ok (⟨#[]⟩,t.2.2.2,ps c a) a2 d2):=⟨by
     rw [←hS.out,←ha1.out]
     show coS c a d=_
     unfold coS takeS
     rw [if_neg hk1,if_neg h37]
     rfl⟩
    simp only [h37,decide_false] at IM
    clear hS hk1 h37 hn
    go_upto_region 8 with (first|(go_at_call 31;(with_reducible refine IS.mono ?_);rintro e w2 ⟨rfl,hb⟩)|(go_at_call 31;(with_reducible refine (IM _ hb).mono ?_);rintro e w3 ⟨rfl,hb3⟩;have hb3:=hb.trans (hb3.mono hb.size)))
    have F2:=F.below hb3
    have hv2:=xB hv hb3
    have hr2:=xB hr hb3
    generalize w3=Y at F2 hv2 hr2 ⊢
    rw [ha1.out] at F2
    clear IS IM hb hb3 hv hr F
    have II:=rI hG (F2.st hG).1 2 (by omega) ⟨#[105,110,116]⟩ rfl
    have hWY:=F2.sz
    have hll:=F2.pb.2.1
    by_cases h2:kd c a1=2
    ·rw [decide_eq_true h2] at II
     have hal:=kL h2 (by omega)
     have hal2:=hG.hl
     have hS2:A0 (S=.ok (⟨#[]⟩,(c.L.getD a1 zTok).2.2.2,ps c a) (a1+1) d):=⟨by rw [hS1.out];unfold wS;rw [if_pos h2,if_neg (by omega),if_neg (by omega)];rfl⟩
     obtain ⟨tb,eB,q0,q1,q2,q3⟩:=(F2.st hG).1.toks a1 hal
     have T3:=fun (Z:World) (hZ:Fr c W Z (.here a1 d))=>(hZ.st hG).1.t3 eB hal
     generalize (c.L.getD a1 zTok).2.2.2=tv at q3 hS2 T3
     have a0:(0:Int)≤(a1:Int):=by omega
     have a1l:(a1:Int)<(c.L.length:Int):=by omega
     have wa:IntKind.i64.wrap ((a1:Int)+1)=(a1:Int)+1:=IntWalk.i64_in _ (by omega)
     have A1:=(F2.st hG).1.c1
     rw [eB] at A1
     have A2:=(F2.st hG).1.c2
     have k1:=bC hv2 1
     have j1:=bF hv2 1
     clear q0 q1 q2 h2
     go_upto_region 11 with (first|(go_at_call 31;(with_reducible refine II.mono ?_);rintro e w6 ⟨rfl,hb6⟩))
     have F3:=F2.below hb6
     have hv3:=xB hv2 hb6
     have hr3:=xB hr2 hb6
     have q3:=(cT hb6 q3)
     have A1:w6.cell? ⟨c.g,1,none⟩=_:=(cT hb6 A1)
     have A2:w6.cell? ⟨c.g,2,none⟩=_:=(cT hb6 A2)
     have z1v:w6.cell? ⟨W.heap.size+1,1,none⟩=some (.int .i64 0):=bC hv3 1
     have f1v:=bF hv3 1
     have F9:=(F3.set (p:=⟨W.heap.size+1,1,none⟩) (Nat.le_succ _) (.int .i64 tv)).drew
     have A19:=(F9.st hG).1.c1
     rw [eB] at A19
     have hS9:=A0.mk (And.intro A19 (And.intro (F9.st hG).1.c2 (T3 _ F9)))
     have hS3:=A0.mk (And.intro A1 (And.intro A2 q3))
     clear k1 j1 II F2 hv2 hr2 T3 A19
     go_region_held3 (fun w':World=>w'.cell? ⟨c.g,1,none⟩=some (.slice (some tb) c.L.length c.tc)∧w'.cell? ⟨c.g,2,none⟩=some (.int .i64 (a1:Int))∧w'.cell? ⟨(tb.add (a1 * 4)).block,(tb.add (a1 * 4)).off+3,none⟩=some (.int .i64 tv)) (first | with_reducible exact hS9.out | exact hS3.out) (fail)
     have hv4:=bD (bP hv3 1 (.int .i64 tv) rfl)
     have hr4:=bD (Q5 hr3 (p:=⟨W.heap.size+1,1,none⟩) (by dsimp only;omega) (.int .i64 tv))
     generalize (w6.setCell ⟨W.heap.size+1,1,none⟩ (.int .i64 tv)).drew=Y1 at F9 hv4 hr4 ⊢
     clear hS9 hS3 F3 hv3 hr3 A1 A2 q3 z1v f1v
     have A2:=(F9.st hG).1.c2
     have A1:=(F9.st hG).1.fz 2
     go_upto_region 13 with fail
     have F5:=F9.step hal
     have hv4:=Q5 hv4 (p:=⟨c.g,2,none⟩) (by have:=F9.gl;dsimp only;omega) (.int .i64 ((a1:Int)+1))
     have hr4:=Q5 hr4 (p:=⟨c.g,2,none⟩) (by have:=F9.gl;dsimp only;omega) (.int .i64 ((a1:Int)+1))
     generalize Y1.setCell ⟨c.g,2,none⟩ (.int .i64 ((a1:Int)+1))=Y2 at F5 hv4 hr4 ⊢
     clear F9
     clear A1 A2
     go_upto_region 15 with fail
     have F6:=F5
     have hv5:=hv4
     have hr5:=hr4
     generalize Y2=Y3 at F6 hv5 hr5 ⊢
     have z0:Y3.cell? ⟨W.heap.size+1,0,none⟩=some (.string ⟨#[]⟩):=bC hv5 0
     have z1:Y3.cell? ⟨W.heap.size+1,1,none⟩=some (.int .i64 (tv)):=bC hv5 1
     have z2:Y3.cell? ⟨W.heap.size+1,2,none⟩=some (.int .i64 (ps c a)):=bC hv5 2
     have y0:=bF hr5 0
     have y1:=bF hr5 1
     have y2:=bF hr5 2
     have x0:Y3.cell? ⟨W.heap.size,0,none⟩=some (.string ⟨#[]⟩):=bC hr5 0
     have x1:Y3.cell? ⟨W.heap.size,1,none⟩=some (.int .i64 0):=bC hr5 1
     have x2:Y3.cell? ⟨W.heap.size,2,none⟩=some (.int .i64 0):=bC hr5 2
     clear hal wa hS1
     go_wp2
     rw [hS2.out]
     have F7:=fr_set3 F6 (Nat.le_refl _) (.string ⟨#[]⟩) (.int .i64 (tv)) (.int .i64 (ps c a))
     exact bodyPost_ret (res_c rfl _ _ W.heap.size 67 _ (0,0) _ rfl (all67 hr5 rfl) Tryz.underlying67 rfl (by kernel_rfl)) rfl (F7.end hG rfl ⟨_,_,_,rfl,fun y hy=>by cases hy;first | rfl | rw [IntWalk.i64_left]⟩)
    ·rw [decide_eq_false h2] at II
     have hS2:A0 (S=.bad (ps c a1) 40):=⟨by rw [hS1.out];unfold wS;rw [if_neg h2];rfl⟩
     have FL:=fun Z (hb:Below Y.heap.size Y Z)=>rfail_call2 hG ((F2.below hb).st hG) 40 (by decide)
     clear hS1 h2
     go_upto_region 10 with (first|(go_at_call 31;(with_reducible refine II.mono ?_);rintro e w6 ⟨rfl,hb6⟩)|(go_at_call 37;(with_reducible refine (FL _ hb6).mono ?_);rintro e w7 ⟨hg,⟨v,rfl,rfl⟩,hR⟩))
     have F3:=(F2.below hb6).call hg hR
     have hv5:=xC (xB hv2 hb6) hg (by have:=F2.gl;omega)
     have hr5:=xC (xB hr2 hb6) hg (by have:=F2.gl;omega)
     have z0:w7.cell? ⟨W.heap.size+1,0,none⟩=some (.string ⟨#[]⟩):=bC hv5 0
     have z1:w7.cell? ⟨W.heap.size+1,1,none⟩=some (.int .i64 0):=bC hv5 1
     have z2:w7.cell? ⟨W.heap.size+1,2,none⟩=some (.int .i64 (ps c a)):=bC hv5 2
     have y0:=bF hr5 0
     have y1:=bF hr5 1
     have y2:=bF hr5 2
     have x0:w7.cell? ⟨W.heap.size,0,none⟩=some (.string ⟨#[]⟩):=bC hr5 0
     have x1:w7.cell? ⟨W.heap.size,1,none⟩=some (.int .i64 0):=bC hr5 1
     have x2:w7.cell? ⟨W.heap.size,2,none⟩=some (.int .i64 0):=bC hr5 2
     clear II FL F2 hv2 hr2 hb6 hg hR
     go_wp2
     rw [hS2.out]
     have F7:=fr_set3 F3 (Nat.le_refl _) (.string ⟨#[]⟩) (.int .i64 0) (.int .i64 (ps c a))
     exact bodyPost_ret (res_c rfl _ _ W.heap.size 67 _ (0,0) _ rfl (all67 hr5 rfl) Tryz.underlying67 rfl (by kernel_rfl)) rfl (F7.end hG rfl ⟨_,_,_,rfl,fun y hy=>by cases hy⟩)
section
variable {c:Ctx} {W:World} {s0:Sta}
theorem rname_c (hG:Good c) (h:RSt c W s0) {o:Out ByteArray} (ho:A0 (s0.go (nS c)=o)) :
  Calls Tryz.prog 34 #[c.me] W fun e W'=>W.grownBy W' (some c.g)∧(∃nm,e=.returned (.string nm)∧A0 (∀y,o.val=some y→y=nm))∧RSt c W' o.sta :=
 (rname_call hG h).mono fun e w ⟨hg,⟨v,he,hv⟩,hR⟩=>by
  rw [ho.out] at hv hR
  exact ⟨hg,⟨_,he.trans (congrArg _ hv),⟨fun y hy=>by rw [hy];rfl⟩⟩,hR⟩
theorem rconst_c (hG:Good c) (h:RSt c W s0) {o:Out Con} (ho:A0 (s0.go (coS c)=o)) :
  Calls Tryz.prog 65 #[c.me] W fun e W'=>W.grownBy W' (some c.g)∧(∃nm n p,e=.returned (.agg #[.string nm,.int .i64 n,.int .i64 p])∧A0 (∀y,o.val=some y→y=(nm,n,p)))∧RSt c W' o.sta :=
 (rconst_call hG h).mono fun e w ⟨hg,⟨v,he,nm,n,p,hv,hy⟩,hR⟩=>by
  rw [ho.out] at hy hR
  exact ⟨hg,⟨nm,n,p,he.trans (congrArg _ hv),⟨hy⟩⟩,hR⟩
theorem tC (hG:Good c) (h:RSt c W s0) (K:Int) (hK:1≤K∧K≤52) (s:ByteArray) (hs:wordB K=s) {o:Out Unit} (ho:A0 (s0.go (tkS c K)=o)) :
  Calls Tryz.prog 36 #[c.me,.string s] W fun e W'=>W.grownBy W' (some c.g)∧e=.returned (.tuple #[])∧RSt c W' o.sta :=
 (rtake_call hG h K hK s hs).mono fun e w ⟨hg,⟨v,he,hv⟩,hR⟩=>by
  rw [ho.out] at hR
  exact ⟨hg,he.trans (congrArg _ hv),hR⟩
end
theorem typS_bad {c:Ctx} {a:Nat} {d:Int} (h17:kd c a≠17) (h15:kd c a≠15) (h16:kd c a≠16):typS c a d=.bad (ps c a) 40:=by
 unfold typS wS
 rw [if_neg h17,if_neg h15,if_neg h16]
 rfl
set_option maxHeartbeats 4000000 in
theorem rkind_c {c:Ctx} (hG:Good c) {W:World} {s0:Sta} (h:RSt c W s0) {o:Out Int} (ho:A0 (s0.go (typS c)=o)) :
  Calls Tryz.prog 66 #[c.me] W fun e W'=>W.grownBy W' (some c.g)∧(∃k,e=.returned (.int .i64 k)∧A0 (∀y,o.val=some y→y=k))∧RSt c W' o.sta:=by
 have F:=Fr.start h
 have IA:=ris_call hG h 17 (by omega) ⟨#[105,110,116,56]⟩ rfl
 have IB:=fun Y (hb:Below W.heap.size W Y)=>ris_call hG ((F.below hb).st hG) 15 (by omega) ⟨#[105,110,116,49,54]⟩ rfl
 have IC:=fun Y (hb:Below W.heap.size W Y)=>ris_call hG ((F.below hb).st hG) 16 (by omega) ⟨#[105,110,116,51,50]⟩ rfl
 have FL:=fun Y (hb:Below W.heap.size W Y)=>rfail_call2 hG ((F.below hb).st hG) 40 (by decide)
 by_cases hh:∃a d,s0=.here a d∧(kd c a=17∨kd c a=15∨kd c a=16)
 ·obtain ⟨a,d,rfl,hk⟩:=hh
  have hal:a<c.L.length:=by rcases hk with h | h | h <;> exact kL h (by omega)
  have hal2:=hG.hl
  have wa:IntKind.i64.wrap ((a:Int)+1)=(a:Int)+1:=IntWalk.i64_in _ (by omega)
  have C2:=fun Y (hb:Below W.heap.size W Y)=>((F.below hb).st hG).1.c2
  have Z2:=fun Y (hb:Below W.heap.size W Y)=>((F.below hb).st hG).1.fz 2
  have H:=fun Y (hb:Below W.heap.size W Y)=>(F.below hb).step hal
  simp only [Sta.sees] at IA IB IC
  rcases hk with hk | hk | hk
  ·simp only [hk,decide_true] at IA
   have ho2:A0 (o=.ok 1 (a+1) d):=⟨by rw [←ho.out];show typS c a d=_;unfold typS;rw [if_pos hk]⟩
   clear ho hk IB IC FL
   go_enter Tryz.func66,Tryz.ntmps66
   go_wp2_with (first|(go_at_call 31;(with_reducible refine IA.mono ?_);rintro e w2 ⟨rfl,hb⟩;have c2:=C2 _ hb;have z2:=Z2 _ hb))
   go_ret
   rw [ho2.out]
   exact ⟨(H _ hb).fr,⟨_,rfl,⟨fun y hy=>by cases hy;rfl⟩⟩,(H _ hb).st hG⟩
  ·simp only [hk,decide_true] at IB
   simp only [hk] at IA
   have ho2:A0 (o=.ok 2 (a+1) d):=⟨by rw [←ho.out];show typS c a d=_;unfold typS;rw [if_neg (by omega),if_pos hk]⟩
   clear ho hk IC FL
   go_enter Tryz.func66,Tryz.ntmps66
   go_wp2_with (first|(go_at_call 31;(with_reducible refine IA.mono ?_);rintro e w2 ⟨rfl,hb⟩)|(go_at_call 31;(with_reducible refine (IB _ hb).mono ?_);rintro e w3 ⟨rfl,hb3⟩;have hb3:=hb.trans (hb3.mono hb.size);have c2:=C2 _ hb3;have z2:=Z2 _ hb3))
   go_ret
   rw [ho2.out]
   exact ⟨(H _ hb3).fr,⟨_,rfl,⟨fun y hy=>by cases hy;rfl⟩⟩,(H _ hb3).st hG⟩
  ·simp only [hk,decide_true] at IC
   simp only [hk] at IA IB
   have ho2:A0 (o=.ok 3 (a+1) d):=⟨by rw [←ho.out];show typS c a d=_;unfold typS wS;rw [if_neg (by omega),if_neg (by omega),if_pos hk,if_neg (by omega),if_neg (by omega)];rfl⟩
   clear ho hk FL
   go_enter Tryz.func66,Tryz.ntmps66
   go_wp2_with (first|(go_at_call 31;(with_reducible refine IA.mono ?_);rintro e w2 ⟨rfl,hb⟩)|(go_at_call 31;(with_reducible refine (IB _ hb).mono ?_);rintro e w3 ⟨rfl,hb3⟩;have hb3:=hb.trans (hb3.mono hb.size))|(go_at_call 31;(with_reducible refine (IC _ hb3).mono ?_);rintro e w4 ⟨rfl,hb4⟩;have hb4:=hb3.trans (hb4.mono hb3.size);have c2:=C2 _ hb4;have z2:=Z2 _ hb4))
   go_ret
   rw [ho2.out]
   exact ⟨(H _ hb4).fr,⟨_,rfl,⟨fun y hy=>by cases hy;rfl⟩⟩,(H _ hb4).st hG⟩
 ·have hse:∀K:Int,(K=17∨K=15∨K=16)→s0.sees c K=false:=fun K hK=>by
   cases s0 with
   | lost p er=>rfl
   | here a d=>exact decide_eq_false (fun e=>hh ⟨a,d,rfl,by omega⟩)
  rw [hse 17 (by omega)] at IA
  simp only [hse 15 (by omega),hse 16 (by omega)] at IB IC
  have ho2:A0 (o=s0.go fun a _=>(.bad (ps c a) 40:Out Int)):=⟨by
   rw [←ho.out]
   cases s0 with
   | lost p er=>rfl
   | here a d=>exact typS_bad (fun e=>hh ⟨a,d,rfl,by omega⟩) (fun e=>hh ⟨a,d,rfl,by omega⟩) (fun e=>hh ⟨a,d,rfl,by omega⟩)⟩
  clear ho hh hse
  go_enter Tryz.func66,Tryz.ntmps66
  go_wp2_with (first|(go_at_call 31;(with_reducible refine IA.mono ?_);rintro e w2 ⟨rfl,hb⟩)|(go_at_call 31;(with_reducible refine (IB _ hb).mono ?_);rintro e w3 ⟨rfl,hb3⟩;have hb3:=hb.trans (hb3.mono hb.size))|(go_at_call 31;(with_reducible refine (IC _ hb3).mono ?_);rintro e w4 ⟨rfl,hb4⟩;have hb4:=hb3.trans (hb4.mono hb3.size))|(go_at_call 37;(with_reducible refine (FL _ hb4).mono ?_);rintro e w5 ⟨hg,⟨v,rfl,rfl⟩,hR⟩))
  go_ret
  rw [ho2.out]
  refine ⟨Q4 (grown_of_below hb4) hg,⟨_,rfl,⟨fun y hy=>?_⟩⟩,?_⟩
  ·cases s0 <;> cases hy
  ·cases s0 <;> exact hR
abbrev set13 (X:World) (g:Nat) (u0 u1 u2 u3 u4 u5 u6 u7 u8 u9 u10 u11 u12:Value):World :=
 ((((((((((((X.setCell ⟨g,0,none⟩ u0).setCell ⟨g,1,none⟩ u1).setCell ⟨g,2,none⟩ u2).setCell ⟨g,3,none⟩ u3).setCell ⟨g,4,none⟩ u4).setCell ⟨g,5,none⟩ u5).setCell ⟨g,6,none⟩ u6).setCell ⟨g,7,none⟩ u7).setCell ⟨g,8,none⟩ u8).setCell ⟨g,9,none⟩ u9).setCell ⟨g,10,none⟩ u10).setCell ⟨g,11,none⟩ u11).setCell ⟨g,12,none⟩ u12
theorem bx_set13 {X:World} {g:Nat} {t:TypeId} {r0 r1 r2 r3 r4 r5 r6 r7 r8 r9 r10 r11 r12:Value} (u0 u1 u2 u3 u4 u5 u6 u7 u8 u9 u10 u11 u12:Value) (h:Bx X g t #[r0,r1,r2,r3,r4,r5,r6,r7,r8,r9,r10,r11,r12]):Bx (set13 X g u0 u1 u2 u3 u4 u5 u6 u7 u8 u9 u10 u11 u12) g t #[u0,u1,u2,u3,u4,u5,u6,u7,u8,u9,u10,u11,u12]:=by
 have g0:=bP h 0 u0 (cs':=#[u0,r1,r2,r3,r4,r5,r6,r7,r8,r9,r10,r11,r12]) rfl
 have g1:=bP g0 1 u1 (cs':=#[u0,u1,r2,r3,r4,r5,r6,r7,r8,r9,r10,r11,r12]) rfl
 have g2:=bP g1 2 u2 (cs':=#[u0,u1,u2,r3,r4,r5,r6,r7,r8,r9,r10,r11,r12]) rfl
 have g3:=bP g2 3 u3 (cs':=#[u0,u1,u2,u3,r4,r5,r6,r7,r8,r9,r10,r11,r12]) rfl
 have g4:=bP g3 4 u4 (cs':=#[u0,u1,u2,u3,u4,r5,r6,r7,r8,r9,r10,r11,r12]) rfl
 have g5:=bP g4 5 u5 (cs':=#[u0,u1,u2,u3,u4,u5,r6,r7,r8,r9,r10,r11,r12]) rfl
 have g6:=bP g5 6 u6 (cs':=#[u0,u1,u2,u3,u4,u5,u6,r7,r8,r9,r10,r11,r12]) rfl
 have g7:=bP g6 7 u7 (cs':=#[u0,u1,u2,u3,u4,u5,u6,u7,r8,r9,r10,r11,r12]) rfl
 have g8:=bP g7 8 u8 (cs':=#[u0,u1,u2,u3,u4,u5,u6,u7,u8,r9,r10,r11,r12]) rfl
 have g9:=bP g8 9 u9 (cs':=#[u0,u1,u2,u3,u4,u5,u6,u7,u8,u9,r10,r11,r12]) rfl
 have g10:=bP g9 10 u10 (cs':=#[u0,u1,u2,u3,u4,u5,u6,u7,u8,u9,u10,r11,r12]) rfl
 have g11:=bP g10 11 u11 (cs':=#[u0,u1,u2,u3,u4,u5,u6,u7,u8,u9,u10,u11,r12]) rfl
 exact bP g11 12 u12 rfl
theorem fr_set13 {c:Ctx} {W X:World} {s:Sta} (h:Fr c W X s) {g:Nat} (hg:W.heap.size≤g) (u0 u1 u2 u3 u4 u5 u6 u7 u8 u9 u10 u11 u12:Value):Fr c W (set13 X g u0 u1 u2 u3 u4 u5 u6 u7 u8 u9 u10 u11 u12) s :=
 ((((((((((((h.set (p:=⟨g,0,none⟩) hg u0).set (p:=⟨g,1,none⟩) hg u1).set (p:=⟨g,2,none⟩) hg u2).set (p:=⟨g,3,none⟩) hg u3).set (p:=⟨g,4,none⟩) hg u4).set (p:=⟨g,5,none⟩) hg u5).set (p:=⟨g,6,none⟩) hg u6).set (p:=⟨g,7,none⟩) hg u7).set (p:=⟨g,8,none⟩) hg u8).set (p:=⟨g,9,none⟩) hg u9).set (p:=⟨g,10,none⟩) hg u10).set (p:=⟨g,11,none⟩) hg u11).set (p:=⟨g,12,none⟩) hg u12
abbrev repDo:World→Value→Option Dec→Prop:=fun _ v x=>∃dec:Dec,v=.agg (C69 dec)∧∀y,x=some y→y=dec
theorem tk_bind {β:Type} {c:Ctx} {K:Int} {a:Nat} {d:Int} {F:Nat→Int→Out β}:((wS c K a d).bind fun _ a d=>F a d)=(tkS c K a d).bind fun _ a d=>F a d:=by
 unfold tkS
 cases wS c K a d <;> rfl
set_option maxHeartbeats 2000000 in
theorem rdecl8 {c:Ctx} (hG:Good c) {W:World} {a:Nat} {d:Int} (h:RSt c W (.here a d)) (hk:kd c a=8) (S:Out Dec) (hSp:A0 (S=(nS c (a+1) d).bind fun nm a1 d1=>(tkS c 44 a1 d1).bind fun _ a2 d2=>(coS c a2 d2).bind fun lo a3 d3=>(tkS c 41 a3 d3).bind fun _ a4 d4=>.ok ⟨1,0,nm,z67,lo,z67,ps c a⟩ a4 d4)) :
  Calls Tryz.prog 32 #[c.me] W (RPost c W repDo S):=by
 have F0:=(Fr.start h).alloc (.cells Z13 69)
 have PS:=pC (F0.st hG).1
 have hal:=kL hk (by omega)
 have hal2:=hG.hl
 have wa:IntKind.i64.wrap ((a:Int)+1)=(a:Int)+1:=IntWalk.i64_in _ (by omega)
 have F1:=fun q=>(F0.drewN q).alloc (.cells (P13 (ps c a)) 69)
 have r1:∀q,Bx (((W.alloc (.cells Z13 69)).drewN q).alloc (.cells (P13 (ps c a)) 69)) W.heap.size 69 Z13:=fun q=>xB (X:=(W.alloc (.cells Z13 69)).drewN q) (xN W 69 _) (bA _ _)
 have v1:∀q,Bx (((W.alloc (.cells Z13 69)).drewN q).alloc (.cells (P13 (ps c a)) 69)) (W.heap.size+1) 69 (P13 (ps c a)):=fun q=>by
  have:=xN ((W.alloc (.cells Z13 69)).drewN q) 69 (P13 (ps c a))
  rwa [show ((W.alloc (.cells Z13 69)).drewN q).heap.size=W.heap.size+1 by simp] at this
 replace r1:=A0.mk r1
 replace v1:=A0.mk v1
 replace F1:=A0.mk F1
 go_enter Tryz.func32,Tryz.ntmps32
 go_upto_region 2 with (first|(go_at_call 33;(with_reducible refine PS.mono ?_);rintro e w2 ⟨rfl,q,rfl⟩))
 have F:=F1.out q
 have hr:=r1.out q
 have hv:=v1.out q
 generalize ((W.alloc (.cells Z13 69)).drewN q).alloc (.cells (P13 (ps c a)) 69)=X at F hr hv ⊢
 clear F0 F1 r1 v1 PS
 have hWX:=F.sz
 have hb0:Below X.heap.size X X:=Below.refl _ _
 have T0:=fun Y (hb:Below X.heap.size X Y)=>rI hG ((F.below hb).st hG).1 8 (by omega) ⟨#[99,111,110,115,116]⟩ rfl
 simp only [hk,decide_true] at T0
 replace hk:=A0.mk hk
 go_upto_region 4 with (first|(go_at_call 31;(with_reducible refine (T0 _ hb0).mono ?_);rintro e w3 ⟨rfl,hb1⟩;replace hb1:=hb0.trans (hb1.mono hb0.size);have k2:=((F.below hb1).st hG).1.c2;have j2:=((F.below hb1).st hG).1.fz 2))
 replace F:=(F.below hb1).step hal
 replace hv:=Q5 (xB hv hb1) (p:=⟨c.g,2,none⟩) (by have:=F.gl;dsimp only;omega) (.int .i64 ((a:Int)+1))
 replace hr:=Q5 (xB hr hb1) (p:=⟨c.g,2,none⟩) (by have:=F.gl;dsimp only;omega) (.int .i64 ((a:Int)+1))
 clear k2 j2 T0 hb1 hb0
 clear hWX
 generalize w3.setCell ⟨c.g,2,none⟩ (.int .i64 ((a:Int)+1))=X1 at F hv hr ⊢
 have z0:X1.cell? ⟨W.heap.size+1,0,none⟩=some (.int .i64 0):=bC hv 0
 have y0:=bF hv 0
 go_upto_region 5 with fail
 replace F:=F.set (p:=⟨W.heap.size+1,0,none⟩) (Nat.le_succ _) (.int .i64 1)
 replace hv:Bx _ (W.heap.size+1) 69 #[.int .i64 1,.int .i64 0,.string ⟨#[]⟩,.string ⟨#[]⟩,.int .i64 0,.int .i64 0,.string ⟨#[]⟩,.int .i64 0,.int .i64 0,.string ⟨#[]⟩,.int .i64 0,.int .i64 0,.int .i64 (ps c a)]:=bP hv 0 (.int .i64 1) rfl
 replace hr:=Q5 hr (p:=⟨W.heap.size+1,0,none⟩) (by dsimp only;omega) (.int .i64 1)
 clear z0 y0
 generalize X1.setCell ⟨W.heap.size+1,0,none⟩ (.int .i64 1)=X2 at F hv hr ⊢
 obtain ⟨o0,ho0⟩:∃o,A0 (((Sta.here (a+1) d)).go (nS c)=o):=⟨_,⟨rfl⟩⟩
 have CN:=rname_c hG (F.st hG) ho0
 go_upto_region 6 with (first|(go_at_call 34;(with_reducible refine CN.mono ?_);rintro e u3 ⟨hg,⟨nm0,rfl,h0⟩,hR⟩;have hv2:=xC hv hg (by have:=F.gl;omega);have z0:u3.cell? ⟨W.heap.size+1,2,none⟩=some (.string ⟨#[]⟩):=bC hv2 2;have y0:=bF hv2 2))
 replace F:=F.call hg hR
 replace hr:=xC hr hg (by have:=F.gl;omega)
 replace F:=F.set (p:=⟨W.heap.size+1,2,none⟩) (Nat.le_succ _) (.string nm0)
 replace hv2:Bx _ (W.heap.size+1) 69 #[.int .i64 1,.int .i64 0,.string nm0,.string ⟨#[]⟩,.int .i64 0,.int .i64 0,.string ⟨#[]⟩,.int .i64 0,.int .i64 0,.string ⟨#[]⟩,.int .i64 0,.int .i64 0,.int .i64 (ps c a)]:=bP hv2 2 (.string nm0) rfl
 replace hr:=Q5 hr (p:=⟨W.heap.size+1,2,none⟩) (by dsimp only;omega) (.string nm0)
 clear CN hg hR hv z0 y0
 generalize (u3.setCell ⟨W.heap.size+1,2,none⟩ (.string nm0))=X3 at F hv2 hr ⊢
 have hv:=hv2
 clear hv2
 obtain ⟨o1,ho1⟩:∃o,A0 ((o0.sta).go (tkS c 44)=o):=⟨_,⟨rfl⟩⟩
 have CN:=tC hG (F.st hG) 44 (by omega) ⟨#[61]⟩ rfl ho1
 go_upto_region 7 with (first|(go_at_call 36;(with_reducible refine CN.mono ?_);rintro e u4 ⟨hg,rfl,hR⟩))
 replace F:=F.call hg hR
 replace hv:=xC hv hg (by have:=F.gl;omega)
 replace hr:=xC hr hg (by have:=F.gl;omega)
 clear CN hg hR
 generalize u4=X4 at F hv hr ⊢
 obtain ⟨o2,ho2⟩:∃o,A0 ((o1.sta).go (coS c)=o):=⟨_,⟨rfl⟩⟩
 have CN:=rconst_c hG (F.st hG) ho2
 go_upto_region 32 with (first|(go_at_call 65;(with_reducible refine CN.mono ?_);rintro e u5 ⟨hg,⟨cn2,cv2,cp2,rfl,h2⟩,hR⟩;have hv2:=xC hv hg (by have:=F.gl;omega);have z0:u5.cell? ⟨W.heap.size+1,6,none⟩=some (.string ⟨#[]⟩):=bC hv2 6;have y0:=bF hv2 6;have z1:u5.cell? ⟨W.heap.size+1,7,none⟩=some (.int .i64 0):=bC hv2 7;have y1:=bF hv2 7;have z2:u5.cell? ⟨W.heap.size+1,8,none⟩=some (.int .i64 0):=bC hv2 8;have y2:=bF hv2 8))
 replace F:=F.call hg hR
 replace hr:=xC hr hg (by have:=F.gl;omega)
 replace F:=F.set (p:=⟨W.heap.size+1,6,none⟩) (Nat.le_succ _) (.string cn2)
 replace hv2:Bx _ (W.heap.size+1) 69 #[.int .i64 1,.int .i64 0,.string nm0,.string ⟨#[]⟩,.int .i64 0,.int .i64 0,.string cn2,.int .i64 0,.int .i64 0,.string ⟨#[]⟩,.int .i64 0,.int .i64 0,.int .i64 (ps c a)]:=bP hv2 6 (.string cn2) rfl
 replace hr:=Q5 hr (p:=⟨W.heap.size+1,6,none⟩) (by dsimp only;omega) (.string cn2)
 replace F:=F.set (p:=⟨W.heap.size+1,7,none⟩) (Nat.le_succ _) (.int .i64 cv2)
 replace hv2:Bx _ (W.heap.size+1) 69 #[.int .i64 1,.int .i64 0,.string nm0,.string ⟨#[]⟩,.int .i64 0,.int .i64 0,.string cn2,.int .i64 cv2,.int .i64 0,.string ⟨#[]⟩,.int .i64 0,.int .i64 0,.int .i64 (ps c a)]:=bP hv2 7 (.int .i64 cv2) rfl
 replace hr:=Q5 hr (p:=⟨W.heap.size+1,7,none⟩) (by dsimp only;omega) (.int .i64 cv2)
 replace F:=F.set (p:=⟨W.heap.size+1,8,none⟩) (Nat.le_succ _) (.int .i64 cp2)
 replace hv2:Bx _ (W.heap.size+1) 69 #[.int .i64 1,.int .i64 0,.string nm0,.string ⟨#[]⟩,.int .i64 0,.int .i64 0,.string cn2,.int .i64 cv2,.int .i64 cp2,.string ⟨#[]⟩,.int .i64 0,.int .i64 0,.int .i64 (ps c a)]:=bP hv2 8 (.int .i64 cp2) rfl
 replace hr:=Q5 hr (p:=⟨W.heap.size+1,8,none⟩) (by dsimp only;omega) (.int .i64 cp2)
 clear CN hg hR hv z0 y0 z1 y1 z2 y2
 generalize (((u5.setCell ⟨W.heap.size+1,6,none⟩ (.string cn2)).setCell ⟨W.heap.size+1,7,none⟩ (.int .i64 cv2)).setCell ⟨W.heap.size+1,8,none⟩ (.int .i64 cp2))=X5 at F hv2 hr ⊢
 have hv:=hv2
 clear hv2
 obtain ⟨o3,ho3⟩:∃o,A0 ((o2.sta).go (tkS c 41)=o):=⟨_,⟨rfl⟩⟩
 have CN:=tC hG (F.st hG) 41 (by omega) ⟨#[59]⟩ rfl ho3
 go_upto_region 33 with (first|(go_at_call 36;(with_reducible refine CN.mono ?_);rintro e u6 ⟨hg,rfl,hR⟩))
 replace F:=F.call hg hR
 replace hv:=xC hv hg (by have:=F.gl;omega)
 replace hr:=xC hr hg (by have:=F.gl;omega)
 clear CN hg hR
 generalize u6=X6 at F hv hr ⊢
 have z0:X6.cell? ⟨W.heap.size+1,0,none⟩=some (.int .i64 1):=bC hv 0;have y0:=bF hr 0;have x0:X6.cell? ⟨W.heap.size,0,none⟩=some (.int .i64 0):=bC hr 0
 have z1:X6.cell? ⟨W.heap.size+1,1,none⟩=some (.int .i64 0):=bC hv 1;have y1:=bF hr 1;have x1:X6.cell? ⟨W.heap.size,1,none⟩=some (.int .i64 0):=bC hr 1
 have z2:X6.cell? ⟨W.heap.size+1,2,none⟩=some (.string nm0):=bC hv 2;have y2:=bF hr 2;have x2:X6.cell? ⟨W.heap.size,2,none⟩=some (.string ⟨#[]⟩):=bC hr 2
 have z3:X6.cell? ⟨W.heap.size+1,3,none⟩=some (.string ⟨#[]⟩):=bC hv 3;have y3:=bF hr 3;have x3:X6.cell? ⟨W.heap.size,3,none⟩=some (.string ⟨#[]⟩):=bC hr 3
 have z4:X6.cell? ⟨W.heap.size+1,4,none⟩=some (.int .i64 0):=bC hv 4;have y4:=bF hr 4;have x4:X6.cell? ⟨W.heap.size,4,none⟩=some (.int .i64 0):=bC hr 4
 have z5:X6.cell? ⟨W.heap.size+1,5,none⟩=some (.int .i64 0):=bC hv 5;have y5:=bF hr 5;have x5:X6.cell? ⟨W.heap.size,5,none⟩=some (.int .i64 0):=bC hr 5
 have z6:X6.cell? ⟨W.heap.size+1,6,none⟩=some (.string cn2):=bC hv 6;have y6:=bF hr 6;have x6:X6.cell? ⟨W.heap.size,6,none⟩=some (.string ⟨#[]⟩):=bC hr 6
 have z7:X6.cell? ⟨W.heap.size+1,7,none⟩=some (.int .i64 cv2):=bC hv 7;have y7:=bF hr 7;have x7:X6.cell? ⟨W.heap.size,7,none⟩=some (.int .i64 0):=bC hr 7
 have z8:X6.cell? ⟨W.heap.size+1,8,none⟩=some (.int .i64 cp2):=bC hv 8;have y8:=bF hr 8;have x8:X6.cell? ⟨W.heap.size,8,none⟩=some (.int .i64 0):=bC hr 8
 have z9:X6.cell? ⟨W.heap.size+1,9,none⟩=some (.string ⟨#[]⟩):=bC hv 9;have y9:=bF hr 9;have x9:X6.cell? ⟨W.heap.size,9,none⟩=some (.string ⟨#[]⟩):=bC hr 9
 have z10:X6.cell? ⟨W.heap.size+1,10,none⟩=some (.int .i64 0):=bC hv 10;have y10:=bF hr 10;have x10:X6.cell? ⟨W.heap.size,10,none⟩=some (.int .i64 0):=bC hr 10
 have z11:X6.cell? ⟨W.heap.size+1,11,none⟩=some (.int .i64 0):=bC hv 11;have y11:=bF hr 11;have x11:X6.cell? ⟨W.heap.size,11,none⟩=some (.int .i64 0):=bC hr 11
 have z12:X6.cell? ⟨W.heap.size+1,12,none⟩=some (.int .i64 (ps c a)):=bC hv 12;have y12:=bF hr 12;have x12:X6.cell? ⟨W.heap.size,12,none⟩=some (.int .i64 0):=bC hr 12
 have hfin:A0 (S.sta=o3.sta∧∀y,S.val=some y→y=(⟨1,0,nm0,z67,(cn2,cv2,cp2),z67,ps c a⟩:Dec)):=by
  have e0:=ho0.out
  have e1:=ho1.out
  have e2:=ho2.out
  have e3:=ho3.out
  refine ⟨?_⟩
  cases o0 with
  | bad p er =>
   have E0:=e0
   simp only [Sta.go,Out.sta] at E0 e1 e2 e3
   subst e1
   try simp only [Sta.go,Out.sta] at e2
   subst e2
   try simp only [Sta.go,Out.sta] at e3
   subst e3
   rw [hSp.out]
   simp only [Out.bind,E0]
   exact ⟨rfl,fun y hy=>by cases hy⟩
  | ok x0 a0 d0 =>
   have E0:=e0
   simp only [Sta.go,Out.sta] at E0
   cases o1 with
   | bad p er =>
    have E1:=e1
    simp only [Sta.go,Out.sta] at E1 e2 e3
    subst e2
    try simp only [Sta.go,Out.sta] at e3
    subst e3
    rw [hSp.out]
    simp only [Out.bind,E0,E1]
    exact ⟨rfl,fun y hy=>by cases hy⟩
   | ok x1 a1 d1 =>
    have E1:=e1
    simp only [Sta.go,Out.sta] at E1
    cases o2 with
    | bad p er =>
     have E2:=e2
     simp only [Sta.go,Out.sta] at E2 e3
     subst e3
     rw [hSp.out]
     simp only [Out.bind,E0,E1,E2]
     exact ⟨rfl,fun y hy=>by cases hy⟩
    | ok x2 a2 d2 =>
     have E2:=e2
     simp only [Sta.go,Out.sta] at E2
     cases o3 with
     | bad p er =>
      have E3:=e3
      simp only [Sta.go,Out.sta] at E3
      rw [hSp.out]
      simp only [Out.bind,E0,E1,E2,E3]
      exact ⟨rfl,fun y hy=>by cases hy⟩
     | ok x3 a3 d3 =>
      have E3:=e3
      simp only [Sta.go,Out.sta] at E3
      rw [hSp.out]
      simp only [Out.bind,E0,E1,E2,E3]
      obtain rfl:=(h0.out _ rfl:x0=nm0)
      obtain rfl:=(h2.out _ rfl:x2=(cn2,cv2,cp2))
      exact ⟨rfl,fun y hy=>by cases hy;rfl⟩
 clear hal wa hSp hv ho0 ho1 ho2 ho3
 go_wp2
 exact bodyPost_ret (res_c rfl _ _ W.heap.size 69 _ (0,0) _ rfl (bx_set13 (.int .i64 1) (.int .i64 0) (.string nm0) (.string ⟨#[]⟩) (.int .i64 0) (.int .i64 0) (.string cn2) (.int .i64 cv2) (.int .i64 cp2) (.string ⟨#[]⟩) (.int .i64 0) (.int .i64 0) (.int .i64 (ps c a)) hr) Tryz.underlying69 rfl (by kernel_rfl)) rfl ((fr_set13 F (Nat.le_refl _) (.int .i64 1) (.int .i64 0) (.string nm0) (.string ⟨#[]⟩) (.int .i64 0) (.int .i64 0) (.string cn2) (.int .i64 cv2) (.int .i64 cp2) (.string ⟨#[]⟩) (.int .i64 0) (.int .i64 0) (.int .i64 (ps c a))).end hG hfin.out.1 ⟨_,rfl,hfin.out.2⟩)
set_option maxHeartbeats 2000000 in
theorem rdecl25 {c:Ctx} (hG:Good c) {W:World} {a:Nat} {d:Int} (h:RSt c W (.here a d)) (hk:kd c a=25) (S:Out Dec) (hSp:A0 (S=(coS c (a+1) d).bind fun lo a3 d3=>(tkS c 41 a3 d3).bind fun _ a4 d4=>.ok ⟨2,0,⟨#[]⟩,z67,lo,z67,ps c a⟩ a4 d4)) :
  Calls Tryz.prog 32 #[c.me] W (RPost c W repDo S):=by
 have F0:=(Fr.start h).alloc (.cells Z13 69)
 have PS:=pC (F0.st hG).1
 have hal:=kL hk (by omega)
 have hal2:=hG.hl
 have wa:IntKind.i64.wrap ((a:Int)+1)=(a:Int)+1:=IntWalk.i64_in _ (by omega)
 have F1:=fun q=>(F0.drewN q).alloc (.cells (P13 (ps c a)) 69)
 have r1:∀q,Bx (((W.alloc (.cells Z13 69)).drewN q).alloc (.cells (P13 (ps c a)) 69)) W.heap.size 69 Z13:=fun q=>xB (X:=(W.alloc (.cells Z13 69)).drewN q) (xN W 69 _) (bA _ _)
 have v1:∀q,Bx (((W.alloc (.cells Z13 69)).drewN q).alloc (.cells (P13 (ps c a)) 69)) (W.heap.size+1) 69 (P13 (ps c a)):=fun q=>by
  have:=xN ((W.alloc (.cells Z13 69)).drewN q) 69 (P13 (ps c a))
  rwa [show ((W.alloc (.cells Z13 69)).drewN q).heap.size=W.heap.size+1 by simp] at this
 replace r1:=A0.mk r1
 replace v1:=A0.mk v1
 replace F1:=A0.mk F1
 go_enter Tryz.func32,Tryz.ntmps32
 go_upto_region 2 with (first|(go_at_call 33;(with_reducible refine PS.mono ?_);rintro e w2 ⟨rfl,q,rfl⟩))
 have F:=F1.out q
 have hr:=r1.out q
 have hv:=v1.out q
 generalize ((W.alloc (.cells Z13 69)).drewN q).alloc (.cells (P13 (ps c a)) 69)=X at F hr hv ⊢
 clear F0 F1 r1 v1 PS
 have hWX:=F.sz
 have hb0:Below X.heap.size X X:=Below.refl _ _
 have T0:=fun Y (hb:Below X.heap.size X Y)=>rI hG ((F.below hb).st hG).1 8 (by omega) ⟨#[99,111,110,115,116]⟩ rfl
 simp only [show decide (kd c a=8)=false from decide_eq_false (by omega)] at T0
 have T1:=fun Y (hb:Below X.heap.size X Y)=>rI hG ((F.below hb).st hG).1 25 (by omega) ⟨#[116,105,99,107,115]⟩ rfl
 simp only [hk,decide_true] at T1
 replace hk:=A0.mk hk
 go_upto_region 10 with (first|(go_at_call 31;(with_reducible refine (T0 _ hb0).mono ?_);rintro e w3 ⟨rfl,hb1⟩;replace hb1:=hb0.trans (hb1.mono hb0.size))|(go_at_call 31;(with_reducible refine (T1 _ hb1).mono ?_);rintro e w4 ⟨rfl,hb2⟩;replace hb2:=hb1.trans (hb2.mono hb1.size);have k2:=((F.below hb2).st hG).1.c2;have j2:=((F.below hb2).st hG).1.fz 2))
 replace F:=(F.below hb2).step hal
 replace hv:=Q5 (xB hv hb2) (p:=⟨c.g,2,none⟩) (by have:=F.gl;dsimp only;omega) (.int .i64 ((a:Int)+1))
 replace hr:=Q5 (xB hr hb2) (p:=⟨c.g,2,none⟩) (by have:=F.gl;dsimp only;omega) (.int .i64 ((a:Int)+1))
 clear k2 j2 T0 T1 hb2 hb1 hb0
 clear hWX
 generalize w4.setCell ⟨c.g,2,none⟩ (.int .i64 ((a:Int)+1))=X1 at F hv hr ⊢
 have z0:X1.cell? ⟨W.heap.size+1,0,none⟩=some (.int .i64 0):=bC hv 0
 have y0:=bF hv 0
 go_upto_region 11 with fail
 replace F:=F.set (p:=⟨W.heap.size+1,0,none⟩) (Nat.le_succ _) (.int .i64 2)
 replace hv:Bx _ (W.heap.size+1) 69 #[.int .i64 2,.int .i64 0,.string ⟨#[]⟩,.string ⟨#[]⟩,.int .i64 0,.int .i64 0,.string ⟨#[]⟩,.int .i64 0,.int .i64 0,.string ⟨#[]⟩,.int .i64 0,.int .i64 0,.int .i64 (ps c a)]:=bP hv 0 (.int .i64 2) rfl
 replace hr:=Q5 hr (p:=⟨W.heap.size+1,0,none⟩) (by dsimp only;omega) (.int .i64 2)
 clear z0 y0
 generalize X1.setCell ⟨W.heap.size+1,0,none⟩ (.int .i64 2)=X2 at F hv hr ⊢
 obtain ⟨o0,ho0⟩:∃o,A0 (((Sta.here (a+1) d)).go (coS c)=o):=⟨_,⟨rfl⟩⟩
 have CN:=rconst_c hG (F.st hG) ho0
 go_upto_region 32 with (first|(go_at_call 65;(with_reducible refine CN.mono ?_);rintro e u3 ⟨hg,⟨cn0,cv0,cp0,rfl,h0⟩,hR⟩;have hv2:=xC hv hg (by have:=F.gl;omega);have z0:u3.cell? ⟨W.heap.size+1,6,none⟩=some (.string ⟨#[]⟩):=bC hv2 6;have y0:=bF hv2 6;have z1:u3.cell? ⟨W.heap.size+1,7,none⟩=some (.int .i64 0):=bC hv2 7;have y1:=bF hv2 7;have z2:u3.cell? ⟨W.heap.size+1,8,none⟩=some (.int .i64 0):=bC hv2 8;have y2:=bF hv2 8))
 replace F:=F.call hg hR
 replace hr:=xC hr hg (by have:=F.gl;omega)
 replace F:=F.set (p:=⟨W.heap.size+1,6,none⟩) (Nat.le_succ _) (.string cn0)
 replace hv2:Bx _ (W.heap.size+1) 69 #[.int .i64 2,.int .i64 0,.string ⟨#[]⟩,.string ⟨#[]⟩,.int .i64 0,.int .i64 0,.string cn0,.int .i64 0,.int .i64 0,.string ⟨#[]⟩,.int .i64 0,.int .i64 0,.int .i64 (ps c a)]:=bP hv2 6 (.string cn0) rfl
 replace hr:=Q5 hr (p:=⟨W.heap.size+1,6,none⟩) (by dsimp only;omega) (.string cn0)
 replace F:=F.set (p:=⟨W.heap.size+1,7,none⟩) (Nat.le_succ _) (.int .i64 cv0)
 replace hv2:Bx _ (W.heap.size+1) 69 #[.int .i64 2,.int .i64 0,.string ⟨#[]⟩,.string ⟨#[]⟩,.int .i64 0,.int .i64 0,.string cn0,.int .i64 cv0,.int .i64 0,.string ⟨#[]⟩,.int .i64 0,.int .i64 0,.int .i64 (ps c a)]:=bP hv2 7 (.int .i64 cv0) rfl
 replace hr:=Q5 hr (p:=⟨W.heap.size+1,7,none⟩) (by dsimp only;omega) (.int .i64 cv0)
 replace F:=F.set (p:=⟨W.heap.size+1,8,none⟩) (Nat.le_succ _) (.int .i64 cp0)
 replace hv2:Bx _ (W.heap.size+1) 69 #[.int .i64 2,.int .i64 0,.string ⟨#[]⟩,.string ⟨#[]⟩,.int .i64 0,.int .i64 0,.string cn0,.int .i64 cv0,.int .i64 cp0,.string ⟨#[]⟩,.int .i64 0,.int .i64 0,.int .i64 (ps c a)]:=bP hv2 8 (.int .i64 cp0) rfl
 replace hr:=Q5 hr (p:=⟨W.heap.size+1,8,none⟩) (by dsimp only;omega) (.int .i64 cp0)
 clear CN hg hR hv z0 y0 z1 y1 z2 y2
 generalize (((u3.setCell ⟨W.heap.size+1,6,none⟩ (.string cn0)).setCell ⟨W.heap.size+1,7,none⟩ (.int .i64 cv0)).setCell ⟨W.heap.size+1,8,none⟩ (.int .i64 cp0))=X3 at F hv2 hr ⊢
 have hv:=hv2
 clear hv2
 obtain ⟨o1,ho1⟩:∃o,A0 ((o0.sta).go (tkS c 41)=o):=⟨_,⟨rfl⟩⟩
 have CN:=tC hG (F.st hG) 41 (by omega) ⟨#[59]⟩ rfl ho1
 go_upto_region 33 with (first|(go_at_call 36;(with_reducible refine CN.mono ?_);rintro e u4 ⟨hg,rfl,hR⟩))
 replace F:=F.call hg hR
 replace hv:=xC hv hg (by have:=F.gl;omega)
 replace hr:=xC hr hg (by have:=F.gl;omega)
 clear CN hg hR
 generalize u4=X4 at F hv hr ⊢
 have z0:X4.cell? ⟨W.heap.size+1,0,none⟩=some (.int .i64 2):=bC hv 0;have y0:=bF hr 0;have x0:X4.cell? ⟨W.heap.size,0,none⟩=some (.int .i64 0):=bC hr 0
 have z1:X4.cell? ⟨W.heap.size+1,1,none⟩=some (.int .i64 0):=bC hv 1;have y1:=bF hr 1;have x1:X4.cell? ⟨W.heap.size,1,none⟩=some (.int .i64 0):=bC hr 1
 have z2:X4.cell? ⟨W.heap.size+1,2,none⟩=some (.string ⟨#[]⟩):=bC hv 2;have y2:=bF hr 2;have x2:X4.cell? ⟨W.heap.size,2,none⟩=some (.string ⟨#[]⟩):=bC hr 2
 have z3:X4.cell? ⟨W.heap.size+1,3,none⟩=some (.string ⟨#[]⟩):=bC hv 3;have y3:=bF hr 3;have x3:X4.cell? ⟨W.heap.size,3,none⟩=some (.string ⟨#[]⟩):=bC hr 3
 have z4:X4.cell? ⟨W.heap.size+1,4,none⟩=some (.int .i64 0):=bC hv 4;have y4:=bF hr 4;have x4:X4.cell? ⟨W.heap.size,4,none⟩=some (.int .i64 0):=bC hr 4
 have z5:X4.cell? ⟨W.heap.size+1,5,none⟩=some (.int .i64 0):=bC hv 5;have y5:=bF hr 5;have x5:X4.cell? ⟨W.heap.size,5,none⟩=some (.int .i64 0):=bC hr 5
 have z6:X4.cell? ⟨W.heap.size+1,6,none⟩=some (.string cn0):=bC hv 6;have y6:=bF hr 6;have x6:X4.cell? ⟨W.heap.size,6,none⟩=some (.string ⟨#[]⟩):=bC hr 6
 have z7:X4.cell? ⟨W.heap.size+1,7,none⟩=some (.int .i64 cv0):=bC hv 7;have y7:=bF hr 7;have x7:X4.cell? ⟨W.heap.size,7,none⟩=some (.int .i64 0):=bC hr 7
 have z8:X4.cell? ⟨W.heap.size+1,8,none⟩=some (.int .i64 cp0):=bC hv 8;have y8:=bF hr 8;have x8:X4.cell? ⟨W.heap.size,8,none⟩=some (.int .i64 0):=bC hr 8
 have z9:X4.cell? ⟨W.heap.size+1,9,none⟩=some (.string ⟨#[]⟩):=bC hv 9;have y9:=bF hr 9;have x9:X4.cell? ⟨W.heap.size,9,none⟩=some (.string ⟨#[]⟩):=bC hr 9
 have z10:X4.cell? ⟨W.heap.size+1,10,none⟩=some (.int .i64 0):=bC hv 10;have y10:=bF hr 10;have x10:X4.cell? ⟨W.heap.size,10,none⟩=some (.int .i64 0):=bC hr 10
 have z11:X4.cell? ⟨W.heap.size+1,11,none⟩=some (.int .i64 0):=bC hv 11;have y11:=bF hr 11;have x11:X4.cell? ⟨W.heap.size,11,none⟩=some (.int .i64 0):=bC hr 11
 have z12:X4.cell? ⟨W.heap.size+1,12,none⟩=some (.int .i64 (ps c a)):=bC hv 12;have y12:=bF hr 12;have x12:X4.cell? ⟨W.heap.size,12,none⟩=some (.int .i64 0):=bC hr 12
 have hfin:A0 (S.sta=o1.sta∧∀y,S.val=some y→y=(⟨2,0,⟨#[]⟩,z67,(cn0,cv0,cp0),z67,ps c a⟩:Dec)):=by
  have e0:=ho0.out
  have e1:=ho1.out
  refine ⟨?_⟩
  cases o0 with
  | bad p er =>
   have E0:=e0
   simp only [Sta.go,Out.sta] at E0 e1
   subst e1
   rw [hSp.out]
   simp only [Out.bind,E0]
   exact ⟨rfl,fun y hy=>by cases hy⟩
  | ok x0 a0 d0 =>
   have E0:=e0
   simp only [Sta.go,Out.sta] at E0
   cases o1 with
   | bad p er =>
    have E1:=e1
    simp only [Sta.go,Out.sta] at E1
    rw [hSp.out]
    simp only [Out.bind,E0,E1]
    exact ⟨rfl,fun y hy=>by cases hy⟩
   | ok x1 a1 d1 =>
    have E1:=e1
    simp only [Sta.go,Out.sta] at E1
    rw [hSp.out]
    simp only [Out.bind,E0,E1]
    obtain rfl:=(h0.out _ rfl:x0=(cn0,cv0,cp0))
    exact ⟨rfl,fun y hy=>by cases hy;rfl⟩
 clear hal wa hSp hv ho0 ho1
 go_wp2
 exact bodyPost_ret (res_c rfl _ _ W.heap.size 69 _ (0,0) _ rfl (bx_set13 (.int .i64 2) (.int .i64 0) (.string ⟨#[]⟩) (.string ⟨#[]⟩) (.int .i64 0) (.int .i64 0) (.string cn0) (.int .i64 cv0) (.int .i64 cp0) (.string ⟨#[]⟩) (.int .i64 0) (.int .i64 0) (.int .i64 (ps c a)) hr) Tryz.underlying69 rfl (by kernel_rfl)) rfl ((fr_set13 F (Nat.le_refl _) (.int .i64 2) (.int .i64 0) (.string ⟨#[]⟩) (.string ⟨#[]⟩) (.int .i64 0) (.int .i64 0) (.string cn0) (.int .i64 cv0) (.int .i64 cp0) (.string ⟨#[]⟩) (.int .i64 0) (.int .i64 0) (.int .i64 (ps c a))).end hG hfin.out.1 ⟨_,rfl,hfin.out.2⟩)
theorem rdecl14 {c:Ctx} (hG:Good c) {W:World} {a:Nat} {d:Int} (h:RSt c W (.here a d)) (hk:kd c a=14) (S:Out Dec) (hSp:A0 (S=(typS c (a+1) d).bind fun ty a1 d1=>(nS c a1 d1).bind fun nm a2 d2=>(tkS c 12 a2 d2).bind fun _ a3 d3=>(coS c a3 d3).bind fun lo a4 d4=>(tkS c 38 a4 d4).bind fun _ a5 d5=>(coS c a5 d5).bind fun hi a6 d6=>(tkS c 41 a6 d6).bind fun _ a7 d7=>.ok ⟨3,ty,nm,z67,lo,hi,ps c a⟩ a7 d7)) :
  Calls Tryz.prog 32 #[c.me] W (RPost c W repDo S):=by
 have F0:=(Fr.start h).alloc (.cells Z13 69)
 have PS:=pC (F0.st hG).1
 have hal:=kL hk (by omega)
 have hal2:=hG.hl
 have wa:IntKind.i64.wrap ((a:Int)+1)=(a:Int)+1:=IntWalk.i64_in _ (by omega)
 have F1:=fun q=>(F0.drewN q).alloc (.cells (P13 (ps c a)) 69)
 have r1:∀q,Bx (((W.alloc (.cells Z13 69)).drewN q).alloc (.cells (P13 (ps c a)) 69)) W.heap.size 69 Z13:=fun q=>xB (X:=(W.alloc (.cells Z13 69)).drewN q) (xN W 69 _) (bA _ _)
 have v1:∀q,Bx (((W.alloc (.cells Z13 69)).drewN q).alloc (.cells (P13 (ps c a)) 69)) (W.heap.size+1) 69 (P13 (ps c a)):=fun q=>by
  have:=xN ((W.alloc (.cells Z13 69)).drewN q) 69 (P13 (ps c a))
  rwa [show ((W.alloc (.cells Z13 69)).drewN q).heap.size=W.heap.size+1 by simp] at this
 replace r1:=A0.mk r1
 replace v1:=A0.mk v1
 replace F1:=A0.mk F1
 go_enter Tryz.func32,Tryz.ntmps32
 go_upto_region 2 with (first|(go_at_call 33;(with_reducible refine PS.mono ?_);rintro e w2 ⟨rfl,q,rfl⟩))
 have F:=F1.out q
 have hr:=r1.out q
 have hv:=v1.out q
 generalize ((W.alloc (.cells Z13 69)).drewN q).alloc (.cells (P13 (ps c a)) 69)=X at F hr hv ⊢
 clear F0 F1 r1 v1 PS
 have hWX:=F.sz
 have hb0:Below X.heap.size X X:=Below.refl _ _
 have T0:=fun Y (hb:Below X.heap.size X Y)=>rI hG ((F.below hb).st hG).1 8 (by omega) ⟨#[99,111,110,115,116]⟩ rfl
 simp only [show decide (kd c a=8)=false from decide_eq_false (by omega)] at T0
 have T1:=fun Y (hb:Below X.heap.size X Y)=>rI hG ((F.below hb).st hG).1 25 (by omega) ⟨#[116,105,99,107,115]⟩ rfl
 simp only [show decide (kd c a=25)=false from decide_eq_false (by omega)] at T1
 have T2:=fun Y (hb:Below X.heap.size X Y)=>rI hG ((F.below hb).st hG).1 14 (by omega) ⟨#[105,110,112,117,116]⟩ rfl
 simp only [hk,decide_true] at T2
 replace hk:=A0.mk hk
 go_upto_region 14 with (first|(go_at_call 31;(with_reducible refine (T0 _ hb0).mono ?_);rintro e w3 ⟨rfl,hb1⟩;replace hb1:=hb0.trans (hb1.mono hb0.size))|(go_at_call 31;(with_reducible refine (T1 _ hb1).mono ?_);rintro e w4 ⟨rfl,hb2⟩;replace hb2:=hb1.trans (hb2.mono hb1.size))|(go_at_call 31;(with_reducible refine (T2 _ hb2).mono ?_);rintro e w5 ⟨rfl,hb3⟩;replace hb3:=hb2.trans (hb3.mono hb2.size);have k2:=((F.below hb3).st hG).1.c2;have j2:=((F.below hb3).st hG).1.fz 2))
 replace F:=(F.below hb3).step hal
 replace hv:=Q5 (xB hv hb3) (p:=⟨c.g,2,none⟩) (by have:=F.gl;dsimp only;omega) (.int .i64 ((a:Int)+1))
 replace hr:=Q5 (xB hr hb3) (p:=⟨c.g,2,none⟩) (by have:=F.gl;dsimp only;omega) (.int .i64 ((a:Int)+1))
 clear k2 j2 T0 T1 T2 hb3 hb2 hb1 hb0
 clear hWX
 generalize w5.setCell ⟨c.g,2,none⟩ (.int .i64 ((a:Int)+1))=X1 at F hv hr ⊢
 have z0:X1.cell? ⟨W.heap.size+1,0,none⟩=some (.int .i64 0):=bC hv 0
 have y0:=bF hv 0
 go_upto_region 15 with fail
 replace F:=F.set (p:=⟨W.heap.size+1,0,none⟩) (Nat.le_succ _) (.int .i64 3)
 replace hv:Bx _ (W.heap.size+1) 69 #[.int .i64 3,.int .i64 0,.string ⟨#[]⟩,.string ⟨#[]⟩,.int .i64 0,.int .i64 0,.string ⟨#[]⟩,.int .i64 0,.int .i64 0,.string ⟨#[]⟩,.int .i64 0,.int .i64 0,.int .i64 (ps c a)]:=bP hv 0 (.int .i64 3) rfl
 replace hr:=Q5 hr (p:=⟨W.heap.size+1,0,none⟩) (by dsimp only;omega) (.int .i64 3)
 clear z0 y0
 generalize X1.setCell ⟨W.heap.size+1,0,none⟩ (.int .i64 3)=X2 at F hv hr ⊢
 obtain ⟨o0,ho0⟩:∃o,A0 (((Sta.here (a+1) d)).go (typS c)=o):=⟨_,⟨rfl⟩⟩
 have CN:=rkind_c hG (F.st hG) ho0
 go_upto_region 16 with (first|(go_at_call 66;(with_reducible refine CN.mono ?_);rintro e u3 ⟨hg,⟨k0,rfl,h0⟩,hR⟩;have hv2:=xC hv hg (by have:=F.gl;omega);have z0:u3.cell? ⟨W.heap.size+1,1,none⟩=some (.int .i64 0):=bC hv2 1;have y0:=bF hv2 1))
 replace F:=F.call hg hR
 replace hr:=xC hr hg (by have:=F.gl;omega)
 replace F:=F.set (p:=⟨W.heap.size+1,1,none⟩) (Nat.le_succ _) (.int .i64 k0)
 replace hv2:Bx _ (W.heap.size+1) 69 #[.int .i64 3,.int .i64 k0,.string ⟨#[]⟩,.string ⟨#[]⟩,.int .i64 0,.int .i64 0,.string ⟨#[]⟩,.int .i64 0,.int .i64 0,.string ⟨#[]⟩,.int .i64 0,.int .i64 0,.int .i64 (ps c a)]:=bP hv2 1 (.int .i64 k0) rfl
 replace hr:=Q5 hr (p:=⟨W.heap.size+1,1,none⟩) (by dsimp only;omega) (.int .i64 k0)
 clear CN hg hR hv z0 y0
 generalize (u3.setCell ⟨W.heap.size+1,1,none⟩ (.int .i64 k0))=X3 at F hv2 hr ⊢
 have hv:=hv2
 clear hv2
 obtain ⟨o1,ho1⟩:∃o,A0 ((o0.sta).go (nS c)=o):=⟨_,⟨rfl⟩⟩
 have CN:=rname_c hG (F.st hG) ho1
 go_upto_region 17 with (first|(go_at_call 34;(with_reducible refine CN.mono ?_);rintro e u4 ⟨hg,⟨nm1,rfl,h1⟩,hR⟩;have hv2:=xC hv hg (by have:=F.gl;omega);have z0:u4.cell? ⟨W.heap.size+1,2,none⟩=some (.string ⟨#[]⟩):=bC hv2 2;have y0:=bF hv2 2))
 replace F:=F.call hg hR
 replace hr:=xC hr hg (by have:=F.gl;omega)
 replace F:=F.set (p:=⟨W.heap.size+1,2,none⟩) (Nat.le_succ _) (.string nm1)
 replace hv2:Bx _ (W.heap.size+1) 69 #[.int .i64 3,.int .i64 k0,.string nm1,.string ⟨#[]⟩,.int .i64 0,.int .i64 0,.string ⟨#[]⟩,.int .i64 0,.int .i64 0,.string ⟨#[]⟩,.int .i64 0,.int .i64 0,.int .i64 (ps c a)]:=bP hv2 2 (.string nm1) rfl
 replace hr:=Q5 hr (p:=⟨W.heap.size+1,2,none⟩) (by dsimp only;omega) (.string nm1)
 clear CN hg hR hv z0 y0
 generalize (u4.setCell ⟨W.heap.size+1,2,none⟩ (.string nm1))=X4 at F hv2 hr ⊢
 have hv:=hv2
 clear hv2
 obtain ⟨o2,ho2⟩:∃o,A0 ((o1.sta).go (tkS c 12)=o):=⟨_,⟨rfl⟩⟩
 have CN:=tC hG (F.st hG) 12 (by omega) ⟨#[105,110]⟩ rfl ho2
 go_upto_region 18 with (first|(go_at_call 36;(with_reducible refine CN.mono ?_);rintro e u5 ⟨hg,rfl,hR⟩))
 replace F:=F.call hg hR
 replace hv:=xC hv hg (by have:=F.gl;omega)
 replace hr:=xC hr hg (by have:=F.gl;omega)
 clear CN hg hR
 generalize u5=X5 at F hv hr ⊢
 obtain ⟨o3,ho3⟩:∃o,A0 ((o2.sta).go (coS c)=o):=⟨_,⟨rfl⟩⟩
 have CN:=rconst_c hG (F.st hG) ho3
 go_upto_region 19 with (first|(go_at_call 65;(with_reducible refine CN.mono ?_);rintro e u6 ⟨hg,⟨cn3,cv3,cp3,rfl,h3⟩,hR⟩;have hv2:=xC hv hg (by have:=F.gl;omega);have z0:u6.cell? ⟨W.heap.size+1,6,none⟩=some (.string ⟨#[]⟩):=bC hv2 6;have y0:=bF hv2 6;have z1:u6.cell? ⟨W.heap.size+1,7,none⟩=some (.int .i64 0):=bC hv2 7;have y1:=bF hv2 7;have z2:u6.cell? ⟨W.heap.size+1,8,none⟩=some (.int .i64 0):=bC hv2 8;have y2:=bF hv2 8))
 replace F:=F.call hg hR
 replace hr:=xC hr hg (by have:=F.gl;omega)
 replace F:=F.set (p:=⟨W.heap.size+1,6,none⟩) (Nat.le_succ _) (.string cn3)
 replace hv2:Bx _ (W.heap.size+1) 69 #[.int .i64 3,.int .i64 k0,.string nm1,.string ⟨#[]⟩,.int .i64 0,.int .i64 0,.string cn3,.int .i64 0,.int .i64 0,.string ⟨#[]⟩,.int .i64 0,.int .i64 0,.int .i64 (ps c a)]:=bP hv2 6 (.string cn3) rfl
 replace hr:=Q5 hr (p:=⟨W.heap.size+1,6,none⟩) (by dsimp only;omega) (.string cn3)
 replace F:=F.set (p:=⟨W.heap.size+1,7,none⟩) (Nat.le_succ _) (.int .i64 cv3)
 replace hv2:Bx _ (W.heap.size+1) 69 #[.int .i64 3,.int .i64 k0,.string nm1,.string ⟨#[]⟩,.int .i64 0,.int .i64 0,.string cn3,.int .i64 cv3,.int .i64 0,.string ⟨#[]⟩,.int .i64 0,.int .i64 0,.int .i64 (ps c a)]:=bP hv2 7 (.int .i64 cv3) rfl
 replace hr:=Q5 hr (p:=⟨W.heap.size+1,7,none⟩) (by dsimp only;omega) (.int .i64 cv3)
 replace F:=F.set (p:=⟨W.heap.size+1,8,none⟩) (Nat.le_succ _) (.int .i64 cp3)
 replace hv2:Bx _ (W.heap.size+1) 69 #[.int .i64 3,.int .i64 k0,.string nm1,.string ⟨#[]⟩,.int .i64 0,.int .i64 0,.string cn3,.int .i64 cv3,.int .i64 cp3,.string ⟨#[]⟩,.int .i64 0,.int .i64 0,.int .i64 (ps c a)]:=bP hv2 8 (.int .i64 cp3) rfl
 replace hr:=Q5 hr (p:=⟨W.heap.size+1,8,none⟩) (by dsimp only;omega) (.int .i64 cp3)
 clear CN hg hR hv z0 y0 z1 y1 z2 y2
 generalize (((u6.setCell ⟨W.heap.size+1,6,none⟩ (.string cn3)).setCell ⟨W.heap.size+1,7,none⟩ (.int .i64 cv3)).setCell ⟨W.heap.size+1,8,none⟩ (.int .i64 cp3))=X6 at F hv2 hr ⊢
 have hv:=hv2
 clear hv2
 obtain ⟨o4,ho4⟩:∃o,A0 ((o3.sta).go (tkS c 38)=o):=⟨_,⟨rfl⟩⟩
 have CN:=tC hG (F.st hG) 38 (by omega) ⟨#[46,46]⟩ rfl ho4
 go_upto_region 20 with (first|(go_at_call 36;(with_reducible refine CN.mono ?_);rintro e u7 ⟨hg,rfl,hR⟩))
 replace F:=F.call hg hR
 replace hv:=xC hv hg (by have:=F.gl;omega)
 replace hr:=xC hr hg (by have:=F.gl;omega)
 clear CN hg hR
 generalize u7=X7 at F hv hr ⊢
 obtain ⟨o5,ho5⟩:∃o,A0 ((o4.sta).go (coS c)=o):=⟨_,⟨rfl⟩⟩
 have CN:=rconst_c hG (F.st hG) ho5
 go_upto_region 32 with (first|(go_at_call 65;(with_reducible refine CN.mono ?_);rintro e u8 ⟨hg,⟨cn5,cv5,cp5,rfl,h5⟩,hR⟩;have hv2:=xC hv hg (by have:=F.gl;omega);have z0:u8.cell? ⟨W.heap.size+1,9,none⟩=some (.string ⟨#[]⟩):=bC hv2 9;have y0:=bF hv2 9;have z1:u8.cell? ⟨W.heap.size+1,10,none⟩=some (.int .i64 0):=bC hv2 10;have y1:=bF hv2 10;have z2:u8.cell? ⟨W.heap.size+1,11,none⟩=some (.int .i64 0):=bC hv2 11;have y2:=bF hv2 11))
 replace F:=F.call hg hR
 replace hr:=xC hr hg (by have:=F.gl;omega)
 replace F:=F.set (p:=⟨W.heap.size+1,9,none⟩) (Nat.le_succ _) (.string cn5)
 replace hv2:Bx _ (W.heap.size+1) 69 #[.int .i64 3,.int .i64 k0,.string nm1,.string ⟨#[]⟩,.int .i64 0,.int .i64 0,.string cn3,.int .i64 cv3,.int .i64 cp3,.string cn5,.int .i64 0,.int .i64 0,.int .i64 (ps c a)]:=bP hv2 9 (.string cn5) rfl
 replace hr:=Q5 hr (p:=⟨W.heap.size+1,9,none⟩) (by dsimp only;omega) (.string cn5)
 replace F:=F.set (p:=⟨W.heap.size+1,10,none⟩) (Nat.le_succ _) (.int .i64 cv5)
 replace hv2:Bx _ (W.heap.size+1) 69 #[.int .i64 3,.int .i64 k0,.string nm1,.string ⟨#[]⟩,.int .i64 0,.int .i64 0,.string cn3,.int .i64 cv3,.int .i64 cp3,.string cn5,.int .i64 cv5,.int .i64 0,.int .i64 (ps c a)]:=bP hv2 10 (.int .i64 cv5) rfl
 replace hr:=Q5 hr (p:=⟨W.heap.size+1,10,none⟩) (by dsimp only;omega) (.int .i64 cv5)
 replace F:=F.set (p:=⟨W.heap.size+1,11,none⟩) (Nat.le_succ _) (.int .i64 cp5)
 replace hv2:Bx _ (W.heap.size+1) 69 #[.int .i64 3,.int .i64 k0,.string nm1,.string ⟨#[]⟩,.int .i64 0,.int .i64 0,.string cn3,.int .i64 cv3,.int .i64 cp3,.string cn5,.int .i64 cv5,.int .i64 cp5,.int .i64 (ps c a)]:=bP hv2 11 (.int .i64 cp5) rfl
 replace hr:=Q5 hr (p:=⟨W.heap.size+1,11,none⟩) (by dsimp only;omega) (.int .i64 cp5)
 clear CN hg hR hv z0 y0 z1 y1 z2 y2
 generalize (((u8.setCell ⟨W.heap.size+1,9,none⟩ (.string cn5)).setCell ⟨W.heap.size+1,10,none⟩ (.int .i64 cv5)).setCell ⟨W.heap.size+1,11,none⟩ (.int .i64 cp5))=X8 at F hv2 hr ⊢
 have hv:=hv2
 clear hv2
 obtain ⟨o6,ho6⟩:∃o,A0 ((o5.sta).go (tkS c 41)=o):=⟨_,⟨rfl⟩⟩
 have CN:=tC hG (F.st hG) 41 (by omega) ⟨#[59]⟩ rfl ho6
 go_upto_region 33 with (first|(go_at_call 36;(with_reducible refine CN.mono ?_);rintro e u9 ⟨hg,rfl,hR⟩))
 replace F:=F.call hg hR
 replace hv:=xC hv hg (by have:=F.gl;omega)
 replace hr:=xC hr hg (by have:=F.gl;omega)
 clear CN hg hR
 generalize u9=X9 at F hv hr ⊢
 have z0:X9.cell? ⟨W.heap.size+1,0,none⟩=some (.int .i64 3):=bC hv 0;have y0:=bF hr 0;have x0:X9.cell? ⟨W.heap.size,0,none⟩=some (.int .i64 0):=bC hr 0
 have z1:X9.cell? ⟨W.heap.size+1,1,none⟩=some (.int .i64 k0):=bC hv 1;have y1:=bF hr 1;have x1:X9.cell? ⟨W.heap.size,1,none⟩=some (.int .i64 0):=bC hr 1
 have z2:X9.cell? ⟨W.heap.size+1,2,none⟩=some (.string nm1):=bC hv 2;have y2:=bF hr 2;have x2:X9.cell? ⟨W.heap.size,2,none⟩=some (.string ⟨#[]⟩):=bC hr 2
 have z3:X9.cell? ⟨W.heap.size+1,3,none⟩=some (.string ⟨#[]⟩):=bC hv 3;have y3:=bF hr 3;have x3:X9.cell? ⟨W.heap.size,3,none⟩=some (.string ⟨#[]⟩):=bC hr 3
 have z4:X9.cell? ⟨W.heap.size+1,4,none⟩=some (.int .i64 0):=bC hv 4;have y4:=bF hr 4;have x4:X9.cell? ⟨W.heap.size,4,none⟩=some (.int .i64 0):=bC hr 4
 have z5:X9.cell? ⟨W.heap.size+1,5,none⟩=some (.int .i64 0):=bC hv 5;have y5:=bF hr 5;have x5:X9.cell? ⟨W.heap.size,5,none⟩=some (.int .i64 0):=bC hr 5
 have z6:X9.cell? ⟨W.heap.size+1,6,none⟩=some (.string cn3):=bC hv 6;have y6:=bF hr 6;have x6:X9.cell? ⟨W.heap.size,6,none⟩=some (.string ⟨#[]⟩):=bC hr 6
 have z7:X9.cell? ⟨W.heap.size+1,7,none⟩=some (.int .i64 cv3):=bC hv 7;have y7:=bF hr 7;have x7:X9.cell? ⟨W.heap.size,7,none⟩=some (.int .i64 0):=bC hr 7
 have z8:X9.cell? ⟨W.heap.size+1,8,none⟩=some (.int .i64 cp3):=bC hv 8;have y8:=bF hr 8;have x8:X9.cell? ⟨W.heap.size,8,none⟩=some (.int .i64 0):=bC hr 8
 have z9:X9.cell? ⟨W.heap.size+1,9,none⟩=some (.string cn5):=bC hv 9;have y9:=bF hr 9;have x9:X9.cell? ⟨W.heap.size,9,none⟩=some (.string ⟨#[]⟩):=bC hr 9
 have z10:X9.cell? ⟨W.heap.size+1,10,none⟩=some (.int .i64 cv5):=bC hv 10;have y10:=bF hr 10;have x10:X9.cell? ⟨W.heap.size,10,none⟩=some (.int .i64 0):=bC hr 10
 have z11:X9.cell? ⟨W.heap.size+1,11,none⟩=some (.int .i64 cp5):=bC hv 11;have y11:=bF hr 11;have x11:X9.cell? ⟨W.heap.size,11,none⟩=some (.int .i64 0):=bC hr 11
 have z12:X9.cell? ⟨W.heap.size+1,12,none⟩=some (.int .i64 (ps c a)):=bC hv 12;have y12:=bF hr 12;have x12:X9.cell? ⟨W.heap.size,12,none⟩=some (.int .i64 0):=bC hr 12
 have hfin:A0 (S.sta=o6.sta∧∀y,S.val=some y→y=(⟨3,k0,nm1,z67,(cn3,cv3,cp3),(cn5,cv5,cp5),ps c a⟩:Dec)):=by
  have e0:=ho0.out
  have e1:=ho1.out
  have e2:=ho2.out
  have e3:=ho3.out
  have e4:=ho4.out
  have e5:=ho5.out
  have e6:=ho6.out
  refine ⟨?_⟩
  cases o0 with
  | bad p er =>
   have E0:=e0
   simp only [Sta.go,Out.sta] at E0 e1 e2 e3 e4 e5 e6
   subst e1
   try simp only [Sta.go,Out.sta] at e2
   subst e2
   try simp only [Sta.go,Out.sta] at e3
   subst e3
   try simp only [Sta.go,Out.sta] at e4
   subst e4
   try simp only [Sta.go,Out.sta] at e5
   subst e5
   try simp only [Sta.go,Out.sta] at e6
   subst e6
   rw [hSp.out]
   simp only [Out.bind,E0]
   exact ⟨rfl,fun y hy=>by cases hy⟩
  | ok x0 a0 d0 =>
   have E0:=e0
   simp only [Sta.go,Out.sta] at E0
   cases o1 with
   | bad p er =>
    have E1:=e1
    simp only [Sta.go,Out.sta] at E1 e2 e3 e4 e5 e6
    subst e2
    try simp only [Sta.go,Out.sta] at e3
    subst e3
    try simp only [Sta.go,Out.sta] at e4
    subst e4
    try simp only [Sta.go,Out.sta] at e5
    subst e5
    try simp only [Sta.go,Out.sta] at e6
    subst e6
    rw [hSp.out]
    simp only [Out.bind,E0,E1]
    exact ⟨rfl,fun y hy=>by cases hy⟩
   | ok x1 a1 d1 =>
    have E1:=e1
    simp only [Sta.go,Out.sta] at E1
    cases o2 with
    | bad p er =>
     have E2:=e2
     simp only [Sta.go,Out.sta] at E2 e3 e4 e5 e6
     subst e3
     try simp only [Sta.go,Out.sta] at e4
     subst e4
     try simp only [Sta.go,Out.sta] at e5
     subst e5
     try simp only [Sta.go,Out.sta] at e6
     subst e6
     rw [hSp.out]
     simp only [Out.bind,E0,E1,E2]
     exact ⟨rfl,fun y hy=>by cases hy⟩
    | ok x2 a2 d2 =>
     have E2:=e2
     simp only [Sta.go,Out.sta] at E2
     cases o3 with
     | bad p er =>
      have E3:=e3
      simp only [Sta.go,Out.sta] at E3 e4 e5 e6
      subst e4
      try simp only [Sta.go,Out.sta] at e5
      subst e5
      try simp only [Sta.go,Out.sta] at e6
      subst e6
      rw [hSp.out]
      simp only [Out.bind,E0,E1,E2,E3]
      exact ⟨rfl,fun y hy=>by cases hy⟩
     | ok x3 a3 d3 =>
      have E3:=e3
      simp only [Sta.go,Out.sta] at E3
      cases o4 with
      | bad p er =>
       have E4:=e4
       simp only [Sta.go,Out.sta] at E4 e5 e6
       subst e5
       try simp only [Sta.go,Out.sta] at e6
       subst e6
       rw [hSp.out]
       simp only [Out.bind,E0,E1,E2,E3,E4]
       exact ⟨rfl,fun y hy=>by cases hy⟩
      | ok x4 a4 d4 =>
       have E4:=e4
       simp only [Sta.go,Out.sta] at E4
       cases o5 with
       | bad p er =>
        have E5:=e5
        simp only [Sta.go,Out.sta] at E5 e6
        subst e6
        rw [hSp.out]
        simp only [Out.bind,E0,E1,E2,E3,E4,E5]
        exact ⟨rfl,fun y hy=>by cases hy⟩
       | ok x5 a5 d5 =>
        have E5:=e5
        simp only [Sta.go,Out.sta] at E5
        cases o6 with
        | bad p er =>
         have E6:=e6
         simp only [Sta.go,Out.sta] at E6
         rw [hSp.out]
         simp only [Out.bind,E0,E1,E2,E3,E4,E5,E6]
         exact ⟨rfl,fun y hy=>by cases hy⟩
        | ok x6 a6 d6 =>
         have E6:=e6
         simp only [Sta.go,Out.sta] at E6
         rw [hSp.out]
         simp only [Out.bind,E0,E1,E2,E3,E4,E5,E6]
         obtain rfl:=(h0.out _ rfl:x0=k0)
         obtain rfl:=(h1.out _ rfl:x1=nm1)
         obtain rfl:=(h3.out _ rfl:x3=(cn3,cv3,cp3))
         obtain rfl:=(h5.out _ rfl:x5=(cn5,cv5,cp5))
         exact ⟨rfl,fun y hy=>by cases hy;rfl⟩
 clear hal wa hSp hv ho0 ho1 ho2 ho3 ho4 ho5 ho6
 go_wp2
 exact bodyPost_ret (res_c rfl _ _ W.heap.size 69 _ (0,0) _ rfl (bx_set13 (.int .i64 3) (.int .i64 k0) (.string nm1) (.string ⟨#[]⟩) (.int .i64 0) (.int .i64 0) (.string cn3) (.int .i64 cv3) (.int .i64 cp3) (.string cn5) (.int .i64 cv5) (.int .i64 cp5) (.int .i64 (ps c a)) hr) Tryz.underlying69 rfl (by kernel_rfl)) rfl ((fr_set13 F (Nat.le_refl _) (.int .i64 3) (.int .i64 k0) (.string nm1) (.string ⟨#[]⟩) (.int .i64 0) (.int .i64 0) (.string cn3) (.int .i64 cv3) (.int .i64 cp3) (.string cn5) (.int .i64 cv5) (.int .i64 cp5) (.int .i64 (ps c a))).end hG hfin.out.1 ⟨_,rfl,hfin.out.2⟩)
theorem rdecl26t {c:Ctx} (hG:Good c) {W:World} {a:Nat} {d:Int} (h:RSt c W (.here a d)) (hk:kd c a=26) (S:Out Dec) (hSp:A0 (S=(typS c (a+1) d).bind fun ty a1 d1=>(nS c a1 d1).bind fun nm a2 d2=>(tkS c 48 a2 d2).bind fun _ a3 d3=>(coS c a3 d3).bind fun sz a4 d4=>(tkS c 49 a4 d4).bind fun _ a5 d5=>(tkS c 44 a5 d5).bind fun _ a6 d6=>(coS c a6 d6).bind fun lo a7 d7=>(tkS c 41 a7 d7).bind fun _ a8 d8=>.ok ⟨5,ty,nm,sz,lo,z67,ps c a⟩ a8 d8)) (hb:A0 (((typS c (a+1) d).sta.go (nS c)).sta.sees c 48=true)) :
  Calls Tryz.prog 32 #[c.me] W (RPost c W repDo S):=by
 have F0:=(Fr.start h).alloc (.cells Z13 69)
 have PS:=pC (F0.st hG).1
 have hal:=kL hk (by omega)
 have hal2:=hG.hl
 have wa:IntKind.i64.wrap ((a:Int)+1)=(a:Int)+1:=IntWalk.i64_in _ (by omega)
 have F1:=fun q=>(F0.drewN q).alloc (.cells (P13 (ps c a)) 69)
 have r1:∀q,Bx (((W.alloc (.cells Z13 69)).drewN q).alloc (.cells (P13 (ps c a)) 69)) W.heap.size 69 Z13:=fun q=>xB (X:=(W.alloc (.cells Z13 69)).drewN q) (xN W 69 _) (bA _ _)
 have v1:∀q,Bx (((W.alloc (.cells Z13 69)).drewN q).alloc (.cells (P13 (ps c a)) 69)) (W.heap.size+1) 69 (P13 (ps c a)):=fun q=>by
  have:=xN ((W.alloc (.cells Z13 69)).drewN q) 69 (P13 (ps c a))
  rwa [show ((W.alloc (.cells Z13 69)).drewN q).heap.size=W.heap.size+1 by simp] at this
 replace r1:=A0.mk r1
 replace v1:=A0.mk v1
 replace F1:=A0.mk F1
 go_enter Tryz.func32,Tryz.ntmps32
 go_upto_region 2 with (first|(go_at_call 33;(with_reducible refine PS.mono ?_);rintro e w2 ⟨rfl,q,rfl⟩))
 have F:=F1.out q
 have hr:=r1.out q
 have hv:=v1.out q
 generalize ((W.alloc (.cells Z13 69)).drewN q).alloc (.cells (P13 (ps c a)) 69)=X at F hr hv ⊢
 clear F0 F1 r1 v1 PS
 have hWX:=F.sz
 have hb0:Below X.heap.size X X:=Below.refl _ _
 have T0:=fun Y (hb:Below X.heap.size X Y)=>rI hG ((F.below hb).st hG).1 8 (by omega) ⟨#[99,111,110,115,116]⟩ rfl
 simp only [show decide (kd c a=8)=false from decide_eq_false (by omega)] at T0
 have T1:=fun Y (hb:Below X.heap.size X Y)=>rI hG ((F.below hb).st hG).1 25 (by omega) ⟨#[116,105,99,107,115]⟩ rfl
 simp only [show decide (kd c a=25)=false from decide_eq_false (by omega)] at T1
 have T2:=fun Y (hb:Below X.heap.size X Y)=>rI hG ((F.below hb).st hG).1 14 (by omega) ⟨#[105,110,112,117,116]⟩ rfl
 simp only [show decide (kd c a=14)=false from decide_eq_false (by omega)] at T2
 obtain ⟨o0,ho0⟩:∃o,A0 ((Sta.here a d).go (tkS c 26)=o):=⟨_,⟨rfl⟩⟩
 have ho0':o0=.ok () (a+1) d:=by rw [←ho0.out];show tkS c 26 a d=_;unfold tkS wS;rw [if_pos hk,if_neg (by omega),if_neg (by omega)];rfl
 rw [ho0'] at ho0
 clear ho0'
 have TV:=fun Y (hb:Below X.heap.size X Y)=>tC hG ((F.below hb).st hG) 26 (by omega) ⟨#[118,97,114]⟩ rfl ho0
 replace hk:=A0.mk hk
 go_upto_region 22 with (first|(go_at_call 31;(with_reducible refine (T0 _ hb0).mono ?_);rintro e w3 ⟨rfl,hb1⟩;replace hb1:=hb0.trans (hb1.mono hb0.size))|(go_at_call 31;(with_reducible refine (T1 _ hb1).mono ?_);rintro e w4 ⟨rfl,hb2⟩;replace hb2:=hb1.trans (hb2.mono hb1.size))|(go_at_call 31;(with_reducible refine (T2 _ hb2).mono ?_);rintro e w5 ⟨rfl,hb3⟩;replace hb3:=hb2.trans (hb3.mono hb2.size))|(go_at_call 36;(with_reducible refine (TV _ hb3).mono ?_);rintro e wv ⟨hg,rfl,hR⟩))
 replace F:=(F.below hb3).call hg hR
 replace hv:=xC (xB hv hb3) hg (by have:=F.gl;omega)
 replace hr:=xC (xB hr hb3) hg (by have:=F.gl;omega)
 clear TV hg hR T0 T1 T2 hb3 hb2 hb1 hb0
 clear hWX ho0
 generalize wv=X1 at F hv hr ⊢
 have z0:X1.cell? ⟨W.heap.size+1,0,none⟩=some (.int .i64 0):=bC hv 0
 have y0:=bF hv 0
 go_upto_region 23 with fail
 replace F:=F.set (p:=⟨W.heap.size+1,0,none⟩) (Nat.le_succ _) (.int .i64 4)
 replace hv:Bx _ (W.heap.size+1) 69 #[.int .i64 4,.int .i64 0,.string ⟨#[]⟩,.string ⟨#[]⟩,.int .i64 0,.int .i64 0,.string ⟨#[]⟩,.int .i64 0,.int .i64 0,.string ⟨#[]⟩,.int .i64 0,.int .i64 0,.int .i64 (ps c a)]:=bP hv 0 (.int .i64 4) rfl
 replace hr:=Q5 hr (p:=⟨W.heap.size+1,0,none⟩) (by dsimp only;omega) (.int .i64 4)
 clear z0 y0
 generalize X1.setCell ⟨W.heap.size+1,0,none⟩ (.int .i64 4)=X2 at F hv hr ⊢
 obtain ⟨o0,ho0⟩:∃o,A0 (((Sta.here (a+1) d)).go (typS c)=o):=⟨_,⟨rfl⟩⟩
 have CN:=rkind_c hG (F.st hG) ho0
 go_upto_region 24 with (first|(go_at_call 66;(with_reducible refine CN.mono ?_);rintro e u3 ⟨hg,⟨k0,rfl,h0⟩,hR⟩;have hv2:=xC hv hg (by have:=F.gl;omega);have z0:u3.cell? ⟨W.heap.size+1,1,none⟩=some (.int .i64 0):=bC hv2 1;have y0:=bF hv2 1))
 replace F:=F.call hg hR
 replace hr:=xC hr hg (by have:=F.gl;omega)
 replace F:=F.set (p:=⟨W.heap.size+1,1,none⟩) (Nat.le_succ _) (.int .i64 k0)
 replace hv2:Bx _ (W.heap.size+1) 69 #[.int .i64 4,.int .i64 k0,.string ⟨#[]⟩,.string ⟨#[]⟩,.int .i64 0,.int .i64 0,.string ⟨#[]⟩,.int .i64 0,.int .i64 0,.string ⟨#[]⟩,.int .i64 0,.int .i64 0,.int .i64 (ps c a)]:=bP hv2 1 (.int .i64 k0) rfl
 replace hr:=Q5 hr (p:=⟨W.heap.size+1,1,none⟩) (by dsimp only;omega) (.int .i64 k0)
 clear CN hg hR hv z0 y0
 generalize (u3.setCell ⟨W.heap.size+1,1,none⟩ (.int .i64 k0))=X3 at F hv2 hr ⊢
 have hv:=hv2
 clear hv2
 obtain ⟨o1,ho1⟩:∃o,A0 ((o0.sta).go (nS c)=o):=⟨_,⟨rfl⟩⟩
 have CN:=rname_c hG (F.st hG) ho1
 go_upto_region 25 with (first|(go_at_call 34;(with_reducible refine CN.mono ?_);rintro e u4 ⟨hg,⟨nm1,rfl,h1⟩,hR⟩;have hv2:=xC hv hg (by have:=F.gl;omega);have z0:u4.cell? ⟨W.heap.size+1,2,none⟩=some (.string ⟨#[]⟩):=bC hv2 2;have y0:=bF hv2 2))
 replace F:=F.call hg hR
 replace hr:=xC hr hg (by have:=F.gl;omega)
 replace F:=F.set (p:=⟨W.heap.size+1,2,none⟩) (Nat.le_succ _) (.string nm1)
 replace hv2:Bx _ (W.heap.size+1) 69 #[.int .i64 4,.int .i64 k0,.string nm1,.string ⟨#[]⟩,.int .i64 0,.int .i64 0,.string ⟨#[]⟩,.int .i64 0,.int .i64 0,.string ⟨#[]⟩,.int .i64 0,.int .i64 0,.int .i64 (ps c a)]:=bP hv2 2 (.string nm1) rfl
 replace hr:=Q5 hr (p:=⟨W.heap.size+1,2,none⟩) (by dsimp only;omega) (.string nm1)
 clear CN hg hR hv z0 y0
 generalize (u4.setCell ⟨W.heap.size+1,2,none⟩ (.string nm1))=X4 at F hv2 hr ⊢
 have hv:=hv2
 clear hv2
 have hb48:o1.sta.sees c 48=true:=by rw [←ho1.out,←ho0.out];exact hb.out
 have IS:=ris_call hG (F.st hG) 48 (by omega) ⟨#[91]⟩ rfl
 rw [hb48] at IS
 clear hb48 hb
 go_upto_region 26 with (first|(go_at_call 31;(with_reducible refine IS.mono ?_);rintro e us ⟨rfl,hbs⟩))
 replace F:=F.below hbs
 replace hv:=xB hv hbs
 replace hr:=xB hr hbs
 clear IS hbs
 generalize us=Xs at F hv hr ⊢
 have z0:Xs.cell? ⟨W.heap.size+1,0,none⟩=some (.int .i64 4):=bC hv 0
 have y0:=bF hv 0
 go_upto_region 27 with fail
 replace F:=F.set (p:=⟨W.heap.size+1,0,none⟩) (Nat.le_succ _) (.int .i64 5)
 replace hv:Bx _ (W.heap.size+1) 69 #[.int .i64 5,.int .i64 k0,.string nm1,.string ⟨#[]⟩,.int .i64 0,.int .i64 0,.string ⟨#[]⟩,.int .i64 0,.int .i64 0,.string ⟨#[]⟩,.int .i64 0,.int .i64 0,.int .i64 (ps c a)]:=bP hv 0 (.int .i64 5) rfl
 replace hr:=Q5 hr (p:=⟨W.heap.size+1,0,none⟩) (by dsimp only;omega) (.int .i64 5)
 clear z0 y0
 generalize Xs.setCell ⟨W.heap.size+1,0,none⟩ (.int .i64 5)=X5 at F hv hr ⊢
 obtain ⟨o2,ho2⟩:∃o,A0 ((o1.sta).go (tkS c 48)=o):=⟨_,⟨rfl⟩⟩
 have CN:=tC hG (F.st hG) 48 (by omega) ⟨#[91]⟩ rfl ho2
 go_upto_region 28 with (first|(go_at_call 36;(with_reducible refine CN.mono ?_);rintro e u6 ⟨hg,rfl,hR⟩))
 replace F:=F.call hg hR
 replace hv:=xC hv hg (by have:=F.gl;omega)
 replace hr:=xC hr hg (by have:=F.gl;omega)
 clear CN hg hR
 generalize u6=X6 at F hv hr ⊢
 obtain ⟨o3,ho3⟩:∃o,A0 ((o2.sta).go (coS c)=o):=⟨_,⟨rfl⟩⟩
 have CN:=rconst_c hG (F.st hG) ho3
 go_upto_region 29 with (first|(go_at_call 65;(with_reducible refine CN.mono ?_);rintro e u7 ⟨hg,⟨cn3,cv3,cp3,rfl,h3⟩,hR⟩;have hv2:=xC hv hg (by have:=F.gl;omega);have z0:u7.cell? ⟨W.heap.size+1,3,none⟩=some (.string ⟨#[]⟩):=bC hv2 3;have y0:=bF hv2 3;have z1:u7.cell? ⟨W.heap.size+1,4,none⟩=some (.int .i64 0):=bC hv2 4;have y1:=bF hv2 4;have z2:u7.cell? ⟨W.heap.size+1,5,none⟩=some (.int .i64 0):=bC hv2 5;have y2:=bF hv2 5))
 replace F:=F.call hg hR
 replace hr:=xC hr hg (by have:=F.gl;omega)
 replace F:=F.set (p:=⟨W.heap.size+1,3,none⟩) (Nat.le_succ _) (.string cn3)
 replace hv2:Bx _ (W.heap.size+1) 69 #[.int .i64 5,.int .i64 k0,.string nm1,.string cn3,.int .i64 0,.int .i64 0,.string ⟨#[]⟩,.int .i64 0,.int .i64 0,.string ⟨#[]⟩,.int .i64 0,.int .i64 0,.int .i64 (ps c a)]:=bP hv2 3 (.string cn3) rfl
 replace hr:=Q5 hr (p:=⟨W.heap.size+1,3,none⟩) (by dsimp only;omega) (.string cn3)
 replace F:=F.set (p:=⟨W.heap.size+1,4,none⟩) (Nat.le_succ _) (.int .i64 cv3)
 replace hv2:Bx _ (W.heap.size+1) 69 #[.int .i64 5,.int .i64 k0,.string nm1,.string cn3,.int .i64 cv3,.int .i64 0,.string ⟨#[]⟩,.int .i64 0,.int .i64 0,.string ⟨#[]⟩,.int .i64 0,.int .i64 0,.int .i64 (ps c a)]:=bP hv2 4 (.int .i64 cv3) rfl
 replace hr:=Q5 hr (p:=⟨W.heap.size+1,4,none⟩) (by dsimp only;omega) (.int .i64 cv3)
 replace F:=F.set (p:=⟨W.heap.size+1,5,none⟩) (Nat.le_succ _) (.int .i64 cp3)
 replace hv2:Bx _ (W.heap.size+1) 69 #[.int .i64 5,.int .i64 k0,.string nm1,.string cn3,.int .i64 cv3,.int .i64 cp3,.string ⟨#[]⟩,.int .i64 0,.int .i64 0,.string ⟨#[]⟩,.int .i64 0,.int .i64 0,.int .i64 (ps c a)]:=bP hv2 5 (.int .i64 cp3) rfl
 replace hr:=Q5 hr (p:=⟨W.heap.size+1,5,none⟩) (by dsimp only;omega) (.int .i64 cp3)
 clear CN hg hR hv z0 y0 z1 y1 z2 y2
 generalize (((u7.setCell ⟨W.heap.size+1,3,none⟩ (.string cn3)).setCell ⟨W.heap.size+1,4,none⟩ (.int .i64 cv3)).setCell ⟨W.heap.size+1,5,none⟩ (.int .i64 cp3))=X7 at F hv2 hr ⊢
 have hv:=hv2
 clear hv2
 obtain ⟨o4,ho4⟩:∃o,A0 ((o3.sta).go (tkS c 49)=o):=⟨_,⟨rfl⟩⟩
 have CN:=tC hG (F.st hG) 49 (by omega) ⟨#[93]⟩ rfl ho4
 go_upto_region 30 with (first|(go_at_call 36;(with_reducible refine CN.mono ?_);rintro e u8 ⟨hg,rfl,hR⟩))
 replace F:=F.call hg hR
 replace hv:=xC hv hg (by have:=F.gl;omega)
 replace hr:=xC hr hg (by have:=F.gl;omega)
 clear CN hg hR
 generalize u8=X8 at F hv hr ⊢
 obtain ⟨o5,ho5⟩:∃o,A0 ((o4.sta).go (tkS c 44)=o):=⟨_,⟨rfl⟩⟩
 have CN:=tC hG (F.st hG) 44 (by omega) ⟨#[61]⟩ rfl ho5
 go_upto_region 31 with (first|(go_at_call 36;(with_reducible refine CN.mono ?_);rintro e u9 ⟨hg,rfl,hR⟩))
 replace F:=F.call hg hR
 replace hv:=xC hv hg (by have:=F.gl;omega)
 replace hr:=xC hr hg (by have:=F.gl;omega)
 clear CN hg hR
 generalize u9=X9 at F hv hr ⊢
 obtain ⟨o6,ho6⟩:∃o,A0 ((o5.sta).go (coS c)=o):=⟨_,⟨rfl⟩⟩
 have CN:=rconst_c hG (F.st hG) ho6
 go_upto_region 32 with (first|(go_at_call 65;(with_reducible refine CN.mono ?_);rintro e u10 ⟨hg,⟨cn6,cv6,cp6,rfl,h6⟩,hR⟩;have hv2:=xC hv hg (by have:=F.gl;omega);have z0:u10.cell? ⟨W.heap.size+1,6,none⟩=some (.string ⟨#[]⟩):=bC hv2 6;have y0:=bF hv2 6;have z1:u10.cell? ⟨W.heap.size+1,7,none⟩=some (.int .i64 0):=bC hv2 7;have y1:=bF hv2 7;have z2:u10.cell? ⟨W.heap.size+1,8,none⟩=some (.int .i64 0):=bC hv2 8;have y2:=bF hv2 8))
 replace F:=F.call hg hR
 replace hr:=xC hr hg (by have:=F.gl;omega)
 replace F:=F.set (p:=⟨W.heap.size+1,6,none⟩) (Nat.le_succ _) (.string cn6)
 replace hv2:Bx _ (W.heap.size+1) 69 #[.int .i64 5,.int .i64 k0,.string nm1,.string cn3,.int .i64 cv3,.int .i64 cp3,.string cn6,.int .i64 0,.int .i64 0,.string ⟨#[]⟩,.int .i64 0,.int .i64 0,.int .i64 (ps c a)]:=bP hv2 6 (.string cn6) rfl
 replace hr:=Q5 hr (p:=⟨W.heap.size+1,6,none⟩) (by dsimp only;omega) (.string cn6)
 replace F:=F.set (p:=⟨W.heap.size+1,7,none⟩) (Nat.le_succ _) (.int .i64 cv6)
 replace hv2:Bx _ (W.heap.size+1) 69 #[.int .i64 5,.int .i64 k0,.string nm1,.string cn3,.int .i64 cv3,.int .i64 cp3,.string cn6,.int .i64 cv6,.int .i64 0,.string ⟨#[]⟩,.int .i64 0,.int .i64 0,.int .i64 (ps c a)]:=bP hv2 7 (.int .i64 cv6) rfl
 replace hr:=Q5 hr (p:=⟨W.heap.size+1,7,none⟩) (by dsimp only;omega) (.int .i64 cv6)
 replace F:=F.set (p:=⟨W.heap.size+1,8,none⟩) (Nat.le_succ _) (.int .i64 cp6)
 replace hv2:Bx _ (W.heap.size+1) 69 #[.int .i64 5,.int .i64 k0,.string nm1,.string cn3,.int .i64 cv3,.int .i64 cp3,.string cn6,.int .i64 cv6,.int .i64 cp6,.string ⟨#[]⟩,.int .i64 0,.int .i64 0,.int .i64 (ps c a)]:=bP hv2 8 (.int .i64 cp6) rfl
 replace hr:=Q5 hr (p:=⟨W.heap.size+1,8,none⟩) (by dsimp only;omega) (.int .i64 cp6)
 clear CN hg hR hv z0 y0 z1 y1 z2 y2
 generalize (((u10.setCell ⟨W.heap.size+1,6,none⟩ (.string cn6)).setCell ⟨W.heap.size+1,7,none⟩ (.int .i64 cv6)).setCell ⟨W.heap.size+1,8,none⟩ (.int .i64 cp6))=X10 at F hv2 hr ⊢
 have hv:=hv2
 clear hv2
 obtain ⟨o7,ho7⟩:∃o,A0 ((o6.sta).go (tkS c 41)=o):=⟨_,⟨rfl⟩⟩
 have CN:=tC hG (F.st hG) 41 (by omega) ⟨#[59]⟩ rfl ho7
 go_upto_region 33 with (first|(go_at_call 36;(with_reducible refine CN.mono ?_);rintro e u11 ⟨hg,rfl,hR⟩))
 replace F:=F.call hg hR
 replace hv:=xC hv hg (by have:=F.gl;omega)
 replace hr:=xC hr hg (by have:=F.gl;omega)
 clear CN hg hR
 generalize u11=X11 at F hv hr ⊢
 have z0:X11.cell? ⟨W.heap.size+1,0,none⟩=some (.int .i64 5):=bC hv 0;have y0:=bF hr 0;have x0:X11.cell? ⟨W.heap.size,0,none⟩=some (.int .i64 0):=bC hr 0
 have z1:X11.cell? ⟨W.heap.size+1,1,none⟩=some (.int .i64 k0):=bC hv 1;have y1:=bF hr 1;have x1:X11.cell? ⟨W.heap.size,1,none⟩=some (.int .i64 0):=bC hr 1
 have z2:X11.cell? ⟨W.heap.size+1,2,none⟩=some (.string nm1):=bC hv 2;have y2:=bF hr 2;have x2:X11.cell? ⟨W.heap.size,2,none⟩=some (.string ⟨#[]⟩):=bC hr 2
 have z3:X11.cell? ⟨W.heap.size+1,3,none⟩=some (.string cn3):=bC hv 3;have y3:=bF hr 3;have x3:X11.cell? ⟨W.heap.size,3,none⟩=some (.string ⟨#[]⟩):=bC hr 3
 have z4:X11.cell? ⟨W.heap.size+1,4,none⟩=some (.int .i64 cv3):=bC hv 4;have y4:=bF hr 4;have x4:X11.cell? ⟨W.heap.size,4,none⟩=some (.int .i64 0):=bC hr 4
 have z5:X11.cell? ⟨W.heap.size+1,5,none⟩=some (.int .i64 cp3):=bC hv 5;have y5:=bF hr 5;have x5:X11.cell? ⟨W.heap.size,5,none⟩=some (.int .i64 0):=bC hr 5
 have z6:X11.cell? ⟨W.heap.size+1,6,none⟩=some (.string cn6):=bC hv 6;have y6:=bF hr 6;have x6:X11.cell? ⟨W.heap.size,6,none⟩=some (.string ⟨#[]⟩):=bC hr 6
 have z7:X11.cell? ⟨W.heap.size+1,7,none⟩=some (.int .i64 cv6):=bC hv 7;have y7:=bF hr 7;have x7:X11.cell? ⟨W.heap.size,7,none⟩=some (.int .i64 0):=bC hr 7
 have z8:X11.cell? ⟨W.heap.size+1,8,none⟩=some (.int .i64 cp6):=bC hv 8;have y8:=bF hr 8;have x8:X11.cell? ⟨W.heap.size,8,none⟩=some (.int .i64 0):=bC hr 8
 have z9:X11.cell? ⟨W.heap.size+1,9,none⟩=some (.string ⟨#[]⟩):=bC hv 9;have y9:=bF hr 9;have x9:X11.cell? ⟨W.heap.size,9,none⟩=some (.string ⟨#[]⟩):=bC hr 9
 have z10:X11.cell? ⟨W.heap.size+1,10,none⟩=some (.int .i64 0):=bC hv 10;have y10:=bF hr 10;have x10:X11.cell? ⟨W.heap.size,10,none⟩=some (.int .i64 0):=bC hr 10
 have z11:X11.cell? ⟨W.heap.size+1,11,none⟩=some (.int .i64 0):=bC hv 11;have y11:=bF hr 11;have x11:X11.cell? ⟨W.heap.size,11,none⟩=some (.int .i64 0):=bC hr 11
 have z12:X11.cell? ⟨W.heap.size+1,12,none⟩=some (.int .i64 (ps c a)):=bC hv 12;have y12:=bF hr 12;have x12:X11.cell? ⟨W.heap.size,12,none⟩=some (.int .i64 0):=bC hr 12
 have hfin:A0 (S.sta=o7.sta∧∀y,S.val=some y→y=(⟨5,k0,nm1,(cn3,cv3,cp3),(cn6,cv6,cp6),z67,ps c a⟩:Dec)):=by
  have e0:=ho0.out
  have e1:=ho1.out
  have e2:=ho2.out
  have e3:=ho3.out
  have e4:=ho4.out
  have e5:=ho5.out
  have e6:=ho6.out
  have e7:=ho7.out
  refine ⟨?_⟩
  cases o0 with
  | bad p er =>
   have E0:=e0
   simp only [Sta.go,Out.sta] at E0 e1 e2 e3 e4 e5 e6 e7
   subst e1
   try simp only [Sta.go,Out.sta] at e2
   subst e2
   try simp only [Sta.go,Out.sta] at e3
   subst e3
   try simp only [Sta.go,Out.sta] at e4
   subst e4
   try simp only [Sta.go,Out.sta] at e5
   subst e5
   try simp only [Sta.go,Out.sta] at e6
   subst e6
   try simp only [Sta.go,Out.sta] at e7
   subst e7
   rw [hSp.out]
   simp only [Out.bind,E0]
   exact ⟨rfl,fun y hy=>by cases hy⟩
  | ok x0 a0 d0 =>
   have E0:=e0
   simp only [Sta.go,Out.sta] at E0
   cases o1 with
   | bad p er =>
    have E1:=e1
    simp only [Sta.go,Out.sta] at E1 e2 e3 e4 e5 e6 e7
    subst e2
    try simp only [Sta.go,Out.sta] at e3
    subst e3
    try simp only [Sta.go,Out.sta] at e4
    subst e4
    try simp only [Sta.go,Out.sta] at e5
    subst e5
    try simp only [Sta.go,Out.sta] at e6
    subst e6
    try simp only [Sta.go,Out.sta] at e7
    subst e7
    rw [hSp.out]
    simp only [Out.bind,E0,E1]
    exact ⟨rfl,fun y hy=>by cases hy⟩
   | ok x1 a1 d1 =>
    have E1:=e1
    simp only [Sta.go,Out.sta] at E1
    cases o2 with
    | bad p er =>
     have E2:=e2
     simp only [Sta.go,Out.sta] at E2 e3 e4 e5 e6 e7
     subst e3
     try simp only [Sta.go,Out.sta] at e4
     subst e4
     try simp only [Sta.go,Out.sta] at e5
     subst e5
     try simp only [Sta.go,Out.sta] at e6
     subst e6
     try simp only [Sta.go,Out.sta] at e7
     subst e7
     rw [hSp.out]
     simp only [Out.bind,E0,E1,E2]
     exact ⟨rfl,fun y hy=>by cases hy⟩
    | ok x2 a2 d2 =>
     have E2:=e2
     simp only [Sta.go,Out.sta] at E2
     cases o3 with
     | bad p er =>
      have E3:=e3
      simp only [Sta.go,Out.sta] at E3 e4 e5 e6 e7
      subst e4
      try simp only [Sta.go,Out.sta] at e5
      subst e5
      try simp only [Sta.go,Out.sta] at e6
      subst e6
      try simp only [Sta.go,Out.sta] at e7
      subst e7
      rw [hSp.out]
      simp only [Out.bind,E0,E1,E2,E3]
      exact ⟨rfl,fun y hy=>by cases hy⟩
     | ok x3 a3 d3 =>
      have E3:=e3
      simp only [Sta.go,Out.sta] at E3
      cases o4 with
      | bad p er =>
       have E4:=e4
       simp only [Sta.go,Out.sta] at E4 e5 e6 e7
       subst e5
       try simp only [Sta.go,Out.sta] at e6
       subst e6
       try simp only [Sta.go,Out.sta] at e7
       subst e7
       rw [hSp.out]
       simp only [Out.bind,E0,E1,E2,E3,E4]
       exact ⟨rfl,fun y hy=>by cases hy⟩
      | ok x4 a4 d4 =>
       have E4:=e4
       simp only [Sta.go,Out.sta] at E4
       cases o5 with
       | bad p er =>
        have E5:=e5
        simp only [Sta.go,Out.sta] at E5 e6 e7
        subst e6
        try simp only [Sta.go,Out.sta] at e7
        subst e7
        rw [hSp.out]
        simp only [Out.bind,E0,E1,E2,E3,E4,E5]
        exact ⟨rfl,fun y hy=>by cases hy⟩
       | ok x5 a5 d5 =>
        have E5:=e5
        simp only [Sta.go,Out.sta] at E5
        cases o6 with
        | bad p er =>
         have E6:=e6
         simp only [Sta.go,Out.sta] at E6 e7
         subst e7
         rw [hSp.out]
         simp only [Out.bind,E0,E1,E2,E3,E4,E5,E6]
         exact ⟨rfl,fun y hy=>by cases hy⟩
        | ok x6 a6 d6 =>
         have E6:=e6
         simp only [Sta.go,Out.sta] at E6
         cases o7 with
         | bad p er =>
          have E7:=e7
          simp only [Sta.go,Out.sta] at E7
          rw [hSp.out]
          simp only [Out.bind,E0,E1,E2,E3,E4,E5,E6,E7]
          exact ⟨rfl,fun y hy=>by cases hy⟩
         | ok x7 a7 d7 =>
          have E7:=e7
          simp only [Sta.go,Out.sta] at E7
          rw [hSp.out]
          simp only [Out.bind,E0,E1,E2,E3,E4,E5,E6,E7]
          obtain rfl:=(h0.out _ rfl:x0=k0)
          obtain rfl:=(h1.out _ rfl:x1=nm1)
          obtain rfl:=(h3.out _ rfl:x3=(cn3,cv3,cp3))
          obtain rfl:=(h6.out _ rfl:x6=(cn6,cv6,cp6))
          exact ⟨rfl,fun y hy=>by cases hy;rfl⟩
 clear hal wa hSp hv ho0 ho1 ho2 ho3 ho4 ho5 ho6 ho7
 go_wp2
 exact bodyPost_ret (res_c rfl _ _ W.heap.size 69 _ (0,0) _ rfl (bx_set13 (.int .i64 5) (.int .i64 k0) (.string nm1) (.string cn3) (.int .i64 cv3) (.int .i64 cp3) (.string cn6) (.int .i64 cv6) (.int .i64 cp6) (.string ⟨#[]⟩) (.int .i64 0) (.int .i64 0) (.int .i64 (ps c a)) hr) Tryz.underlying69 rfl (by kernel_rfl)) rfl ((fr_set13 F (Nat.le_refl _) (.int .i64 5) (.int .i64 k0) (.string nm1) (.string cn3) (.int .i64 cv3) (.int .i64 cp3) (.string cn6) (.int .i64 cv6) (.int .i64 cp6) (.string ⟨#[]⟩) (.int .i64 0) (.int .i64 0) (.int .i64 (ps c a))).end hG hfin.out.1 ⟨_,rfl,hfin.out.2⟩)
theorem rdecl26f {c:Ctx} (hG:Good c) {W:World} {a:Nat} {d:Int} (h:RSt c W (.here a d)) (hk:kd c a=26) (S:Out Dec) (hSp:A0 (S=(typS c (a+1) d).bind fun ty a1 d1=>(nS c a1 d1).bind fun nm a2 d2=>(tkS c 44 a2 d2).bind fun _ a6 d6=>(coS c a6 d6).bind fun lo a7 d7=>(tkS c 41 a7 d7).bind fun _ a8 d8=>.ok ⟨4,ty,nm,z67,lo,z67,ps c a⟩ a8 d8)) (hb:A0 (((typS c (a+1) d).sta.go (nS c)).sta.sees c 48=false)) :
  Calls Tryz.prog 32 #[c.me] W (RPost c W repDo S):=by
 have F0:=(Fr.start h).alloc (.cells Z13 69)
 have PS:=pC (F0.st hG).1
 have hal:=kL hk (by omega)
 have hal2:=hG.hl
 have wa:IntKind.i64.wrap ((a:Int)+1)=(a:Int)+1:=IntWalk.i64_in _ (by omega)
 have F1:=fun q=>(F0.drewN q).alloc (.cells (P13 (ps c a)) 69)
 have r1:∀q,Bx (((W.alloc (.cells Z13 69)).drewN q).alloc (.cells (P13 (ps c a)) 69)) W.heap.size 69 Z13:=fun q=>xB (X:=(W.alloc (.cells Z13 69)).drewN q) (xN W 69 _) (bA _ _)
 have v1:∀q,Bx (((W.alloc (.cells Z13 69)).drewN q).alloc (.cells (P13 (ps c a)) 69)) (W.heap.size+1) 69 (P13 (ps c a)):=fun q=>by
  have:=xN ((W.alloc (.cells Z13 69)).drewN q) 69 (P13 (ps c a))
  rwa [show ((W.alloc (.cells Z13 69)).drewN q).heap.size=W.heap.size+1 by simp] at this
 replace r1:=A0.mk r1
 replace v1:=A0.mk v1
 replace F1:=A0.mk F1
 go_enter Tryz.func32,Tryz.ntmps32
 go_upto_region 2 with (first|(go_at_call 33;(with_reducible refine PS.mono ?_);rintro e w2 ⟨rfl,q,rfl⟩))
 have F:=F1.out q
 have hr:=r1.out q
 have hv:=v1.out q
 generalize ((W.alloc (.cells Z13 69)).drewN q).alloc (.cells (P13 (ps c a)) 69)=X at F hr hv ⊢
 clear F0 F1 r1 v1 PS
 have hWX:=F.sz
 have hb0:Below X.heap.size X X:=Below.refl _ _
 have T0:=fun Y (hb:Below X.heap.size X Y)=>rI hG ((F.below hb).st hG).1 8 (by omega) ⟨#[99,111,110,115,116]⟩ rfl
 simp only [show decide (kd c a=8)=false from decide_eq_false (by omega)] at T0
 have T1:=fun Y (hb:Below X.heap.size X Y)=>rI hG ((F.below hb).st hG).1 25 (by omega) ⟨#[116,105,99,107,115]⟩ rfl
 simp only [show decide (kd c a=25)=false from decide_eq_false (by omega)] at T1
 have T2:=fun Y (hb:Below X.heap.size X Y)=>rI hG ((F.below hb).st hG).1 14 (by omega) ⟨#[105,110,112,117,116]⟩ rfl
 simp only [show decide (kd c a=14)=false from decide_eq_false (by omega)] at T2
 obtain ⟨o0,ho0⟩:∃o,A0 ((Sta.here a d).go (tkS c 26)=o):=⟨_,⟨rfl⟩⟩
 have ho0':o0=.ok () (a+1) d:=by rw [←ho0.out];show tkS c 26 a d=_;unfold tkS wS;rw [if_pos hk,if_neg (by omega),if_neg (by omega)];rfl
 rw [ho0'] at ho0
 clear ho0'
 have TV:=fun Y (hb:Below X.heap.size X Y)=>tC hG ((F.below hb).st hG) 26 (by omega) ⟨#[118,97,114]⟩ rfl ho0
 replace hk:=A0.mk hk
 go_upto_region 22 with (first|(go_at_call 31;(with_reducible refine (T0 _ hb0).mono ?_);rintro e w3 ⟨rfl,hb1⟩;replace hb1:=hb0.trans (hb1.mono hb0.size))|(go_at_call 31;(with_reducible refine (T1 _ hb1).mono ?_);rintro e w4 ⟨rfl,hb2⟩;replace hb2:=hb1.trans (hb2.mono hb1.size))|(go_at_call 31;(with_reducible refine (T2 _ hb2).mono ?_);rintro e w5 ⟨rfl,hb3⟩;replace hb3:=hb2.trans (hb3.mono hb2.size))|(go_at_call 36;(with_reducible refine (TV _ hb3).mono ?_);rintro e wv ⟨hg,rfl,hR⟩))
 replace F:=(F.below hb3).call hg hR
 replace hv:=xC (xB hv hb3) hg (by have:=F.gl;omega)
 replace hr:=xC (xB hr hb3) hg (by have:=F.gl;omega)
 clear TV hg hR T0 T1 T2 hb3 hb2 hb1 hb0
 clear hWX ho0
 generalize wv=X1 at F hv hr ⊢
 have z0:X1.cell? ⟨W.heap.size+1,0,none⟩=some (.int .i64 0):=bC hv 0
 have y0:=bF hv 0
 go_upto_region 23 with fail
 replace F:=F.set (p:=⟨W.heap.size+1,0,none⟩) (Nat.le_succ _) (.int .i64 4)
 replace hv:Bx _ (W.heap.size+1) 69 #[.int .i64 4,.int .i64 0,.string ⟨#[]⟩,.string ⟨#[]⟩,.int .i64 0,.int .i64 0,.string ⟨#[]⟩,.int .i64 0,.int .i64 0,.string ⟨#[]⟩,.int .i64 0,.int .i64 0,.int .i64 (ps c a)]:=bP hv 0 (.int .i64 4) rfl
 replace hr:=Q5 hr (p:=⟨W.heap.size+1,0,none⟩) (by dsimp only;omega) (.int .i64 4)
 clear z0 y0
 generalize X1.setCell ⟨W.heap.size+1,0,none⟩ (.int .i64 4)=X2 at F hv hr ⊢
 obtain ⟨o0,ho0⟩:∃o,A0 (((Sta.here (a+1) d)).go (typS c)=o):=⟨_,⟨rfl⟩⟩
 have CN:=rkind_c hG (F.st hG) ho0
 go_upto_region 24 with (first|(go_at_call 66;(with_reducible refine CN.mono ?_);rintro e u3 ⟨hg,⟨k0,rfl,h0⟩,hR⟩;have hv2:=xC hv hg (by have:=F.gl;omega);have z0:u3.cell? ⟨W.heap.size+1,1,none⟩=some (.int .i64 0):=bC hv2 1;have y0:=bF hv2 1))
 replace F:=F.call hg hR
 replace hr:=xC hr hg (by have:=F.gl;omega)
 replace F:=F.set (p:=⟨W.heap.size+1,1,none⟩) (Nat.le_succ _) (.int .i64 k0)
 replace hv2:Bx _ (W.heap.size+1) 69 #[.int .i64 4,.int .i64 k0,.string ⟨#[]⟩,.string ⟨#[]⟩,.int .i64 0,.int .i64 0,.string ⟨#[]⟩,.int .i64 0,.int .i64 0,.string ⟨#[]⟩,.int .i64 0,.int .i64 0,.int .i64 (ps c a)]:=bP hv2 1 (.int .i64 k0) rfl
 replace hr:=Q5 hr (p:=⟨W.heap.size+1,1,none⟩) (by dsimp only;omega) (.int .i64 k0)
 clear CN hg hR hv z0 y0
 generalize (u3.setCell ⟨W.heap.size+1,1,none⟩ (.int .i64 k0))=X3 at F hv2 hr ⊢
 have hv:=hv2
 clear hv2
 obtain ⟨o1,ho1⟩:∃o,A0 ((o0.sta).go (nS c)=o):=⟨_,⟨rfl⟩⟩
 have CN:=rname_c hG (F.st hG) ho1
 go_upto_region 25 with (first|(go_at_call 34;(with_reducible refine CN.mono ?_);rintro e u4 ⟨hg,⟨nm1,rfl,h1⟩,hR⟩;have hv2:=xC hv hg (by have:=F.gl;omega);have z0:u4.cell? ⟨W.heap.size+1,2,none⟩=some (.string ⟨#[]⟩):=bC hv2 2;have y0:=bF hv2 2))
 replace F:=F.call hg hR
 replace hr:=xC hr hg (by have:=F.gl;omega)
 replace F:=F.set (p:=⟨W.heap.size+1,2,none⟩) (Nat.le_succ _) (.string nm1)
 replace hv2:Bx _ (W.heap.size+1) 69 #[.int .i64 4,.int .i64 k0,.string nm1,.string ⟨#[]⟩,.int .i64 0,.int .i64 0,.string ⟨#[]⟩,.int .i64 0,.int .i64 0,.string ⟨#[]⟩,.int .i64 0,.int .i64 0,.int .i64 (ps c a)]:=bP hv2 2 (.string nm1) rfl
 replace hr:=Q5 hr (p:=⟨W.heap.size+1,2,none⟩) (by dsimp only;omega) (.string nm1)
 clear CN hg hR hv z0 y0
 generalize (u4.setCell ⟨W.heap.size+1,2,none⟩ (.string nm1))=X4 at F hv2 hr ⊢
 have hv:=hv2
 clear hv2
 have hb48:o1.sta.sees c 48=false:=by rw [←ho1.out,←ho0.out];exact hb.out
 have IS:=ris_call hG (F.st hG) 48 (by omega) ⟨#[91]⟩ rfl
 rw [hb48] at IS
 clear hb48 hb
 go_upto_region 30 with (first|(go_at_call 31;(with_reducible refine IS.mono ?_);rintro e us ⟨rfl,hbs⟩))
 replace F:=F.below hbs
 replace hv:=xB hv hbs
 replace hr:=xB hr hbs
 clear IS hbs
 generalize us=Xs at F hv hr ⊢
 obtain ⟨o2,ho2⟩:∃o,A0 ((o1.sta).go (tkS c 44)=o):=⟨_,⟨rfl⟩⟩
 have CN:=tC hG (F.st hG) 44 (by omega) ⟨#[61]⟩ rfl ho2
 go_upto_region 31 with (first|(go_at_call 36;(with_reducible refine CN.mono ?_);rintro e u5 ⟨hg,rfl,hR⟩))
 replace F:=F.call hg hR
 replace hv:=xC hv hg (by have:=F.gl;omega)
 replace hr:=xC hr hg (by have:=F.gl;omega)
 clear CN hg hR
 generalize u5=X5 at F hv hr ⊢
 obtain ⟨o3,ho3⟩:∃o,A0 ((o2.sta).go (coS c)=o):=⟨_,⟨rfl⟩⟩
 have CN:=rconst_c hG (F.st hG) ho3
 go_upto_region 32 with (first|(go_at_call 65;(with_reducible refine CN.mono ?_);rintro e u6 ⟨hg,⟨cn3,cv3,cp3,rfl,h3⟩,hR⟩;have hv2:=xC hv hg (by have:=F.gl;omega);have z0:u6.cell? ⟨W.heap.size+1,6,none⟩=some (.string ⟨#[]⟩):=bC hv2 6;have y0:=bF hv2 6;have z1:u6.cell? ⟨W.heap.size+1,7,none⟩=some (.int .i64 0):=bC hv2 7;have y1:=bF hv2 7;have z2:u6.cell? ⟨W.heap.size+1,8,none⟩=some (.int .i64 0):=bC hv2 8;have y2:=bF hv2 8))
 replace F:=F.call hg hR
 replace hr:=xC hr hg (by have:=F.gl;omega)
 replace F:=F.set (p:=⟨W.heap.size+1,6,none⟩) (Nat.le_succ _) (.string cn3)
 replace hv2:Bx _ (W.heap.size+1) 69 #[.int .i64 4,.int .i64 k0,.string nm1,.string ⟨#[]⟩,.int .i64 0,.int .i64 0,.string cn3,.int .i64 0,.int .i64 0,.string ⟨#[]⟩,.int .i64 0,.int .i64 0,.int .i64 (ps c a)]:=bP hv2 6 (.string cn3) rfl
 replace hr:=Q5 hr (p:=⟨W.heap.size+1,6,none⟩) (by dsimp only;omega) (.string cn3)
 replace F:=F.set (p:=⟨W.heap.size+1,7,none⟩) (Nat.le_succ _) (.int .i64 cv3)
 replace hv2:Bx _ (W.heap.size+1) 69 #[.int .i64 4,.int .i64 k0,.string nm1,.string ⟨#[]⟩,.int .i64 0,.int .i64 0,.string cn3,.int .i64 cv3,.int .i64 0,.string ⟨#[]⟩,.int .i64 0,.int .i64 0,.int .i64 (ps c a)]:=bP hv2 7 (.int .i64 cv3) rfl
 replace hr:=Q5 hr (p:=⟨W.heap.size+1,7,none⟩) (by dsimp only;omega) (.int .i64 cv3)
 replace F:=F.set (p:=⟨W.heap.size+1,8,none⟩) (Nat.le_succ _) (.int .i64 cp3)
 replace hv2:Bx _ (W.heap.size+1) 69 #[.int .i64 4,.int .i64 k0,.string nm1,.string ⟨#[]⟩,.int .i64 0,.int .i64 0,.string cn3,.int .i64 cv3,.int .i64 cp3,.string ⟨#[]⟩,.int .i64 0,.int .i64 0,.int .i64 (ps c a)]:=bP hv2 8 (.int .i64 cp3) rfl
 replace hr:=Q5 hr (p:=⟨W.heap.size+1,8,none⟩) (by dsimp only;omega) (.int .i64 cp3)
 clear CN hg hR hv z0 y0 z1 y1 z2 y2
 generalize (((u6.setCell ⟨W.heap.size+1,6,none⟩ (.string cn3)).setCell ⟨W.heap.size+1,7,none⟩ (.int .i64 cv3)).setCell ⟨W.heap.size+1,8,none⟩ (.int .i64 cp3))=X6 at F hv2 hr ⊢
 have hv:=hv2
 clear hv2
 obtain ⟨o4,ho4⟩:∃o,A0 ((o3.sta).go (tkS c 41)=o):=⟨_,⟨rfl⟩⟩
 have CN:=tC hG (F.st hG) 41 (by omega) ⟨#[59]⟩ rfl ho4
 go_upto_region 33 with (first|(go_at_call 36;(with_reducible refine CN.mono ?_);rintro e u7 ⟨hg,rfl,hR⟩))
 replace F:=F.call hg hR
 replace hv:=xC hv hg (by have:=F.gl;omega)
 replace hr:=xC hr hg (by have:=F.gl;omega)
 clear CN hg hR
 generalize u7=X7 at F hv hr ⊢
 have z0:X7.cell? ⟨W.heap.size+1,0,none⟩=some (.int .i64 4):=bC hv 0;have y0:=bF hr 0;have x0:X7.cell? ⟨W.heap.size,0,none⟩=some (.int .i64 0):=bC hr 0
 have z1:X7.cell? ⟨W.heap.size+1,1,none⟩=some (.int .i64 k0):=bC hv 1;have y1:=bF hr 1;have x1:X7.cell? ⟨W.heap.size,1,none⟩=some (.int .i64 0):=bC hr 1
 have z2:X7.cell? ⟨W.heap.size+1,2,none⟩=some (.string nm1):=bC hv 2;have y2:=bF hr 2;have x2:X7.cell? ⟨W.heap.size,2,none⟩=some (.string ⟨#[]⟩):=bC hr 2
 have z3:X7.cell? ⟨W.heap.size+1,3,none⟩=some (.string ⟨#[]⟩):=bC hv 3;have y3:=bF hr 3;have x3:X7.cell? ⟨W.heap.size,3,none⟩=some (.string ⟨#[]⟩):=bC hr 3
 have z4:X7.cell? ⟨W.heap.size+1,4,none⟩=some (.int .i64 0):=bC hv 4;have y4:=bF hr 4;have x4:X7.cell? ⟨W.heap.size,4,none⟩=some (.int .i64 0):=bC hr 4
 have z5:X7.cell? ⟨W.heap.size+1,5,none⟩=some (.int .i64 0):=bC hv 5;have y5:=bF hr 5;have x5:X7.cell? ⟨W.heap.size,5,none⟩=some (.int .i64 0):=bC hr 5
 have z6:X7.cell? ⟨W.heap.size+1,6,none⟩=some (.string cn3):=bC hv 6;have y6:=bF hr 6;have x6:X7.cell? ⟨W.heap.size,6,none⟩=some (.string ⟨#[]⟩):=bC hr 6
 have z7:X7.cell? ⟨W.heap.size+1,7,none⟩=some (.int .i64 cv3):=bC hv 7;have y7:=bF hr 7;have x7:X7.cell? ⟨W.heap.size,7,none⟩=some (.int .i64 0):=bC hr 7
 have z8:X7.cell? ⟨W.heap.size+1,8,none⟩=some (.int .i64 cp3):=bC hv 8;have y8:=bF hr 8;have x8:X7.cell? ⟨W.heap.size,8,none⟩=some (.int .i64 0):=bC hr 8
 have z9:X7.cell? ⟨W.heap.size+1,9,none⟩=some (.string ⟨#[]⟩):=bC hv 9;have y9:=bF hr 9;have x9:X7.cell? ⟨W.heap.size,9,none⟩=some (.string ⟨#[]⟩):=bC hr 9
 have z10:X7.cell? ⟨W.heap.size+1,10,none⟩=some (.int .i64 0):=bC hv 10;have y10:=bF hr 10;have x10:X7.cell? ⟨W.heap.size,10,none⟩=some (.int .i64 0):=bC hr 10
 have z11:X7.cell? ⟨W.heap.size+1,11,none⟩=some (.int .i64 0):=bC hv 11;have y11:=bF hr 11;have x11:X7.cell? ⟨W.heap.size,11,none⟩=some (.int .i64 0):=bC hr 11
 have z12:X7.cell? ⟨W.heap.size+1,12,none⟩=some (.int .i64 (ps c a)):=bC hv 12;have y12:=bF hr 12;have x12:X7.cell? ⟨W.heap.size,12,none⟩=some (.int .i64 0):=bC hr 12
 have hfin:A0 (S.sta=o4.sta∧∀y,S.val=some y→y=(⟨4,k0,nm1,z67,(cn3,cv3,cp3),z67,ps c a⟩:Dec)):=by
  have e0:=ho0.out
  have e1:=ho1.out
  have e2:=ho2.out
  have e3:=ho3.out
  have e4:=ho4.out
  refine ⟨?_⟩
  cases o0 with
  | bad p er =>
   have E0:=e0
   simp only [Sta.go,Out.sta] at E0 e1 e2 e3 e4
   subst e1
   try simp only [Sta.go,Out.sta] at e2
   subst e2
   try simp only [Sta.go,Out.sta] at e3
   subst e3
   try simp only [Sta.go,Out.sta] at e4
   subst e4
   rw [hSp.out]
   simp only [Out.bind,E0]
   exact ⟨rfl,fun y hy=>by cases hy⟩
  | ok x0 a0 d0 =>
   have E0:=e0
   simp only [Sta.go,Out.sta] at E0
   cases o1 with
   | bad p er =>
    have E1:=e1
    simp only [Sta.go,Out.sta] at E1 e2 e3 e4
    subst e2
    try simp only [Sta.go,Out.sta] at e3
    subst e3
    try simp only [Sta.go,Out.sta] at e4
    subst e4
    rw [hSp.out]
    simp only [Out.bind,E0,E1]
    exact ⟨rfl,fun y hy=>by cases hy⟩
   | ok x1 a1 d1 =>
    have E1:=e1
    simp only [Sta.go,Out.sta] at E1
    cases o2 with
    | bad p er =>
     have E2:=e2
     simp only [Sta.go,Out.sta] at E2 e3 e4
     subst e3
     try simp only [Sta.go,Out.sta] at e4
     subst e4
     rw [hSp.out]
     simp only [Out.bind,E0,E1,E2]
     exact ⟨rfl,fun y hy=>by cases hy⟩
    | ok x2 a2 d2 =>
     have E2:=e2
     simp only [Sta.go,Out.sta] at E2
     cases o3 with
     | bad p er =>
      have E3:=e3
      simp only [Sta.go,Out.sta] at E3 e4
      subst e4
      rw [hSp.out]
      simp only [Out.bind,E0,E1,E2,E3]
      exact ⟨rfl,fun y hy=>by cases hy⟩
     | ok x3 a3 d3 =>
      have E3:=e3
      simp only [Sta.go,Out.sta] at E3
      cases o4 with
      | bad p er =>
       have E4:=e4
       simp only [Sta.go,Out.sta] at E4
       rw [hSp.out]
       simp only [Out.bind,E0,E1,E2,E3,E4]
       exact ⟨rfl,fun y hy=>by cases hy⟩
      | ok x4 a4 d4 =>
       have E4:=e4
       simp only [Sta.go,Out.sta] at E4
       rw [hSp.out]
       simp only [Out.bind,E0,E1,E2,E3,E4]
       obtain rfl:=(h0.out _ rfl:x0=k0)
       obtain rfl:=(h1.out _ rfl:x1=nm1)
       obtain rfl:=(h3.out _ rfl:x3=(cn3,cv3,cp3))
       exact ⟨rfl,fun y hy=>by cases hy;rfl⟩
 clear hal wa hSp hv ho0 ho1 ho2 ho3 ho4
 go_wp2
 exact bodyPost_ret (res_c rfl _ _ W.heap.size 69 _ (0,0) _ rfl (bx_set13 (.int .i64 4) (.int .i64 k0) (.string nm1) (.string ⟨#[]⟩) (.int .i64 0) (.int .i64 0) (.string cn3) (.int .i64 cv3) (.int .i64 cp3) (.string ⟨#[]⟩) (.int .i64 0) (.int .i64 0) (.int .i64 (ps c a)) hr) Tryz.underlying69 rfl (by kernel_rfl)) rfl ((fr_set13 F (Nat.le_refl _) (.int .i64 4) (.int .i64 k0) (.string nm1) (.string ⟨#[]⟩) (.int .i64 0) (.int .i64 0) (.string cn3) (.int .i64 cv3) (.int .i64 cp3) (.string ⟨#[]⟩) (.int .i64 0) (.int .i64 0) (.int .i64 (ps c a))).end hG hfin.out.1 ⟨_,rfl,hfin.out.2⟩)
def decS (c:Ctx) (a:Nat) (d:Int):Out Dec:=(declS c a d).bind fun x a d=>.ok x.1 a d
theorem bind_bind {α β γ:Type} (o:Out α) (f:α→Nat→Int→Out β) (g:β→Nat→Int→Out γ):(o.bind f).bind g=o.bind fun x a d=>(f x a d).bind g:=by cases o <;> rfl
theorem oB {α β:Type} (x:α) (a:Nat) (d:Int) (f:α→Nat→Int→Out β):(Out.ok x a d).bind f=f x a d:=rfl
theorem bind_congr {α β:Type} {o:Out α} {f g:α→Nat→Int→Out β} (h:∀x a d,o=.ok x a d→f x a d=g x a d):o.bind f=o.bind g:=by
 cases o with
 | ok x a d=>exact h x a d rfl
 | bad p er=>rfl
theorem rdecl_call {c:Ctx} (hG:Good c) {W:World} {a:Nat} {d:Int} (h:RSt c W (.here a d)) (hk:kd c a=8∨kd c a=25∨kd c a=14∨kd c a=26) :
  Calls Tryz.prog 32 #[c.me] W (RPost c W repDo (decS c a d)):=by
 rcases hk with hk | hk | hk | hk
 ·refine rdecl8 hG h hk _ ⟨?_⟩
  unfold decS declS
  rw [if_pos hk]
  simp only [bind_bind,semiS,tk_bind,oB]
 ·refine rdecl25 hG h hk _ ⟨?_⟩
  unfold decS declS
  rw [if_neg (by omega),if_pos hk]
  simp only [bind_bind,semiS,tk_bind,oB]
 ·refine rdecl14 hG h hk _ ⟨?_⟩
  unfold decS declS
  rw [if_neg (by omega),if_neg (by omega),if_pos hk]
  simp only [bind_bind,semiS,tk_bind,oB]
 ·have key:∀ty a1 d1 nm a2 d2,typS c (a+1) d=.ok ty a1 d1→nS c a1 d1=.ok nm a2 d2→((typS c (a+1) d).sta.go (nS c)).sta.sees c 48=decide (kd c a2=48):=by
   intro ty a1 d1 nm a2 d2 h1 h2
   rw [h1]
   show (nS c a1 d1).sta.sees c 48=_
   rw [h2]
   rfl
  cases hb:((typS c (a+1) d).sta.go (nS c)).sta.sees c 48 with
  | true =>
   refine rdecl26t hG h hk _ ⟨?_⟩ ⟨hb⟩
   unfold decS declS
   rw [if_neg (by omega),if_neg (by omega),if_neg (by omega),if_pos hk]
   simp only [bind_bind,semiS,tk_bind,oB]
   refine bind_congr fun ty a1 d1 h1=>bind_congr fun nm a2 d2 h2=>?_
   have h48:kd c a2=48:=of_decide_eq_true ((key _ _ _ _ _ _ h1 h2).symm.trans hb)
   unfold takeS
   rw [if_pos h48]
   simp only [bind_bind,oB,tk_bind,↓reduceIte]
  | false =>
   refine rdecl26f hG h hk _ ⟨?_⟩ ⟨hb⟩
   unfold decS declS
   rw [if_neg (by omega),if_neg (by omega),if_neg (by omega),if_pos hk]
   simp only [bind_bind,semiS,tk_bind,oB]
   refine bind_congr fun ty a1 d1 h1=>bind_congr fun nm a2 d2 h2=>?_
   have h48:¬ kd c a2=48:=of_decide_eq_false ((key _ _ _ _ _ _ h1 h2).symm.trans hb)
   unfold takeS
   rw [if_neg h48]
   simp only [bind_bind,oB,tk_bind,Bool.false_eq_true,↓reduceIte]
abbrev repEo (lo:Nat):World→Value→Option Ex→Prop:=fun W v x=>∃op num nm A n cap pos,v=.agg #[.int .i64 op,.int .i64 num,.string nm,.slice A n cap,.int .i64 pos]∧A0 (∀y,x=some y→RepE (fun b=>lo≤b) W y (eC op num nm A n cap pos))
def Sta.lim (a0:Nat) (s:Sta):Prop:=∀a d,s=.here a d→a0≤a∧0≤d
def RReads (c:Ctx) (K:Nat) (S:Rd Ex) (a0:Nat):Prop:=∀W s0,RSt c W s0→s0.lim a0→Calls Tryz.prog K #[c.me] W (RPost c W (repEo W.heap.size) (s0.go S))
theorem RReads.c {c:Ctx} {K:Nat} {S:Rd Ex} {a0:Nat} (h:RReads c K S a0) {W:World} {s0:Sta} (hS:RSt c W s0) (hl:s0.lim a0) {o:Out Ex} (ho:A0 (s0.go S=o)) :
  Calls Tryz.prog K #[c.me] W fun e W'=>W.grownBy W' (some c.g)∧(∃op num nm A n cap pos,e=.returned (.agg #[.int .i64 op,.int .i64 num,.string nm,.slice A n cap,.int .i64 pos])∧A0 (∀y,o.val=some y→RepE (fun b=>W.heap.size≤b) W' y (eC op num nm A n cap pos)))∧RSt c W' o.sta :=
 (h W s0 hS hl).mono fun e w ⟨hg,⟨v,he,op,num,nm,A,n,cap,pos,hv,hy⟩,hR⟩=>by
  rw [ho.out] at hy hR
  exact ⟨hg,⟨op,num,nm,A,n,cap,pos,he.trans (congrArg _ hv),hy⟩,hR⟩
theorem RReads.mono {c:Ctx} {K:Nat} {S:Rd Ex} {a0 a1:Nat} (h:RReads c K S a0) (hl:a0≤a1):RReads c K S a1:=fun W s0 hS hlim=>h W s0 hS fun a d e=>⟨Nat.le_trans hl (hlim a d e).1,(hlim a d e).2⟩
theorem tk_open_lim {c:Ctx} {K:Int} (hK:K=32∨K=48∨K=50) {s0:Sta} {a0:Nat} (hl:s0.lim a0) {o:Out Unit} (ho:A0 (s0.go (tkS c K)=o)):o.sta.lim (a0+1):=by
 intro a d e
 cases s0 with
 | lost p er=>rw [←ho.out] at e;cases e
 | here a1 d1 =>
  obtain ⟨h1,h2⟩:=hl _ _ rfl
  have h:=ho.out
  simp only [Sta.go] at h
  cases o with
  | bad p er=>cases e
  | ok x a2 d2 =>
   cases e
   obtain ⟨t,a3,d3,h3,h4⟩:=bO h
   cases h4
   obtain ⟨e1,_,e2,_⟩:=want_ok (by omega) h3 |> fun ⟨_,e1,e2,_,e3,_⟩=>(⟨e1,e2,e3,trivial⟩:_∧_∧_∧True)
   rw [if_pos hK] at e2
   exact ⟨by omega,by omega⟩
theorem fine_lim {α:Type} {c:Ctx} {S:Rd α} {a0 a1:Nat} (hF:Fine c S a0) (hle:a1≤a0) {s0:Sta} (hS:∀a d,s0=.here a d→a0≤a∧0≤d∧d≤64) {o:Out α} (ho:A0 (s0.go S=o)):o.sta.lim a1:=by
 intro a d e
 cases s0 with
 | lost p er=>rw [←ho.out] at e;cases e
 | here a2 d2 =>
  obtain ⟨h1,h2,h3⟩:=hS _ _ rfl
  have h:=ho.out
  simp only [Sta.go] at h
  cases o with
  | bad p er=>cases e
  | ok x a3 d3 =>
   cases e
   obtain ⟨q1,q2,q3⟩:=hF _ _ h1 h2 h3 _ _ _ h
   exact ⟨by omega,by omega⟩
theorem all93 {X:World} {g:Nat} {a b c d e:Value} {cs:Array Value} (h:Bx X g 93 cs) (hs:cs.size=5):Bx (((((X.setCell ⟨g,0,none⟩ a).setCell ⟨g,1,none⟩ b).setCell ⟨g,2,none⟩ c).setCell ⟨g,3,none⟩ d).setCell ⟨g,4,none⟩ e) g 93 #[a,b,c,d,e]:=by
 obtain ⟨l⟩:=cs
 match l,hs with
 | [x,y,z,u,v],_=>exact bP (bP (bP (bP (bP h 0 a rfl) 1 b rfl) 2 c rfl) 3 d rfl) 4 e rfl
theorem fr_set5 {c:Ctx} {W X:World} {s:Sta} (h:Fr c W X s) {g:Nat} (hg:W.heap.size≤g) (u0 u1 u2 u3 u4:Value):Fr c W (((((X.setCell ⟨g,0,none⟩ u0).setCell ⟨g,1,none⟩ u1).setCell ⟨g,2,none⟩ u2).setCell ⟨g,3,none⟩ u3).setCell ⟨g,4,none⟩ u4) s :=
 ((((h.set (p:=⟨g,0,none⟩) hg u0).set (p:=⟨g,1,none⟩) hg u1).set (p:=⟨g,2,none⟩) hg u2).set (p:=⟨g,3,none⟩) hg u3).set (p:=⟨g,4,none⟩) hg u4
theorem fin93 {c:Ctx} (hG:Good c) {W X:World} {s:Sta} {fn:Func} {p:Tmp} (hr:fn.results=#[.cell p 93]) {a:Act} (hp:a.tmps.getD p undef=.pointer (some ⟨W.heap.size,0,none⟩)) (hd:a.defers=[]) (F:Fr c W X s) {cs:Array Value} (h:Bx X W.heap.size 93 cs) (hs:cs.size=5) {S:Out Ex} {op num:Int} {nm:ByteArray} {A:Option Addr} {n cap:Nat} {pos:Int}
  (hst:S.sta=s) (hE:∀y,S.val=some y→RepE (fun b=>W.heap.size+1≤b) X y (eC op num nm A n cap pos)):bodyPost Tryz.prog fn (RPost c W (repEo W.heap.size) S) .ret a
   (((((X.setCell ⟨W.heap.size,0,none⟩ (.int .i64 op)).setCell ⟨W.heap.size,1,none⟩ (.int .i64 num)).setCell ⟨W.heap.size,2,none⟩ (.string nm)).setCell ⟨W.heap.size,3,none⟩ (.slice A n cap)).setCell ⟨W.heap.size,4,none⟩ (.int .i64 pos)) :=
 bodyPost_ret (res_c hr _ _ W.heap.size 93 _ (0,0) _ hp (all93 h hs) Tryz.underlying93 rfl (by kernel_rfl)) hd
  ((fr_set5 F (Nat.le_refl _) _ _ _ _ _).end hG hst ⟨_,_,_,_,_,_,_,rfl,⟨fun y hy=>RepE.keep (P:=fun b=>W.heap.size+1≤b) (fun _ hb=>Nat.le_of_succ_le hb) (fun b hb hk=>(far5 (lo:=W.heap.size+1) X (Nat.lt_succ_self _) _ _ _ _ _).block b hb hk) y _ (hE y hy)⟩⟩)
set_option maxHeartbeats 2000000 in
theorem rparen_reads {c:Ctx} (hG:Good c) {ex:Rd Ex} {a0:Nat} (hF:Fine c ex (a0+1)) (hR:RReads c 138 ex (a0+1)):RReads c 107 (paS c ex) a0:=by
 intro W s0 h hl
 have F:=(Fr.start h).alloc (.cells Z93 93)
 have hr:Bx (W.alloc (.cells Z93 93)) W.heap.size 93 Z93:=xN W 93 _
 have hsz:(W.alloc (.cells Z93 93)).heap.size=W.heap.size+1:=by simp
 obtain ⟨S,hS⟩:∃S,A0 (s0.go (paS c ex)=S):=⟨_,⟨rfl⟩⟩
 rw [hS.out]
 obtain ⟨o0,ho0⟩:∃o,A0 (s0.go (tkS c 32)=o):=⟨_,⟨rfl⟩⟩
 obtain ⟨o1,ho1⟩:∃o,A0 (o0.sta.go ex=o):=⟨_,⟨rfl⟩⟩
 obtain ⟨o2,ho2⟩:∃o,A0 (o1.sta.go (tkS c 33)=o):=⟨_,⟨rfl⟩⟩
 have hl1:=tk_open_lim (by omega) hl ho0
 have CN:=tC hG (F.st hG) 32 (by omega) ⟨#[40]⟩ rfl ho0
 replace hR:=A0.mk hR
 replace hl1:=A0.mk hl1
 go_enter Tryz.func107,Tryz.ntmps107
 go_upto_region 2 with (first|(go_at_call 36;(with_reducible refine CN.mono ?_);rintro e w2 ⟨hg,rfl,hR0⟩))
 have hgl:=F.gl
 replace F:=F.call hg hR0
 replace hr:=xC hr hg hgl
 have hs2:W.heap.size+1≤w2.heap.size:=by have:=hg.size;omega
 clear CN hg hR0 hsz
 have CN:=hR.out.c (F.st hG) hl1.out ho1
 go_upto_region 3 with (first|(go_at_call 138;(with_reducible refine CN.mono ?_);rintro e w3 ⟨hg,⟨op,num,nm,A,n,cap,pos,rfl,hE⟩,hR0⟩))
 replace F:=(F.call hg hR0).alloc (.cells #[.int .i64 op,.int .i64 num,.string nm,.slice A n cap,.int .i64 pos] 93)
 replace hr:=xB (xC hr hg hgl) (bA w3 (.cells #[.int .i64 op,.int .i64 num,.string nm,.slice A n cap,.int .i64 pos] 93))
 have hv:=xN w3 93 #[.int .i64 op,.int .i64 num,.string nm,.slice A n cap,.int .i64 pos]
 have hE2:A0 (∀y,o1.val=some y→RepE (fun b=>W.heap.size+1≤b) (w3.alloc (.cells #[.int .i64 op,.int .i64 num,.string nm,.slice A n cap,.int .i64 pos] 93)) y (eC op num nm A n cap pos)):=⟨fun y hy=>(hE.out y hy).far ((Far.refl _ _).alloc _) hs2⟩
 have hg3:W.heap.size+1≤w3.heap.size:=by have:=hg.size;omega
 generalize w3.alloc (.cells #[.int .i64 op,.int .i64 num,.string nm,.slice A n cap,.int .i64 pos] 93)=X at F hr hv hE2 ⊢
 generalize w3.heap.size=g3 at hv hg3 ⊢
 clear CN hg hR0 hE hs2
 have CN:=tC hG (F.st hG) 33 (by omega) ⟨#[41]⟩ rfl ho2
 go_upto_region 4 with (first|(go_at_call 36;(with_reducible refine CN.mono ?_);rintro e w4 ⟨hg,rfl,hR0⟩))
 replace F:=F.call hg hR0
 replace hr:=xC hr hg hgl
 replace hv:=xC hv hg (by omega)
 have hE3:A0 (∀y,o1.val=some y→RepE (fun b=>W.heap.size+1≤b) w4 y (eC op num nm A n cap pos)):=⟨fun y hy=>(hE2.out y hy).far (Far.ofGrown hg (by omega)) (Nat.le_refl _)⟩
 clear CN hg hR0 hE2
 have z0:w4.cell? ⟨g3,0,none⟩=some (.int .i64 op):=bC hv 0
 have z1:w4.cell? ⟨g3,1,none⟩=some (.int .i64 num):=bC hv 1
 have z2:w4.cell? ⟨g3,2,none⟩=some (.string nm):=bC hv 2
 have z3:w4.cell? ⟨g3,3,none⟩=some (.slice A n cap):=bC hv 3
 have z4:w4.cell? ⟨g3,4,none⟩=some (.int .i64 pos):=bC hv 4
 have x0:w4.cell? ⟨W.heap.size,0,none⟩=some (.int .i64 0):=bC hr 0;have y0:=bF hr 0
 have x1:w4.cell? ⟨W.heap.size,1,none⟩=some (.int .i64 0):=bC hr 1;have y1:=bF hr 1
 have x2:w4.cell? ⟨W.heap.size,2,none⟩=some (.string ⟨#[]⟩):=bC hr 2;have y2:=bF hr 2
 have x3:w4.cell? ⟨W.heap.size,3,none⟩=some (.slice none 0 0):=bC hr 3;have y3:=bF hr 3
 have x4:w4.cell? ⟨W.heap.size,4,none⟩=some (.int .i64 0):=bC hr 4;have y4:=bF hr 4
 have hfin:A0 (S.sta=o2.sta∧∀y,S.val=some y→o1.val=some y):=⟨by
  have e0:=ho0.out;have e1:=ho1.out;have e2:=ho2.out
  rw [←hS.out]
  cases s0 with
  | lost p er =>
   simp only [Sta.go] at e0;subst e0
   simp only [Out.sta,Sta.go] at e1;subst e1
   simp only [Out.sta,Sta.go] at e2;subst e2
   exact ⟨rfl,fun y hy=>by cases hy⟩
  | here a d =>
   simp only [Sta.go] at e0 ⊢
   unfold paS
   simp only [tk_bind]
   rw [e0]
   cases o0 with
   | bad p er =>
    simp only [Out.sta,Sta.go] at e1;subst e1
    simp only [Out.sta,Sta.go] at e2;subst e2
    exact ⟨rfl,fun y hy=>by cases hy⟩
   | ok x a1 d1 =>
    simp only [Out.sta,Sta.go] at e1
    simp only [Out.bind]
    rw [e1]
    cases o1 with
    | bad p er =>
     simp only [Out.sta,Sta.go] at e2;subst e2
     exact ⟨rfl,fun y hy=>by cases hy⟩
    | ok x a2 d2 =>
     simp only [Out.sta,Sta.go] at e2
     simp only
     rw [e2]
     cases o2 with
     | bad p er=>exact ⟨rfl,fun y hy=>by cases hy⟩
     | ok x a3 d3=>exact ⟨rfl,fun y hy=>hy⟩⟩
 clear hS ho0 ho1 ho2 hR hl1 hl h hv
 go_wp2
 exact fin93 hG rfl rfl rfl F hr rfl hfin.out.1 (fun y hy=>hE3.out y (hfin.out.2 y hy))
def opsK (r:Int):List Int:=if r=1 then [51] else if r=2 then [31] else if r=3 then [45,29,42,43,46,47] else if r=4 then [35,37] else [34,39,30]
def opR (r:Int) (k:Nat):Int:=if r=1 then 21 else if r=2 then 20 else if r=3 then 14+(k:Int) else if r=4 then 5+(k:Int) else 7+(k:Int)
abbrev opsBox (r:Int):Obj:=.cells ((opsK r).map fun K=>Value.string (wordB K)).toArray 9
set_option maxHeartbeats 2000000 in
theorem ops_call {r:Int} (h1:1≤r) (h5:r≤5) (W:World):Calls Tryz.prog 159 #[.int .i64 r] W fun e w=>e=.returned (.slice (some ⟨W.heap.size,0,none⟩) (opsK r).length (opsK r).length)∧w=W.alloc (opsBox r):=by
 obtain rfl | rfl | rfl | rfl | rfl:r=1∨r=2∨r=3∨r=4∨r=5:=by omega
 all_goals (
  go_enter Tryz.func159,Tryz.ntmps159
  go_wp2
  go_ret
  exact ⟨rfl,rfl⟩)
set_option maxHeartbeats 2000000 in
theorem opOf_call {r:Int} (h1:1≤r) (h5:r≤5) (k:Nat) (hk:k≤6) (W:World):Calls Tryz.prog 160 #[.int .i64 r,.int .i64 (k:Int)] W fun e w=>e=.returned (.int .i64 (opR r k))∧w=W:=by
 have w1:IntKind.i64.wrap (14+(k:Int))=14+(k:Int):=IntWalk.i64_in _ (by omega)
 have w2:IntKind.i64.wrap (5+(k:Int))=5+(k:Int):=IntWalk.i64_in _ (by omega)
 have w3:IntKind.i64.wrap (7+(k:Int))=7+(k:Int):=IntWalk.i64_in _ (by omega)
 obtain rfl | rfl | rfl | rfl | rfl:r=1∨r=2∨r=3∨r=4∨r=5:=by omega
 all_goals (
  clear h1 h5
  go_enter Tryz.func160,Tryz.ntmps160
  go_wp2
  go_ret
  exact ⟨rfl,rfl⟩)
def opTo (c:Ctx) (s:Sta) (r:Int):Nat→Int
 | 0=>0
 | k+1=>if s.sees c ((opsK r).getD k 0) then opR r k else opTo c s r k
theorem opTo_lost {c:Ctx} {p er:Int} (r:Int):∀n,opTo c (.lost p er) r n=0
 | 0=>rfl
 | n+1=>by rw [opTo,opTo_lost r n];rfl
theorem opAt_none {r K:Int} (h:K ∉ binT):∀n,n≤23→opAt r K n=0
 | 0,_=>rfl
 | n+1,hn=>by
  rw [opAt,if_neg (fun e=>h (by
   rw [←e.2.1,List.getD_eq_getElem?_getD,List.getElem?_eq_getElem (show n<binT.length from hn)]
   exact List.getElem_mem _)),opAt_none h n (by omega)]
theorem opTo_here {c:Ctx} {a:Nat} {d r:Int} (h1:1≤r) (h5:r≤5):opTo c (.here a d) r (opsK r).length=opOf r (kd c a):=by
 have hs:∀K,(Sta.here a d).sees c K=decide (kd c a=K):=fun _=>rfl
 generalize kd c a=K at hs
 unfold opOf
 have key:∀n,opTo c (.here a d) r n=(fun (f:Nat→Int)=>f n) (fun n=>Nat.rec 0 (fun k v=>if decide (K=(opsK r).getD k 0) then opR r k else v) n):=by
  intro n
  induction n with
  | zero=>rfl
  | succ n ih=>rw [opTo,hs,ih]
 rw [key]
 by_cases h:K ∈ binT
 ·have:∀r ∈ [(1:Int),2,3,4,5],∀K ∈ binT,K≠0→(fun (f:Nat→Int)=>f (opsK r).length) (fun n=>Nat.rec 0 (fun k v=>if decide (K=(opsK r).getD k 0) then opR r k else v) n)=opAt r K 23:=by decide +kernel
  by_cases h0:K=0
  ·subst h0
   rw [opAt0]
   have:∀r ∈ [(1:Int),2,3,4,5],(fun (f:Nat→Int)=>f (opsK r).length) (fun n=>Nat.rec 0 (fun k v=>if decide ((0:Int)=(opsK r).getD k 0) then opR r k else v) n)=0:=by decide +kernel
   exact this r (by simp;omega)
  ·exact this r (by simp;omega) K h h0
 ·rw [opAt_none h 23 (Nat.le_refl _)]
  have hz:∀n,n≤(opsK r).length→(fun (f:Nat→Int)=>f n) (fun n=>Nat.rec (motive:=fun _=>Int) 0 (fun k v=>if decide (K=(opsK r).getD k 0) then opR r k else v) n)=0:=by
   intro n
   induction n with
   | zero=>intro _;rfl
   | succ n ih =>
    intro hn
    have hne:¬ K=(opsK r).getD n 0:=by
     intro e
     apply h
     rw [e]
     have:∀r ∈ [(1:Int),2,3,4,5],∀k<(opsK r).length,(opsK r).getD k 0 ∈ binT:=by decide +kernel
     exact this r (by simp;omega) n hn
    have:=ih (by omega)
    dsimp only at this ⊢
    rw [decide_eq_false hne]
    exact this
  exact hz _ (Nat.le_refl _)
theorem opsK_in {r:Int} (h1:1≤r) (h5:r≤5) (k:Nat) (hk:k<(opsK r).length):1≤(opsK r).getD k 0∧(opsK r).getD k 0≤52:=by
 have:∀r ∈ [(1:Int),2,3,4,5],∀k<(opsK r).length,1≤(opsK r).getD k 0∧(opsK r).getD k 0≤52:=by decide +kernel
 exact this r (by simp;omega) k hk
theorem opsK_len {r:Int} (h1:1≤r) (h5:r≤5):(opsK r).length≤6:=by
 have:∀r ∈ [(1:Int),2,3,4,5],(opsK r).length≤6:=by decide +kernel
 exact this r (by simp;omega)
def RRank (c:Ctx) (r:Int) (S:Rd Ex) (a0:Nat):Prop:=∀W s0,RSt c W s0→s0.lim a0→Calls Tryz.prog 155 #[c.me,.int .i64 r] W (RPost c W (repEo W.heap.size) (s0.go S))
theorem RRank.c {c:Ctx} {r:Int} {S:Rd Ex} {a0:Nat} (h:RRank c r S a0) {W:World} {s0:Sta} (hS:RSt c W s0) (hl:s0.lim a0) {o:Out Ex} (ho:A0 (s0.go S=o)) :
  Calls Tryz.prog 155 #[c.me,.int .i64 r] W fun e W'=>W.grownBy W' (some c.g)∧(∃op num nm A n cap pos,e=.returned (.agg #[.int .i64 op,.int .i64 num,.string nm,.slice A n cap,.int .i64 pos])∧A0 (∀y,o.val=some y→RepE (fun b=>W.heap.size≤b) W' y (eC op num nm A n cap pos)))∧RSt c W' o.sta :=
 (h W s0 hS hl).mono fun e w ⟨hg,⟨v,he,op,num,nm,A,n,cap,pos,hv,hy⟩,hR⟩=>by
  rw [ho.out] at hy hR
  exact ⟨hg,⟨op,num,nm,A,n,cap,pos,he.trans (congrArg _ hv),hy⟩,hR⟩
set_option maxHeartbeats 2000000 in
theorem rexpr_reads {c:Ctx} (hG:Good c) {S:Rd Ex} {a0:Nat} (hR:RRank c 1 S a0):RReads c 138 S a0:=by
 intro W s0 h hl
 have F:=(Fr.start h).alloc (.cells Z93 93)
 have hr:Bx (W.alloc (.cells Z93 93)) W.heap.size 93 Z93:=xN W 93 _
 have hsz:W.heap.size+1≤(W.alloc (.cells Z93 93)).heap.size:=by simp
 obtain ⟨o,ho⟩:∃o,A0 (s0.go S=o):=⟨_,⟨rfl⟩⟩
 rw [ho.out]
 have CN:=hR.c (F.st hG) hl ho
 replace hR:=A0.mk hR
 have hgl:=F.gl
 go_enter Tryz.func138,Tryz.ntmps138
 go_wp2_with (first|(go_at_call 155;(with_reducible refine CN.mono ?_);rintro e w3 ⟨hg,⟨op,num,nm,A,n,cap,pos,rfl,hE⟩,hR0⟩;(have hr2:=xC hr hg hgl;have x0:w3.cell? ⟨W.heap.size,0,none⟩=some (.int .i64 0):=bC hr2 0;have y0:=bF hr2 0;have x1:w3.cell? ⟨W.heap.size,1,none⟩=some (.int .i64 0):=bC hr2 1;have y1:=bF hr2 1;have x2:w3.cell? ⟨W.heap.size,2,none⟩=some (.string ⟨#[]⟩):=bC hr2 2;have y2:=bF hr2 2;have x3:w3.cell? ⟨W.heap.size,3,none⟩=some (.slice none 0 0):=bC hr2 3;have y3:=bF hr2 3;have x4:w3.cell? ⟨W.heap.size,4,none⟩=some (.int .i64 0):=bC hr2 4;have y4:=bF hr2 4)))
 exact fin93 hG rfl rfl rfl (F.call hg hR0) hr2 rfl rfl (fun y hy=>(hE.out y hy).far (Far.refl _ _) hsz)
end Go.Proofs.YtgaoapnaplgaiaaGreatDoor.Sc
