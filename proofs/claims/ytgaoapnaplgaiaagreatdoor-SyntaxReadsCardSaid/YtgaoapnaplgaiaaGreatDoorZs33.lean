/- This claim's own texts, joined, with only what the claim uses: SamB. -/
import Derived.Test.YtgaoapnaplgaiaaGreatDoorZs32
import Derived.Deep.RegionHeld3
namespace Go.Proofs.YtgaoapnaplgaiaaGreatDoor.Sc
set_option maxRecDepth 100000
open Go.RowKit Tk Go.Proofs.YtgaoapnaplgaiaaGreatDoor.Wd
set_option maxHeartbeats 4000000 in
theorem sameConst_call (name:ByteArray) (num p1 p2:Int) (W:World):Calls Tryz.prog 41 #[.agg #[.string name,.int .i64 num,.int .i64 p1],.agg #[.string name,.int .i64 num,.int .i64 p2]] W fun e w=>e=.returned (.bool true)∧Below W.heap.size W w:=by
 go_enter Tryz.func41,Tryz.ntmps41
 go_wp2
 go_ret
 exact ⟨rfl,(bA _ _).alloc (by simp) _⟩
mutual
def stSz:Stm→Nat
 | .mk _ _ _ args blocks cases _=>1+exSzs args+bkSz blocks+cases.length
def bkSz:List (List Stm)→Nat
 | []=>0
 | b :: bs=>1+stSzs b+bkSz bs
def stSzs:List Stm→Nat
 | []=>0
 | x :: xs=>stSz x+stSzs xs
end
theorem stSz_pos:∀x,1≤stSz x
 | .mk _ _ _ _ _ _ _=>by rw [stSz];omega
theorem stSzs_len:∀xs:List Stm,xs.length≤stSzs xs
 | []=>by simp
 | x :: xs=>by
  have:=stSz_pos x
  have:=stSzs_len xs
  rw [stSzs,List.length_cons]
  omega
theorem bkSz_len:∀xs:List (List Stm),xs.length≤bkSz xs
 | []=>by simp
 | x :: xs=>by
  have:=bkSz_len xs
  rw [bkSz,List.length_cons]
  omega
theorem stSzs_nth:∀{xs:List Stm} {i:Nat} {x:Stm},xs[i]?=some x→stSz x≤stSzs xs
 | [],i,x,h=>by simp at h
 | a :: xs,0,x,h=>by simp at h;subst h;rw [stSzs];omega
 | a :: xs,i+1,x,h=>by
  have:=stSzs_nth (xs:=xs) (i:=i) (by simpa using h)
  rw [stSzs]
  omega
theorem bkSz_nth:∀{xs:List (List Stm)} {i:Nat} {x:List Stm},xs[i]?=some x→stSzs x+1≤bkSz xs
 | [],i,x,h=>by simp at h
 | a :: xs,0,x,h=>by simp at h;subst h;rw [bkSz];omega
 | a :: xs,i+1,x,h=>by
  have:=bkSz_nth (xs:=xs) (i:=i) (by simpa using h)
  rw [bkSz]
  omega
theorem stNs_nth:∀{xs ys:List Stm},stNs xs=stNs ys→xs.length=ys.length∧∀(i:Nat) (x y:Stm),xs[i]?=some x→ys[i]?=some y→stN x=stN y
 | [],[],_=>⟨rfl,fun i x y h=>by simp at h⟩
 | [],_ :: _,h=>by rw [stNs,stNs] at h;cases h
 | _ :: _,[],h=>by rw [stNs,stNs] at h;cases h
 | a :: xs,b :: ys,h=>by
  rw [stNs,stNs] at h
  injection h with h1 h2
  obtain ⟨hl,hn⟩:=stNs_nth h2
  refine ⟨by simp [hl],fun i x y hx hy=>?_⟩
  cases i with
  | zero=>simp at hx hy;subst hx;subst hy;exact h1
  | succ i=>exact hn i x y (by simpa using hx) (by simpa using hy)
theorem bkNs_nth:∀{xs ys:List (List Stm)},bkNs xs=bkNs ys→xs.length=ys.length∧∀(i:Nat) (x y:List Stm),xs[i]?=some x→ys[i]?=some y→stNs x=stNs y
 | [],[],_=>⟨rfl,fun i x y h=>by simp at h⟩
 | [],_ :: _,h=>by rw [bkNs,bkNs] at h;cases h
 | _ :: _,[],h=>by rw [bkNs,bkNs] at h;cases h
 | a :: xs,b :: ys,h=>by
  rw [bkNs,bkNs] at h
  injection h with h1 h2
  obtain ⟨hl,hn⟩:=bkNs_nth h2
  refine ⟨by simp [hl],fun i x y hx hy=>?_⟩
  cases i with
  | zero=>simp at hx hy;subst hx;subst hy;exact h1
  | succ i=>exact hn i x y (by simpa using hx) (by simpa using hy)
theorem conNs_nth {xs ys:List Con} (h:xs.map conN=ys.map conN):xs.length=ys.length∧∀(i:Nat) (x y:Con),xs[i]?=some x→ys[i]?=some y→conN x=conN y:=by
 refine ⟨by simpa using congrArg List.length h,fun i x y hx hy=>?_⟩
 have:=congrArg (fun l=>l[i]?) h
 simpa [List.getElem?_map,hx,hy] using this
theorem repS_len {P:Nat→Prop} {W:World} {x:Stm} {v:List Value} (h:RepS P W x v):v.length=7:=by
 cases x
 rw [RepS] at h
 obtain ⟨A1,c1,v1,A2,c2,v3,A3,c3,rfl,_⟩:=h
 rfl
structure StsAt (W:World) (A:Option Addr) (c:Nat) (xs:List Stm):Prop where
 ex:xs.length≤c∧∃P vs,Row P W A vs.flatten∧RepSs P W xs vs
structure BksAt (W:World) (A:Option Addr) (c:Nat) (xs:List (List Stm)):Prop where
 ex:xs.length≤c∧∃P vs,Row P W A vs.flatten∧RepBs P W xs vs
structure ConsAt (W:World) (A:Option Addr) (c:Nat) (xs:List Con):Prop where
 ex:xs.length≤c∧∃P,Row P W A (xs.map conCells).flatten
theorem StsAt.keep {W W':World} {A:Option Addr} {c:Nat} {xs:List Stm} (h:StsAt W A c xs) (hb:Below W.heap.size W W'):StsAt W' A c xs:=by
 obtain ⟨hc,P,vs,hR,hr⟩:=h.ex
 refine ⟨hc,fun b=>P b,vs,hR.keep (fun _ h=>h) fun b _ hl=>hb.block b hl,?_⟩
 rw [repSs_iff] at hr ⊢
 exact hr.imp fun x v hx=>RepS.keep (fun _ h=>h) (fun b _ hl=>hb.block b hl) x v hx
theorem BksAt.keep {W W':World} {A:Option Addr} {c:Nat} {xs:List (List Stm)} (h:BksAt W A c xs) (hb:Below W.heap.size W W'):BksAt W' A c xs:=by
 obtain ⟨hc,P,vs,hR,hr⟩:=h.ex
 refine ⟨hc,fun b=>P b,vs,hR.keep (fun _ h=>h) fun b _ hl=>hb.block b hl,?_⟩
 rw [repBs_iff] at hr ⊢
 exact hr.imp fun x v hx=>rK hx (fun _ h=>h) (fun b _ hl=>hb.block b hl)
theorem ConsAt.keep {W W':World} {A:Option Addr} {c:Nat} {xs:List Con} (h:ConsAt W A c xs) (hb:Below W.heap.size W W'):ConsAt W' A c xs:=by
 obtain ⟨hc,P,hR⟩:=h.ex
 exact ⟨hc,P,hR.keep (fun _ h=>h) fun b _ hl=>hb.block b hl⟩
theorem StsAt.at {W:World} {A:Option Addr} {c:Nat} {xs:List Stm} (h:StsAt W A c xs) {i:Nat} {op pos:Int} {name read:ByteArray} {args:List Ex} {blocks:List (List Stm)} {cases:List Con} (hi:xs[i]?=some (.mk op name read args blocks cases pos)) :
  ∃a A1 c1 A2 c2 A3 c3,A=some a∧W.cell? (a.add (i * 7))=some (.int .i64 op)∧W.cell? ⟨(a.add (i * 7)).block,(a.add (i * 7)).off+1,none⟩=some (.string name)∧W.cell? ⟨(a.add (i * 7)).block,(a.add (i * 7)).off+2,none⟩=some (.string read) ∧
   W.cell? ⟨(a.add (i * 7)).block,(a.add (i * 7)).off+3,none⟩=some (.slice A1 args.length c1)∧W.cell? ⟨(a.add (i * 7)).block,(a.add (i * 7)).off+4,none⟩=some (.slice A2 blocks.length c2)∧W.cell? ⟨(a.add (i * 7)).block,(a.add (i * 7)).off+5,none⟩=some (.slice A3 cases.length c3) ∧
   W.cell? ⟨(a.add (i * 7)).block,(a.add (i * 7)).off+6,none⟩=some (.int .i64 pos)∧ExsAt W A1 c1 args∧BksAt W A2 c2 blocks∧ConsAt W A3 c3 cases:=by
 obtain ⟨_,P,vs,hR,hr⟩:=h.ex
 have ha:=repSs_iff.1 hr
 obtain ⟨v,hv,hx⟩:=ha.at i _ hi
 rw [RepS] at hx
 obtain ⟨A1,c1,v1,A2,c2,v3,A3,c3,rfl,h1,h2,h3,r1,e1,r2,e2,r3⟩:=hx
 obtain ⟨a,rfl,q0,q1⟩:=row_elem hR (ha.mem fun _ _ h=>repS_len h) hv (by omega)
 exact ⟨a,A1,c1,A2,c2,A3,c3,rfl,q0 _ rfl,q1 0 _ rfl,q1 1 _ rfl,q1 2 _ rfl,q1 3 _ rfl,q1 4 _ rfl,q1 5 _ rfl,⟨h1,P,v1,r1,e1⟩,⟨h2,P,v3,r2,e2⟩,⟨h3,P,r3⟩⟩
theorem BksAt.at {W:World} {A:Option Addr} {c:Nat} {xs:List (List Stm)} (h:BksAt W A c xs) {i:Nat} {b:List Stm} (hi:xs[i]?=some b) :
  ∃a A1 c1,A=some a∧W.cell? (a.add i)=some (.slice A1 b.length c1)∧StsAt W A1 c1 b:=by
 obtain ⟨_,P,vs,hR,hr⟩:=h.ex
 have ha:=repBs_iff.1 hr
 obtain ⟨v,hv,A1,c1,us,rfl,h1,r1,e1⟩:=ha.at i _ hi
 obtain ⟨a,rfl,q0,q1⟩:=row_elem hR (s:=1) (ha.mem fun _ _ h=>by obtain ⟨A1,c1,us,rfl,_⟩:=h;rfl) hv (by omega)
 rw [Nat.mul_one] at q0
 exact ⟨a,A1,c1,rfl,q0 _ rfl,⟨h1,P,us,r1,e1⟩⟩
theorem ConsAt.at {W:World} {A:Option Addr} {c:Nat} {xs:List Con} (h:ConsAt W A c xs) {i:Nat} {x:Con} (hi:xs[i]?=some x) :
  ∃a,A=some a∧W.cell? (a.add (i * 3))=some (.string x.1)∧W.cell? ⟨(a.add (i * 3)).block,(a.add (i * 3)).off+1,none⟩=some (.int .i64 x.2.1)∧W.cell? ⟨(a.add (i * 3)).block,(a.add (i * 3)).off+2,none⟩=some (.int .i64 x.2.2):=by
 obtain ⟨_,P,hR⟩:=h.ex
 obtain ⟨a,rfl,q0,q1⟩:=row_elem hR (s:=3) (i:=i) (v:=conCells x) (fun u hu=>by obtain ⟨y,_,rfl⟩:=List.mem_map.1 hu;rfl) (by rw [List.getElem?_map,hi];rfl) (by omega)
 exact ⟨a,rfl,q0 _ rfl,q1 0 _ rfl,q1 1 _ rfl⟩
end Go.Proofs.YtgaoapnaplgaiaaGreatDoor.Sc
