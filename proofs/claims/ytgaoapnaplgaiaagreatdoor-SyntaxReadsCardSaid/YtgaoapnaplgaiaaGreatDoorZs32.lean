/- This claim's own texts, joined, with only what the claim uses: SamA. -/
import Derived.Test.YtgaoapnaplgaiaaGreatDoorZs24
import Derived.Test.YtgaoapnaplgaiaaGreatDoorZs31
namespace Go.Proofs.YtgaoapnaplgaiaaGreatDoor.Sc
set_option maxRecDepth 100000
open Go.RowKit Tk Go.Proofs.YtgaoapnaplgaiaaGreatDoor.Wd
theorem flatten_at {s:Nat}:∀{us:List (List Value)},(∀u ∈ us,u.length=s)→∀(i j:Nat) (v:List Value),us[i]?=some v→j<s→us.flatten[i * s+j]?=v[j]?
 | [],_,i,j,v,h,_=>by simp at h
 | u :: us,hs,0,j,v,h,hj=>by
  simp only [List.getElem?_cons_zero,Option.some.injEq] at h
  subst h
  rw [Nat.zero_mul,Nat.zero_add,List.flatten_cons,List.getElem?_append_left (by rw [hs u (by simp)];exact hj)]
 | u :: us,hs,i+1,j,v,h,hj=>by
  have hu:=hs u (by simp)
  rw [List.flatten_cons,List.getElem?_append_right (by rw [hu,Nat.succ_mul];omega),hu,show (i+1) * s+j - s=i * s+j by rw [Nat.succ_mul];omega]
  exact flatten_at (fun x hx=>hs x (by simp [hx])) i j v (by simpa using h) hj
theorem row_elem {P:Nat→Prop} {W:World} {A:Option Addr} {us:List (List Value)} {s i:Nat} {v:List Value} (hR:Row P W A us.flatten) (hs:∀u ∈ us,u.length=s) (hi:us[i]?=some v) (h0:0<s) :
  ∃a,A=some a∧(∀u,v[0]?=some u→W.cell? (a.add (i * s))=some u)∧∀j u,v[j+1]?=some u→W.cell? ⟨(a.add (i * s)).block,(a.add (i * s)).off+(j+1),none⟩=some u:=by
 have hv:v.length=s:=hs v (List.mem_of_getElem? hi)
 obtain ⟨u0,hu0⟩:∃u0,v[0]?=some u0:=⟨v[0],by rw [List.getElem?_eq_getElem (by omega)]⟩
 obtain ⟨a,rfl,_,_⟩:=hR (i * s+0) u0 (by rw [flatten_at hs i 0 v hi h0];exact hu0)
 refine ⟨a,rfl,fun u hu=>?_,fun j u hu=>?_⟩
 ·obtain ⟨b,e,_,hc⟩:=hR (i * s+0) u (by rw [flatten_at hs i 0 v hi h0];exact hu)
  cases e
  exact hc
 ·have hj:j+1<s:=by
   rcases Nat.lt_or_ge (j+1) v.length with h | h
   ·omega
   ·rw [List.getElem?_eq_none h] at hu;cases hu
  obtain ⟨b,e,_,hc⟩:=hR (i * s+(j+1)) u (by rw [flatten_at hs i (j+1) v hi hj];exact hu)
  cases e
  rw [show (⟨(a.add (i * s)).block,(a.add (i * s)).off+(j+1),none⟩:Addr)=a.add (i * s+(j+1)) by
   unfold Addr.add
   split <;> split <;> simp_all <;> omega]
  exact hc
theorem All2.mem {α β:Type} {R:α→β→Prop} {Q:β→Prop} (hq:∀x y,R x y→Q y):∀{xs:List α} {ys:List β},All2 R xs ys→∀y ∈ ys,Q y
 | [],[],_=>by simp
 | _ :: _,_ :: _,k=>by
  intro y hy
  rcases List.mem_cons.1 hy with rfl | hy
  ·exact hq _ _ k.1
  ·exact All2.mem hq k.2 y hy
theorem All2.at {α β:Type} {R:α→β→Prop}:∀{xs:List α} {ys:List β},All2 R xs ys→∀(i:Nat) (x:α),xs[i]?=some x→∃y,ys[i]?=some y∧R x y
 | [],[],_,i,x,h=>by simp at h
 | a :: _,b :: _,k,0,x,h=>by
  simp only [List.getElem?_cons_zero,Option.some.injEq] at h
  subst h
  exact ⟨b,rfl,k.1⟩
 | _ :: xs,_ :: ys,k,i+1,x,h=>by
  obtain ⟨y,e,r⟩:=All2.at k.2 i x (by simpa using h)
  exact ⟨y,by simpa using e,r⟩
structure ExsAt (W:World) (A:Option Addr) (c:Nat) (xs:List Ex):Prop where
 ex:xs.length≤c∧∃P vs,Row P W A vs.flatten∧RepEs P W xs vs
theorem ExsAt.at {W:World} {A:Option Addr} {c:Nat} {xs:List Ex} (h:ExsAt W A c xs) {i:Nat} {op num pos:Int} {name:ByteArray} {args:List Ex} (hi:xs[i]?=some (.mk op num name args pos)) :
  ∃a A2 c2,A=some a∧W.cell? (a.add (i * 5))=some (.int .i64 op)∧W.cell? ⟨(a.add (i * 5)).block,(a.add (i * 5)).off+1,none⟩=some (.int .i64 num)∧W.cell? ⟨(a.add (i * 5)).block,(a.add (i * 5)).off+2,none⟩=some (.string name) ∧
   W.cell? ⟨(a.add (i * 5)).block,(a.add (i * 5)).off+3,none⟩=some (.slice A2 args.length c2)∧ExsAt W A2 c2 args:=by
 obtain ⟨_,P,vs,hR,hr⟩:=h.ex
 have ha:=repEs_iff.1 hr
 obtain ⟨v,hv,hx⟩:=ha.at i _ hi
 rw [RepE] at hx
 obtain ⟨A2,c2,vs2,rfl,hc,hR2,hr2⟩:=hx
 obtain ⟨a,rfl,h0,h1⟩:=row_elem hR (ha.mem fun _ _ h=>repE_len h) hv (by omega)
 exact ⟨a,A2,c2,rfl,h0 _ rfl,h1 0 _ rfl,h1 1 _ rfl,h1 2 _ rfl,⟨hc,P,vs2,hR2,hr2⟩⟩
theorem ExsAt.keep {W W':World} {A:Option Addr} {c:Nat} {xs:List Ex} (h:ExsAt W A c xs) (hb:Below W.heap.size W W'):ExsAt W' A c xs:=by
 obtain ⟨hc,P,vs,hR,hr⟩:=h.ex
 refine ⟨hc,fun b=>P b,vs,hR.keep (fun _ h=>h) fun b _ hl=>hb.block b hl,?_⟩
 rw [repEs_iff] at hr ⊢
 exact hr.imp fun x v hx=>RepE.keep (fun _ h=>h) (fun b _ hl=>hb.block b hl) x v hx
theorem ExsAt.drewN {W:World} {A:Option Addr} {c:Nat} {xs:List Ex} (h:ExsAt W A c xs) (q:Nat):ExsAt (W.drewN q) A c xs:=h.keep (bel_drewN (Below.refl _ _) q)
theorem exNs_nth:∀{xs ys:List Ex},exNs xs=exNs ys→xs.length=ys.length∧∀(i:Nat) (x y:Ex),xs[i]?=some x→ys[i]?=some y→exN x=exN y
 | [],[],_=>⟨rfl,fun i x y h=>by simp at h⟩
 | [],_ :: _,h=>by rw [exNs,exNs] at h;cases h
 | _ :: _,[],h=>by rw [exNs,exNs] at h;cases h
 | a :: xs,b :: ys,h=>by
  rw [exNs,exNs] at h
  injection h with h1 h2
  obtain ⟨hl,hn⟩:=exNs_nth h2
  refine ⟨by simp [hl],fun i x y hx hy=>?_⟩
  cases i with
  | zero=>simp at hx hy;subst hx;subst hy;exact h1
  | succ i=>exact hn i x y (by simpa using hx) (by simpa using hy)
def exSz:Ex→Nat
 | .mk _ _ _ args _=>1+exSzs args
where exSzs:List Ex→Nat
 | []=>0
 | x :: xs=>exSz x+exSzs xs
abbrev exSzs:=exSz.exSzs
theorem exSz_mk (op num:Int) (name:ByteArray) (args:List Ex) (pos:Int):exSz (.mk op num name args pos)=1+exSzs args:=by rw [exSz]
theorem exSz_pos:∀x,1≤exSz x
 | .mk _ _ _ _ _=>by rw [exSz];omega
theorem exSzs_len:∀xs,xs.length≤exSzs xs
 | []=>by simp
 | x :: xs=>by
  have:=exSz_pos x
  have:=exSzs_len xs
  rw [exSzs,exSz.exSzs,List.length_cons]
  show xs.length+1≤exSz x+exSzs xs
  omega
theorem exSzs_nth:∀{xs:List Ex} {i:Nat} {x:Ex},xs[i]?=some x→exSz x≤exSzs xs
 | [],i,x,h=>by simp at h
 | a :: xs,0,x,h=>by simp at h;subst h;rw [exSzs,exSz.exSzs];omega
 | a :: xs,i+1,x,h=>by
  have:=exSzs_nth (xs:=xs) (i:=i) (by simpa using h)
  rw [exSzs,exSz.exSzs]
  show exSz x≤exSz a+exSzs xs
  omega
set_option maxHeartbeats 8000000 in
theorem sameExprs_call:∀(k:Nat) (xs ys:List Ex),exSzs xs≤k→k≤4611686018427387904→exNs xs=exNs ys→∀(W:World) (A B:Option Addr) (c d:Nat),ExsAt W A c xs→ExsAt W B d ys →
  Calls Tryz.prog 78 #[.slice A xs.length c,.slice B ys.length d] W fun e w=>e=.returned (.bool true)∧∃q,w=W.drewN q:=by
 intro k
 induction k using Nat.strongRecOn with
 | ind k ih =>
  intro xs ys hk hkm hN W A B c d hX hY
  obtain ⟨hl,hn⟩:=exNs_nth hN
  have hxl:=exSzs_len xs
  rw [←hl]
  have ih:=A0.mk ih
  have hX:=A0.mk hX
  have hY:=A0.mk hY
  have hn:=A0.mk hn
  have hl:=A0.mk hl
  obtain ⟨N,hNl⟩:∃N,A0 (xs.length=N):=⟨_,⟨rfl⟩⟩
  rw [hNl.out] at hxl ⊢
  clear hN
  go_enter Tryz.func78,Tryz.ntmps78
  go_wp2
  go_loopw [5] (fun i X=>∃j q:Nat,i=.int .i64 (j:Int)∧j≤N∧X=W.drewN q) (fun i _=>N - (intOf i).toNat)
  case atStart=>exact ⟨0,0,rfl,Nat.zero_le _,rfl⟩
  case round =>
   obtain ⟨j,q,rfl,hj,rfl⟩:=hrel
   by_cases hjN:j<N
   ·obtain ⟨x,hx⟩:∃x,xs[j]?=some x:=⟨xs[j]'(by rw [hNl.out];exact hjN),List.getElem?_eq_getElem _⟩
    obtain ⟨y,hy⟩:∃y,ys[j]?=some y:=⟨ys[j]'(by rw [←hl.out,hNl.out];exact hjN),List.getElem?_eq_getElem _⟩
    have he:=hn.out j x y hx hy
    have hsz:=exSzs_nth hx
    obtain ⟨op,num,name,args,pos⟩:=x
    obtain ⟨op2,num2,name2,args2,pos2⟩:=y
    rw [exN_mk,exN_mk] at he
    injection he with e1 e2 e3 e4 _
    subst e1
    subst e2
    subst e3
    rw [exSz_mk] at hsz
    obtain ⟨a,A2,c2,rfl,a0,a1,a2,a3,hX2⟩:=hX.out.at hx
    obtain ⟨b,B2,d2,rfl,b0,b1,b2,b3,hY2⟩:=hY.out.at hy
    have CN:∀n,Calls Tryz.prog 78 #[.slice A2 args.length c2,.slice B2 args2.length d2] (W.drewN (q+n)) fun e w=>e=.returned (.bool true)∧∃m,w=W.drewN (q+m):=fun n =>
     (ih.out (exSzs args) (by omega) args args2 (Nat.le_refl _) (by omega) e4 (W.drewN (q+n)) A2 B2 c2 d2 (hX2.drewN _) (hY2.drewN _)).mono fun e w ⟨he,m,hm⟩=>⟨he,n+m,by rw [hm,World.drewN_drewN,Nat.add_assoc]⟩
    have d0:decide ((j:Int)<(N:Int))=true:=decide_eq_true (by omega)
    have k0:(0:Int)≤(j:Int):=by omega
    have k1:(j:Int)<(N:Int):=by omega
    have wk:wrap64 ((j:Int)+1)=((j+1:Nat):Int):=by rw [IntWalk.wrap64_in _ (by omega)];rfl
    have wk:=A0.mk wk
    clear hx hy hX2 hY2 hsz e4
    have CN:=A0.mk CN
    have hk:=A0.mk hk
    have hkm:=A0.mk hkm
    go_wp2
    go_quiet (first|(go_at_call 78;exact CN.out _))
    go_wp2
    go_round
    case rel=>exact ⟨j+1,_,by (try rw [wk.out]);rfl,hjN,rfl⟩
    case measure=>(try rw [wk.out]);simp [intOf];omega
   ·obtain rfl:j=N:=by omega
    have d0:decide ((j:Int)<(j:Int))=false:=decide_eq_false (by omega)
    go_wp2
    go_ret
    exact ⟨rfl,q,rfl⟩
end Go.Proofs.YtgaoapnaplgaiaaGreatDoor.Sc
