/- This claim's own texts, joined, with only what the claim uses: ParI. -/
import Derived.Test.YtgaoapnaplgaiaaGreatDoorZs10
import Derived.Laws.AppendOwn
namespace Go.Proofs.YtgaoapnaplgaiaaGreatDoor.Sc
set_option maxRecDepth 100000
open Go.RowKit Tk Go.Proofs.YtgaoapnaplgaiaaGreatDoor.Wd
def All2 {α β:Type} (R:α→β→Prop):List α→List β→Prop
 | [],[]=>True
 | x :: xs,y :: ys=>R x y∧All2 R xs ys
 | _,_=>False
theorem All2.snoc {α β:Type} {R:α→β→Prop} {x:α} {y:β} (h:R x y):∀{xs:List α} {ys:List β},All2 R xs ys→All2 R (xs++[x]) (ys++[y])
 | [],[],_=>⟨h,trivial⟩
 | _ :: _,_ :: _,k=>⟨k.1,All2.snoc h k.2⟩
theorem All2.imp {α β:Type} {R S:α→β→Prop} (h:∀x y,R x y→S x y):∀{xs:List α} {ys:List β},All2 R xs ys→All2 S xs ys
 | [],[],_=>trivial
 | _ :: _,_ :: _,k=>⟨h _ _ k.1,All2.imp h k.2⟩
abbrev Rel (α:Type):=(Nat→Prop)→World→α→List Value→Prop
def Keeps {α:Type} (R:Rel α):Prop:=∀{P Q:Nat→Prop} {W W':World} {x:α} {v:List Value},R P W x v→(∀b,P b→Q b)→(∀b,P b→b<W.heap.size→W'.heap[b]?=W.heap[b]?)→R Q W' x v
structure Far (lo:Nat) (W W':World):Prop where
 size:W.heap.size≤W'.heap.size
 block:∀b,lo≤b→b<W.heap.size→W'.heap[b]?=W.heap[b]?
theorem Far.refl (lo:Nat) (W:World):Far lo W W:=⟨Nat.le_refl _,fun _ _ _=>rfl⟩
theorem Far.trans {lo:Nat} {A B C:World} (h:Far lo A B) (k:Far lo B C):Far lo A C :=
 ⟨Nat.le_trans h.size k.size,fun b hb hl=>(k.block b hb (Nat.lt_of_lt_of_le hl h.size)).trans (h.block b hb hl)⟩
theorem Far.ofGrown {lo g:Nat} {A B:World} (h:A.grownBy B (some g)) (hg:g<lo):Far lo A B :=
 ⟨h.size,fun b hb hl=>h.block b hl (fun e=>by have:=Option.some.inj e;omega)⟩
theorem Far.alloc {lo:Nat} {A B:World} (h:Far lo A B) (o:Obj):Far lo A (B.alloc o) :=
 ⟨Nat.le_trans h.size (by simp),fun b hb hl=>(_root_.Go.heap_alloc_old B o (Nat.lt_of_lt_of_le hl h.size)).trans (h.block b hb hl)⟩
theorem Far.drewN {lo:Nat} {A B:World} (h:Far lo A B) (q:Nat):Far lo A (B.drewN q):=⟨h.size,h.block⟩
theorem Far.drew {lo:Nat} {A B:World} (h:Far lo A B):Far lo A B.drew:=⟨h.size,h.block⟩
theorem Far.put {lo:Nat} {A B:World} (h:Far lo A B) {p:Addr} (hp:p.block<lo) (v:Value):Far lo A (B.setCell p v) :=
 ⟨by simpa [World.setCell] using h.size,fun b hb hl=>(Below.heap_setCell B p v b (by omega)).trans (h.block b hb hl)⟩
theorem Far.mono {lo lo':Nat} {A B:World} (h:Far lo A B) (hl:lo≤lo'):Far lo' A B:=⟨h.size,fun b hb hk=>h.block b (Nat.le_trans hl hb) hk⟩
structure Acc {α:Type} (R:Rel α) (ty:TypeId) (size lo:Nat) (W:World) (v:Value) (xs:List α):Prop where
 ex:∃vs:List (List Value),W.ownsRow lo ty size v xs.length vs.flatten∧All2 (R (fun b=>lo≤b∧v.ownBlock≠some b) W) xs vs
section
variable {α:Type} {R:Rel α} {ty:TypeId} {size lo:Nat} {W W':World} {v:Value} {xs:List α}
theorem Acc.nil (W:World):Acc R ty size lo W (.slice none 0 0) []:=⟨[],by simpa using World.ownsRow_nil W lo ty size,trivial⟩
theorem Acc.far (hK:Keeps R) (h:Acc R ty size lo W v xs) (hf:Far lo W W'):Acc R ty size lo W' v xs:=by
 obtain ⟨vs,hown,hall⟩:=h.ex
 refine ⟨vs,⟨hown.1,?_⟩,hall.imp fun x y hr=>hK hr (fun _ hb=>hb) fun b hb hl=>hf.block b hb.1 hl⟩
 rcases hown.2 with hn | ⟨g,cap,cur,rfl,hb,hgg,rest⟩
 ·exact .inl hn
 ·exact .inr ⟨g,cap,cur,rfl,hb,(hf.block g hb (Array.getElem?_eq_some_iff.1 hgg).1).trans hgg,rest⟩
theorem Acc.shape (h:Acc R ty size lo W v xs):∃A cap,v=.slice A xs.length cap∧xs.length≤cap:=by
 obtain ⟨vs,hown,_⟩:=h.ex
 rcases hown.2 with ⟨rfl,h0⟩|⟨g,cap,cur,rfl,hb,hgg,hl,_⟩
 ·exact ⟨none,0,by rw [h0],by omega⟩
 ·exact ⟨_,cap,rfl,hl⟩
theorem Acc.lt (h:Acc R ty size lo W v xs):∀k,v.ownBlock=some k→lo≤k∧k<W.heap.size:=by
 obtain ⟨vs,hown,_⟩:=h.ex
 exact hown.lt
theorem Acc.lit (hK:Keeps R) {lo:Nat} {W:World} {xs:List α} {vs:List (List Value)} (cs:Array Value) (hall:All2 (R (fun b=>lo≤b) W) xs vs) (hcs:cs.toList=vs.flatten) (hlen:vs.flatten.length=xs.length * size)
  (hlo:lo≤W.heap.size) (hm:xs.length≤maxLen) (hlt:∀{P:Nat→Prop} {x:α} {v:List Value},R P W x v→R (fun b=>P b∧b<W.heap.size) W x v):Acc R ty size lo (W.alloc (.cells cs ty)) (.slice (some ⟨W.heap.size,0,none⟩) xs.length xs.length) xs:=by
 refine ⟨vs,⟨hlen,.inr ⟨W.heap.size,xs.length,cs,rfl,hlo,heap_alloc_new W _,Nat.le_refl _,hm,by rw [←hlen,←hcs];simp,?_⟩⟩,hall.imp fun x y hr=>hK (hlt hr) (fun b hb=>⟨hb.1,?_⟩) fun b hb hl=>_root_.Go.heap_alloc_old W _ hl⟩
 ·rw [hcs,←hlen];exact List.take_length
 ·have h2:=hb.2
  intro e
  have:W.heap.size=b:=Option.some.inj e
  omega
end
theorem run_append_where {P:Program} (w:World) (base:Nat) (t ty e:TypeId) (i:TypeInfo) (z:Value) (size bytes:Nat) (ht:P.underlying t=some (.slice e)) (hi:P.info? e=some i) (hz:i.zero=some z)
  (hsize:i.size=size) (hby:i.bytes=bytes)
  (v:Value) (n:Nat) (xs:List Value) (hown:w.ownsRow base e size v n xs)
  (a:Addr) (m c:Nat) (hm:0<m) (news:List Value) (hl:news.length=m * size) (hnews:∀j u,news[j]?=some u→w.cell? (a.add j)=some u) (h1:∀u ∈ news,u.oneCell'=true)
  (h63:n+m≤maxLen) (hbytes:(n+m) * bytes≤140737488355328) (v':Value) (w':World) (hr:(Builtin.append_ #[t,t] ty #[v,.slice (some a) m c]).run P w=.ok v' w') :
  v'.ownBlock=v.ownBlock∨v'.ownBlock=some w.heap.size:=by
 subst hsize
 subst hby
 have hsmall:n+m≤9223372036854775807:=by simp only [maxLen] at h63;omega
 rcases hown.2 with ⟨rfl,rfl⟩|⟨g,cap,cur,rfl,hbg,hg,hnc,hcm,hcs,htake⟩
 ·have h:=run_append_nil (P:=P) w t ty e i z ht hi hz a m c news hl hnews hm (by omega) (by have hb:=hbytes;simp only [Nat.zero_add] at hb;omega)
  rw [h] at hr
  cases hr
  exact .inr rfl
 ·by_cases hroom:n+m≤cap
  ·have hfit:n * i.size+news.length≤cur.size:=by rw [hl,hcs,←Nat.add_mul];exact Nat.mul_le_mul_right _ hroom
   have h:=run_append_room (P:=P) w t ty e i ht hi g n cap cur hg a m c news hl hnews h1 hroom hfit
   rw [h] at hr
   cases hr
   exact .inl rfl
  ·have holds:∀j u,xs[j]?=some u→w.cell? ((⟨g,0,none⟩:Addr).add j)=some u:=hown.cells (g:=g) rfl
   have h:=run_append_grow (P:=P) w t ty e i z ht hi hz ⟨g,0,none⟩ n cap xs hown.1 holds a m c news hl hnews (by omega) (by omega) (growslice_fits (by omega) hbytes)
   rw [h] at hr
   cases hr
   exact .inr rfl
theorem wp_append_acc2 {α:Type} {R:Rel α} (hK:Keeps R) {P:Program} {w:World} {o:Oper} {a:Act} {K:Act→World→Prop} {Q:Exit→Act→World→Prop} (s x:Operand) (t:TypeId)
  (ho:o.op=.call { callee:=.builtin .append,args:=#[s,x],argTypes:=#[t,t] })
  (lo:Nat) (e:TypeId) (i:TypeInfo) (z:Value) (size bytes:Nat) (ht:P.underlying t=some (.slice e)) (hi:P.info? e=some i) (hz:i.zero=some z)
  (hsize:i.size=size) (hby:i.bytes=bytes) (hzs:z.cells.size=size) (hsz:0<size)
  (v:Value) (xs:List α) (hs:a.eval s=v) (hacc:Acc R e size lo w v xs)
  (ad:Addr) (c:Nat) (y:α) (news:List Value) (hx:a.eval x=.slice (some ad) 1 c) (hl:news.length=size) (hnews:∀j u,news[j]?=some u→w.cell? (ad.add j)=some u) (h1:∀u ∈ news,u.oneCell'=true)
  (hy:R (fun b=>lo≤b∧v.ownBlock≠some b) w y news)
  (hlt:∀{P:Nat→Prop} {x:α} {v:List Value},R P w x v→R (fun b=>P b∧b<w.heap.size) w x v)
  (h63:xs.length+1≤maxLen) (hbytes:(xs.length+1) * bytes≤140737488355328) (hbase:lo≤w.heap.size)
  (h:∀v' w',Acc R e size lo w' v' (xs++[y])→w.grownBy w' v.ownBlock→(v'.ownBlock=v.ownBlock∨v'.ownBlock=some w.heap.size)→K (a.put o.dst v') w'):o.wp P a w K Q:=by
 obtain ⟨vs,hown,hall⟩:=hacc.ex
 obtain ⟨v',w',hr,h2,h3,h4⟩:=run_append_own (P:=P) w lo t o.type e i z size bytes ht hi hz hsize hby hzs hsz v xs.length vs.flatten hown ad 1 c news (by omega) hnews h1 h63 hbytes hbase
 have hwh:=run_append_where (P:=P) w lo t o.type e i z size bytes ht hi hz hsize hby v xs.length vs.flatten hown ad 1 c (by omega) news (by omega) hnews h1 h63 hbytes v' w' hr
 unfold Oper.wp execOp
 simp only [ho,resolve,invoke,builtin,Sem.run_bind,Sem.run_pure,Result.andThen_ok,List.map_toArray,List.map_cons,List.map_nil,hs,hx,hr]
 refine h v' w' ⟨vs++[news],?_,?_⟩ h3 hwh
 ·rw [List.length_append,List.flatten_append]
  simpa using h2
 ·refine (hall.snoc hy).imp fun x y hr=>hK (hlt hr) (fun b hb=>⟨hb.1.1,fun e=>?_⟩) fun b hb hl=>h3.block b hl fun e=>hb.1.2 e.symm
  rcases hwh with hw | hw
  ·exact hb.1.2 (hw ▸ e)
  ·rw [hw] at e
   have:=Option.some.inj e
   have:=hb.2
   omega
theorem wp_append_acc {α:Type} {R:Rel α} (hK:Keeps R) {P:Program} {w:World} {o:Oper} {a:Act} {K:Act→World→Prop} {Q:Exit→Act→World→Prop} (s x:Operand) (t:TypeId)
  (ho:o.op=.call { callee:=.builtin .append,args:=#[s,x],argTypes:=#[t,t] })
  (lo:Nat) (e:TypeId) (i:TypeInfo) (z:Value) (size bytes:Nat) (ht:P.underlying t=some (.slice e)) (hi:P.info? e=some i) (hz:i.zero=some z)
  (hsize:i.size=size) (hby:i.bytes=bytes) (hzs:z.cells.size=size) (hsz:0<size)
  (v:Value) (xs:List α) (hs:a.eval s=v) (hacc:Acc R e size lo w v xs)
  (ad:Addr) (c:Nat) (y:α) (news:List Value) (hx:a.eval x=.slice (some ad) 1 c) (hl:news.length=size) (hnews:∀j u,news[j]?=some u→w.cell? (ad.add j)=some u) (h1:∀u ∈ news,u.oneCell'=true)
  (hy:R (fun b=>lo≤b∧v.ownBlock≠some b) w y news)
  (hlt:∀{P:Nat→Prop} {x:α} {v:List Value},R P w x v→R (fun b=>P b∧b<w.heap.size) w x v)
  (h63:xs.length+1≤maxLen) (hbytes:(xs.length+1) * bytes≤140737488355328) (hbase:lo≤w.heap.size)
  (h:∀v' w',Acc R e size lo w' v' (xs++[y])→w.grownBy w' v.ownBlock→K (a.put o.dst v') w'):o.wp P a w K Q :=
 wp_append_acc2 (R:=R) hK s x t ho lo e i z size bytes ht hi hz hsize hby hzs hsz v xs hs hacc ad c y news hx hl hnews h1 hy hlt h63 hbytes hbase fun v' w' h2 h3 _=>h v' w' h2 h3
theorem wpList_append_acc {α:Type} {R:Rel α} (hK:Keeps R) {P:Program} {w:World} {ops:Array Oper} {rest:List Oper} {o:Oper} {a:Act} {Q:Exit→Act→World→Prop} (hgd:o.guard=none) (s x:Operand) (t:TypeId)
  (ho:o.op=.call { callee:=.builtin .append,args:=#[s,x],argTypes:=#[t,t] })
  (lo:Nat) (e:TypeId) (i:TypeInfo) (z:Value) (size bytes:Nat) (ht:P.underlying t=some (.slice e)) (hi:P.info? e=some i) (hz:i.zero=some z)
  (hsize:i.size=size) (hby:i.bytes=bytes) (hzs:z.cells.size=size) (hsz:0<size)
  (v:Value) (xs:List α) (hs:a.eval s=v) (hacc:Acc R e size lo w v xs)
  (ad:Addr) (c:Nat) (y:α) (news:List Value) (hx:a.eval x=.slice (some ad) 1 c) (hl:news.length=size) (hnews:∀j u,news[j]?=some u→w.cell? (ad.add j)=some u) (h1:∀u ∈ news,u.oneCell'=true)
  (hy:R (fun b=>lo≤b∧v.ownBlock≠some b) w y news)
  (hlt:∀{P:Nat→Prop} {x:α} {v:List Value},R P w x v→R (fun b=>P b∧b<w.heap.size) w x v)
  (h63:xs.length+1≤maxLen) (hbytes:(xs.length+1) * bytes≤140737488355328) (hbase:lo≤w.heap.size)
  (h:∀v' w',Acc R e size lo w' v' (xs++[y])→w.grownBy w' v.ownBlock→wpList P ops Q rest (a.put o.dst v') w'):wpList P ops Q (o :: rest) a w :=
 wpList_plain hgd fun _ hK'=>wp_append_acc (R:=R) hK s x t ho lo e i z size bytes ht hi hz hsize hby hzs hsz v xs hs hacc ad c y news hx hl hnews h1 hy hlt h63 hbytes hbase fun v' w' h2 h3=>hK' _ _ (h v' w' h2 h3)
theorem step_append_acc {α:Type} {R:Rel α} (hK:Keeps R) {P:Program} {w:World} {ops:Array Oper} {o:Oper} {a:Act} {K:Act→World→Prop} {Q:Exit→Act→World→Prop} {E:Prop} (hgd:o.guard=none) (s x:Operand) (t:TypeId)
  (ho:o.op=.call { callee:=.builtin .append,args:=#[s,x],argTypes:=#[t,t] })
  (lo:Nat) (e:TypeId) (i:TypeInfo) (z:Value) (size bytes:Nat) (ht:P.underlying t=some (.slice e)) (hi:P.info? e=some i) (hz:i.zero=some z)
  (hsize:i.size=size) (hby:i.bytes=bytes) (hzs:z.cells.size=size) (hsz:0<size)
  (v:Value) (xs:List α) (hs:a.eval s=v) (hacc:Acc R e size lo w v xs)
  (ad:Addr) (c:Nat) (y:α) (news:List Value) (hx:a.eval x=.slice (some ad) 1 c) (hl:news.length=size) (hnews:∀j u,news[j]?=some u→w.cell? (ad.add j)=some u) (h1:∀u ∈ news,u.oneCell'=true)
  (hy:R (fun b=>lo≤b∧v.ownBlock≠some b) w y news)
  (hlt:∀{P:Nat→Prop} {x:α} {v:List Value},R P w x v→R (fun b=>P b∧b<w.heap.size) w x v)
  (h63:xs.length+1≤maxLen) (hbytes:(xs.length+1) * bytes≤140737488355328) (hbase:lo≤w.heap.size)
  (h:∀v' w',Acc R e size lo w' v' (xs++[y])→w.grownBy w' v.ownBlock→K (a.put o.dst v') w') :
  if Region.wanted o (yielded ops a.tmps)=true then Oper.wp P o a w K Q else E:=by
 have hw:Region.wanted o (yielded ops a.tmps)=true:=by simp [Region.wanted,hgd]
 rw [if_pos hw]
 exact wp_append_acc (R:=R) hK s x t ho lo e i z size bytes ht hi hz hsize hby hzs hsz v xs hs hacc ad c y news hx hl hnews h1 hy hlt h63 hbytes hbase h
theorem step_append_acc2 {α:Type} {R:Rel α} (hK:Keeps R) {P:Program} {w:World} {ops:Array Oper} {o:Oper} {a:Act} {K:Act→World→Prop} {Q:Exit→Act→World→Prop} {E:Prop} (hgd:o.guard=none) (s x:Operand) (t:TypeId)
  (ho:o.op=.call { callee:=.builtin .append,args:=#[s,x],argTypes:=#[t,t] })
  (lo:Nat) (e:TypeId) (i:TypeInfo) (z:Value) (size bytes:Nat) (ht:P.underlying t=some (.slice e)) (hi:P.info? e=some i) (hz:i.zero=some z)
  (hsize:i.size=size) (hby:i.bytes=bytes) (hzs:z.cells.size=size) (hsz:0<size)
  (v:Value) (xs:List α) (hs:a.eval s=v) (hacc:Acc R e size lo w v xs)
  (ad:Addr) (c:Nat) (y:α) (news:List Value) (hx:a.eval x=.slice (some ad) 1 c) (hl:news.length=size) (hnews:∀j u,news[j]?=some u→w.cell? (ad.add j)=some u) (h1:∀u ∈ news,u.oneCell'=true)
  (hy:R (fun b=>lo≤b∧v.ownBlock≠some b) w y news)
  (hlt:∀{P:Nat→Prop} {x:α} {v:List Value},R P w x v→R (fun b=>P b∧b<w.heap.size) w x v)
  (h63:xs.length+1≤maxLen) (hbytes:(xs.length+1) * bytes≤140737488355328) (hbase:lo≤w.heap.size)
  (h:∀v' w',Acc R e size lo w' v' (xs++[y])→w.grownBy w' v.ownBlock→(v'.ownBlock=v.ownBlock∨v'.ownBlock=some w.heap.size)→K (a.put o.dst v') w') :
  if Region.wanted o (yielded ops a.tmps)=true then Oper.wp P o a w K Q else E:=by
 have hw:Region.wanted o (yielded ops a.tmps)=true:=by simp [Region.wanted,hgd]
 rw [if_pos hw]
 exact wp_append_acc2 (R:=R) hK s x t ho lo e i z size bytes ht hi hz hsize hby hzs hsz v xs hs hacc ad c y news hx hl hnews h1 hy hlt h63 hbytes hbase h
def Row (P:Nat→Prop) (W:World) (A:Option Addr) (xs:List Value):Prop:=∀i u,xs[i]?=some u→∃b,A=some b∧P b.block∧W.cell? (b.add i)=some u
theorem add_block (b:Addr) (i:Nat):(b.add i).block=b.block:=by unfold Addr.add;split <;> rfl
theorem Row.keep {P Q:Nat→Prop} {W W':World} {A:Option Addr} {xs:List Value} (h:Row P W A xs) (hq:∀b,P b→Q b) (hk:∀b,P b→b<W.heap.size→W'.heap[b]?=W.heap[b]?):Row Q W' A xs:=by
 intro i u hu
 obtain ⟨b,e,hp,hc⟩:=h i u hu
 refine ⟨b,e,hq _ hp,(World.cell?_of_block (hk _ (by rw [add_block];exact hp) (World.block_lt_of_cell? W _ hc))).trans hc⟩
theorem Row.lt {P:Nat→Prop} {W:World} {A:Option Addr} {xs:List Value} (h:Row P W A xs):Row (fun b=>P b∧b<W.heap.size) W A xs:=by
 intro i u hu
 obtain ⟨b,e,hp,hc⟩:=h i u hu
 exact ⟨b,e,⟨hp,by have:=World.block_lt_of_cell? W _ hc;rwa [add_block] at this⟩,hc⟩
theorem Row.own {W:World} {base:Nat} {e:TypeId} {size n cap:Nat} {A:Option Addr} {xs:List Value} (h:W.ownsRow base e size (.slice A n cap) n xs):Row (fun b=>base≤b) W A xs:=by
 intro i u hu
 rcases h.2 with ⟨h0,h1⟩|⟨g,cap',cur,h0,hb,hgg,_⟩
 ·have:xs=[]:=List.eq_nil_of_length_eq_zero (by rw [h.1,h1];simp)
  rw [this] at hu
  cases hu
 ·cases h0
  exact ⟨_,rfl,hb,h.cells (g:=g) rfl i u hu⟩
inductive Ex where
 | mk (op num:Int) (name:ByteArray) (args:List Ex) (pos:Int)
abbrev eC (op num:Int) (name:ByteArray) (A:Option Addr) (n cap:Nat) (pos:Int):List Value:=[.int .i64 op,.int .i64 num,.string name,.slice A n cap,.int .i64 pos]
mutual
def RepE (P:Nat→Prop) (W:World):Ex→List Value→Prop
 | .mk op num name args pos,v=>∃A cap vs,v=eC op num name A args.length cap pos∧args.length≤cap∧Row P W A vs.flatten∧RepEs P W args vs
def RepEs (P:Nat→Prop) (W:World):List Ex→List (List Value)→Prop
 | [],vs=>vs=[]
 | x :: xs,vs=>∃v vs',vs=v :: vs'∧RepE P W x v∧RepEs P W xs vs'
end
theorem repEs_iff {P:Nat→Prop} {W:World}:∀{xs:List Ex} {vs:List (List Value)},RepEs P W xs vs ↔ All2 (RepE P W) xs vs
 | [],[]=>by simp [RepEs,All2]
 | [],_ :: _=>by simp [RepEs,All2]
 | _ :: _,[]=>by simp [RepEs,All2]
 | _ :: xs,_ :: vs=>by
  rw [RepEs,All2,←repEs_iff]
  constructor
  ·rintro ⟨v,vs',e,h⟩;cases e;exact h
  ·intro h;exact ⟨_,_,rfl,h⟩
mutual
theorem RepE.keep {P Q:Nat→Prop} {W W':World} (hq:∀b,P b→Q b) (hk:∀b,P b→b<W.heap.size→W'.heap[b]?=W.heap[b]?):∀(x:Ex) (v:List Value),RepE P W x v→RepE Q W' x v
 | .mk op num name args pos,v,h=>by
  rw [RepE] at h ⊢
  obtain ⟨A,cap,vs,e,hl,hr,hs⟩:=h
  exact ⟨A,cap,vs,e,hl,hr.keep hq hk,RepEs.keep hq hk args vs hs⟩
theorem RepEs.keep {P Q:Nat→Prop} {W W':World} (hq:∀b,P b→Q b) (hk:∀b,P b→b<W.heap.size→W'.heap[b]?=W.heap[b]?):∀(xs:List Ex) (vs:List (List Value)),RepEs P W xs vs→RepEs Q W' xs vs
 | [],vs,h=>by rw [RepEs] at h ⊢;exact h
 | x :: xs,vs,h=>by
  rw [RepEs] at h ⊢
  obtain ⟨v,vs',e,h1,h2⟩:=h
  exact ⟨v,vs',e,RepE.keep hq hk x v h1,RepEs.keep hq hk xs vs' h2⟩
end
theorem repE_keeps:Keeps RepE:=fun h hq hk=>RepE.keep hq hk _ _ h
mutual
theorem RepE.lt {P:Nat→Prop} {W:World}:∀(x:Ex) (v:List Value),RepE P W x v→RepE (fun b=>P b∧b<W.heap.size) W x v
 | .mk op num name args pos,v,h=>by
  rw [RepE] at h ⊢
  obtain ⟨A,cap,vs,e,hl,hr,hs⟩:=h
  exact ⟨A,cap,vs,e,hl,hr.lt,RepEs.lt args vs hs⟩
theorem RepEs.lt {P:Nat→Prop} {W:World}:∀(xs:List Ex) (vs:List (List Value)),RepEs P W xs vs→RepEs (fun b=>P b∧b<W.heap.size) W xs vs
 | [],vs,h=>by rw [RepEs] at h ⊢;exact h
 | x :: xs,vs,h=>by
  rw [RepEs] at h ⊢
  obtain ⟨v,vs',e,h1,h2⟩:=h
  exact ⟨v,vs',e,RepE.lt x v h1,RepEs.lt xs vs' h2⟩
end
theorem RepE.far {lo lo':Nat} {W W':World} {x:Ex} {v:List Value} (h:RepE (fun b=>lo≤b) W x v) (hf:Far lo W W') (hl:lo'≤lo):RepE (fun b=>lo'≤b) W' x v :=
 h.keep (fun _ hb=>Nat.le_trans hl hb) (fun b hb hk=>hf.block b hb hk)
theorem Acc.expr {lo:Nat} {W:World} {A:Option Addr} {n cap:Nat} {xs:List Ex} (h:Acc RepE 93 5 lo W (.slice A n cap) xs) (op num:Int) (name:ByteArray) (pos:Int):RepE (fun b=>lo≤b) W (.mk op num name xs pos) (eC op num name A n cap pos):=by
 obtain ⟨vs,hown,hall⟩:=h.ex
 obtain ⟨A',cap',e,hc⟩:=h.shape
 cases e
 rw [RepE]
 exact ⟨A,cap,vs,rfl,hc,Row.own hown,repEs_iff.2 (hall.imp fun x y hr=>repE_keeps hr (fun _ hb=>hb.1) fun _ _ _=>rfl)⟩
abbrev repE (lo:Nat):World→Value→Ex→Prop:=fun W v x=>∃op num name A n cap pos,v=.agg #[.int .i64 op,.int .i64 num,.string name,.slice A n cap,.int .i64 pos]∧RepE (fun b=>lo≤b) W x (eC op num name A n cap pos)
inductive Stm where
 | mk (op:Int) (name read:ByteArray) (args:List Ex) (blocks:List (List Stm)) (cases:List Con) (pos:Int)
abbrev conCells (x:Con):List Value:=[.string x.1,.int .i64 x.2.1,.int .i64 x.2.2]
abbrev stCells (op:Int) (name read:ByteArray) (A1:Option Addr) (n1 c1:Nat) (A2:Option Addr) (n2 c2:Nat) (A3:Option Addr) (n3 c3:Nat) (pos:Int):List Value :=
 [.int .i64 op,.string name,.string read,.slice A1 n1 c1,.slice A2 n2 c2,.slice A3 n3 c3,.int .i64 pos]
mutual
def RepS (P:Nat→Prop) (W:World):Stm→List Value→Prop
 | .mk op name read args blocks cases pos,v=>∃A1 c1 v1 A2 c2 v3 A3 c3,v=stCells op name read A1 args.length c1 A2 blocks.length c2 A3 cases.length c3 pos∧args.length≤c1∧blocks.length≤c2∧cases.length≤c3 ∧
  Row P W A1 v1.flatten∧RepEs P W args v1∧Row P W A2 v3.flatten∧RepBs P W blocks v3∧Row P W A3 (cases.map conCells).flatten
def RepBs (P:Nat→Prop) (W:World):List (List Stm)→List (List Value)→Prop
 | [],vs=>vs=[]
 | b :: bs,vs=>∃A cap us vs',vs=[.slice A b.length cap] :: vs'∧b.length≤cap∧Row P W A us.flatten∧RepSs P W b us∧RepBs P W bs vs'
def RepSs (P:Nat→Prop) (W:World):List Stm→List (List Value)→Prop
 | [],vs=>vs=[]
 | x :: xs,vs=>∃v vs',vs=v :: vs'∧RepS P W x v∧RepSs P W xs vs'
end
def RepB (P:Nat→Prop) (W:World) (b:List Stm) (v:List Value):Prop:=∃A cap us,v=[.slice A b.length cap]∧b.length≤cap∧Row P W A us.flatten∧RepSs P W b us
theorem repSs_iff {P:Nat→Prop} {W:World}:∀{xs:List Stm} {vs:List (List Value)},RepSs P W xs vs ↔ All2 (RepS P W) xs vs
 | [],[]=>by simp [RepSs,All2]
 | [],_ :: _=>by simp [RepSs,All2]
 | _ :: _,[]=>by simp [RepSs,All2]
 | _ :: xs,_ :: vs=>by
  rw [RepSs,All2,←repSs_iff]
  constructor
  ·rintro ⟨v,vs',e,h⟩;cases e;exact h
  ·intro h;exact ⟨_,_,rfl,h⟩
theorem repBs_iff {P:Nat→Prop} {W:World}:∀{xs:List (List Stm)} {vs:List (List Value)},RepBs P W xs vs ↔ All2 (RepB P W) xs vs
 | [],[]=>by simp [RepBs,All2]
 | [],_ :: _=>by simp [RepBs,All2]
 | _ :: _,[]=>by simp [RepBs,All2]
 | _ :: xs,_ :: vs=>by
  rw [RepBs,All2,←repBs_iff]
  constructor
  ·rintro ⟨A,cap,us,vs',e,h1,h2,h3,h4⟩;cases e;exact ⟨⟨A,cap,us,rfl,h1,h2,h3⟩,h4⟩
  ·rintro ⟨⟨A,cap,us,e,h1,h2,h3⟩,h4⟩;rw [e];exact ⟨A,cap,us,vs,rfl,h1,h2,h3,h4⟩
mutual
theorem RepS.keep {P Q:Nat→Prop} {W W':World} (hq:∀b,P b→Q b) (hk:∀b,P b→b<W.heap.size→W'.heap[b]?=W.heap[b]?):∀(x:Stm) (v:List Value),RepS P W x v→RepS Q W' x v
 | .mk op name read args blocks cases pos,v,h=>by
  rw [RepS] at h ⊢
  obtain ⟨A1,c1,v1,A2,c2,v3,A3,c3,e,h1,h2,h3,r1,q1,r2,q2,r3⟩:=h
  exact ⟨A1,c1,v1,A2,c2,v3,A3,c3,e,h1,h2,h3,r1.keep hq hk,RepEs.keep hq hk _ _ q1,r2.keep hq hk,RepBs.keep hq hk blocks v3 q2,r3.keep hq hk⟩
theorem RepBs.keep {P Q:Nat→Prop} {W W':World} (hq:∀b,P b→Q b) (hk:∀b,P b→b<W.heap.size→W'.heap[b]?=W.heap[b]?):∀(xs:List (List Stm)) (vs:List (List Value)),RepBs P W xs vs→RepBs Q W' xs vs
 | [],vs,h=>by rw [RepBs] at h ⊢;exact h
 | b :: bs,vs,h=>by
  rw [RepBs] at h ⊢
  obtain ⟨A,cap,us,vs',e,h1,h2,h3,h4⟩:=h
  exact ⟨A,cap,us,vs',e,h1,h2.keep hq hk,RepSs.keep hq hk b us h3,RepBs.keep hq hk bs vs' h4⟩
theorem RepSs.keep {P Q:Nat→Prop} {W W':World} (hq:∀b,P b→Q b) (hk:∀b,P b→b<W.heap.size→W'.heap[b]?=W.heap[b]?):∀(xs:List Stm) (vs:List (List Value)),RepSs P W xs vs→RepSs Q W' xs vs
 | [],vs,h=>by rw [RepSs] at h ⊢;exact h
 | x :: xs,vs,h=>by
  rw [RepSs] at h ⊢
  obtain ⟨v,vs',e,h1,h2⟩:=h
  exact ⟨v,vs',e,RepS.keep hq hk x v h1,RepSs.keep hq hk xs vs' h2⟩
end
theorem repS_keeps:Keeps RepS:=fun h hq hk=>RepS.keep hq hk _ _ h
theorem rK:Keeps RepB:=by
 rintro P Q W W' x v ⟨A,cap,us,e,h1,h2,h3⟩ hq hk
 exact ⟨A,cap,us,e,h1,h2.keep hq hk,RepSs.keep hq hk _ _ h3⟩
mutual
theorem RepS.lt {P:Nat→Prop} {W:World}:∀(x:Stm) (v:List Value),RepS P W x v→RepS (fun b=>P b∧b<W.heap.size) W x v
 | .mk op name read args blocks cases pos,v,h=>by
  rw [RepS] at h ⊢
  obtain ⟨A1,c1,v1,A2,c2,v3,A3,c3,e,h1,h2,h3,r1,q1,r2,q2,r3⟩:=h
  exact ⟨A1,c1,v1,A2,c2,v3,A3,c3,e,h1,h2,h3,r1.lt,RepEs.lt _ _ q1,r2.lt,RepBs.lt blocks v3 q2,r3.lt⟩
theorem RepBs.lt {P:Nat→Prop} {W:World}:∀(xs:List (List Stm)) (vs:List (List Value)),RepBs P W xs vs→RepBs (fun b=>P b∧b<W.heap.size) W xs vs
 | [],vs,h=>by rw [RepBs] at h ⊢;exact h
 | b :: bs,vs,h=>by
  rw [RepBs] at h ⊢
  obtain ⟨A,cap,us,vs',e,h1,h2,h3,h4⟩:=h
  exact ⟨A,cap,us,vs',e,h1,h2.lt,RepSs.lt b us h3,RepBs.lt bs vs' h4⟩
theorem RepSs.lt {P:Nat→Prop} {W:World}:∀(xs:List Stm) (vs:List (List Value)),RepSs P W xs vs→RepSs (fun b=>P b∧b<W.heap.size) W xs vs
 | [],vs,h=>by rw [RepSs] at h ⊢;exact h
 | x :: xs,vs,h=>by
  rw [RepSs] at h ⊢
  obtain ⟨v,vs',e,h1,h2⟩:=h
  exact ⟨v,vs',e,RepS.lt x v h1,RepSs.lt xs vs' h2⟩
end
theorem RepB.lt {P:Nat→Prop} {W:World} (x:List Stm) (v:List Value) (h:RepB P W x v):RepB (fun b=>P b∧b<W.heap.size) W x v:=by
 obtain ⟨A,cap,us,e,h1,h2,h3⟩:=h
 exact ⟨A,cap,us,e,h1,h2.lt,RepSs.lt _ _ h3⟩
def RepC (_:Nat→Prop) (_:World) (x:Con) (v:List Value):Prop:=v=conCells x
theorem repC_keeps:Keeps RepC:=fun h _ _=>h
end Go.Proofs.YtgaoapnaplgaiaaGreatDoor.Sc
