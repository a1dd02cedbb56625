/- This claim's own texts, joined, with only what the claim uses: ParZ, ParZa, ParZc, ScanQ. -/
import Derived.Test.YtgaoapnaplgaiaaGreatDoorZs21
import Derived.Test.YtgaoapnaplgaiaaGreatDoorZs8
import Derived.Deep.RegionHeld3
namespace Go.Proofs.YtgaoapnaplgaiaaGreatDoor.Sc
set_option maxRecDepth 100000
open Go.RowKit Tk Go.Proofs.YtgaoapnaplgaiaaGreatDoor.Wd
theorem wp_append_prim {α:Type} {R:Rel α} (hK:Keeps R) {P:Program} {w:World} {o:Oper} {a:Act} {K:Act→World→Prop} {Q:Exit→Act→World→Prop} (s x:Operand) (t:TypeId)
  (ho:o.op=.call { callee:=.builtin .append,args:=#[s,x],argTypes:=#[t,t] })
  (lo:Nat) (e:TypeId) (i:TypeInfo) (z:Value) (size bytes:Nat) (ht:P.underlying t=some (.slice e)) (hi:P.info? e=some i) (hz:i.zero=some z)
  (hsize:i.size=size) (hby:i.bytes=bytes) (hzs:z.cells.size=size) (hsz:0<size)
  (v:Value) (xs:List α) (vs:List (List Value)) (hs:a.eval s=v) (P0:Nat→Prop) (hown:w.ownsRow lo e size v xs.length vs.flatten) (hall:All2 (R P0 w) xs vs) (hP0:∀b,P0 b→v.ownBlock≠some b)
  (ad:Addr) (c:Nat) (y:α) (news:List Value) (hx:a.eval x=.slice (some ad) 1 c) (hl:news.length=size) (hnews:∀j u,news[j]?=some u→w.cell? (ad.add j)=some u) (h1:∀u ∈ news,u.oneCell'=true)
  (hy:R P0 w y news) (h63:xs.length+1≤maxLen) (hbytes:(xs.length+1) * bytes≤140737488355328) (hbase:lo≤w.heap.size)
  (h:∀v' w',w'.ownsRow lo e size v' (xs++[y]).length (vs++[news]).flatten→All2 (R P0 w') (xs++[y]) (vs++[news])→w.grownBy w' v.ownBlock→(v'.ownBlock=v.ownBlock∨v'.ownBlock=some w.heap.size)→K (a.put o.dst v') w'):o.wp P a w K Q:=by
 obtain ⟨v',w',hr,h2,h3,h4⟩:=run_append_own (P:=P) w lo t o.type e i z size bytes ht hi hz hsize hby hzs hsz v xs.length vs.flatten hown ad 1 c news (by omega) hnews h1 h63 hbytes hbase
 have hwh:=run_append_where (P:=P) w lo t o.type e i z size bytes ht hi hz hsize hby v xs.length vs.flatten hown ad 1 c (by omega) news (by omega) hnews h1 h63 hbytes v' w' hr
 unfold Oper.wp execOp
 simp only [ho,resolve,invoke,builtin,Sem.run_bind,Sem.run_pure,Result.andThen_ok,List.map_toArray,List.map_cons,List.map_nil,hs,hx,hr]
 refine h v' w' ?_ ((hall.snoc hy).imp fun x y hr=>hK hr (fun _ hb=>hb) fun b hb hl=>h3.block b hl fun e=>hP0 b hb e.symm) h3 hwh
 rw [List.length_append,List.flatten_append]
 simpa using h2
theorem wpList_append_prim {α:Type} {R:Rel α} (hK:Keeps R) {P:Program} {w:World} {ops:Array Oper} {rest:List Oper} {o:Oper} {a:Act} {Q:Exit→Act→World→Prop} (hgd:o.guard=none) (s x:Operand) (t:TypeId)
  (ho:o.op=.call { callee:=.builtin .append,args:=#[s,x],argTypes:=#[t,t] })
  (lo:Nat) (e:TypeId) (i:TypeInfo) (z:Value) (size bytes:Nat) (ht:P.underlying t=some (.slice e)) (hi:P.info? e=some i) (hz:i.zero=some z)
  (hsize:i.size=size) (hby:i.bytes=bytes) (hzs:z.cells.size=size) (hsz:0<size)
  (v:Value) (xs:List α) (vs:List (List Value)) (hs:a.eval s=v) (P0:Nat→Prop) (hown:w.ownsRow lo e size v xs.length vs.flatten) (hall:All2 (R P0 w) xs vs) (hP0:∀b,P0 b→v.ownBlock≠some b)
  (ad:Addr) (c:Nat) (y:α) (news:List Value) (hx:a.eval x=.slice (some ad) 1 c) (hl:news.length=size) (hnews:∀j u,news[j]?=some u→w.cell? (ad.add j)=some u) (h1:∀u ∈ news,u.oneCell'=true)
  (hy:R P0 w y news) (h63:xs.length+1≤maxLen) (hbytes:(xs.length+1) * bytes≤140737488355328) (hbase:lo≤w.heap.size)
  (h:∀v' w',w'.ownsRow lo e size v' (xs++[y]).length (vs++[news]).flatten→All2 (R P0 w') (xs++[y]) (vs++[news])→w.grownBy w' v.ownBlock→(v'.ownBlock=v.ownBlock∨v'.ownBlock=some w.heap.size)→wpList P ops Q rest (a.put o.dst v') w'):wpList P ops Q (o :: rest) a w :=
 wpList_plain hgd fun _ hK'=>wp_append_prim (R:=R) hK s x t ho lo e i z size bytes ht hi hz hsize hby hzs hsz v xs vs hs P0 hown hall hP0 ad c y news hx hl hnews h1 hy h63 hbytes hbase fun v' w' a b c d=>hK' _ _ (h v' w' a b c d)
theorem step_append_full {P:Program} {w:World} {ops:Array Oper} {o:Oper} {a:Act} {K:Act→World→Prop} {Q:Exit→Act→World→Prop} {E:Prop} (hgd:o.guard=none) (s x:Operand) (t:TypeId)
  (ho:o.op=.call { callee:=.builtin .append,args:=#[s,x],argTypes:=#[t,t] })
  (lo:Nat) (e:TypeId) (i:TypeInfo) (z:Value) (size bytes:Nat) (ht:P.underlying t=some (.slice e)) (hi:P.info? e=some i) (hz:i.zero=some z)
  (hsize:i.size=size) (hby:i.bytes=bytes) (hzs:z.cells.size=size) (hsz:0<size)
  (g n:Nat) (xs:List Value) (hs:a.eval s=.slice (some ⟨g,0,none⟩) n n) (hown:w.ownsRow lo e size (.slice (some ⟨g,0,none⟩) n n) n xs)
  (ad:Addr) (c:Nat) (news:List Value) (hx:a.eval x=.slice (some ad) 1 c) (hl:news.length=size) (hnews:∀j u,news[j]?=some u→w.cell? (ad.add j)=some u) (h1:∀u ∈ news,u.oneCell'=true)
  (h63:n+1≤maxLen) (hbytes:(n+1) * bytes≤140737488355328) (hbase:lo≤w.heap.size)
  (h:∀cap w',w'.ownsRow lo e size (.slice (some ⟨w.heap.size,0,none⟩) (n+1) cap) (n+1) (xs++news)→w.grownBy w' none→K (a.put o.dst (.slice (some ⟨w.heap.size,0,none⟩) (n+1) cap)) w') :
  if Region.wanted o (yielded ops a.tmps)=true then Oper.wp P o a w K Q else E:=by
 have hw:Region.wanted o (yielded ops a.tmps)=true:=by simp [Region.wanted,hgd]
 rw [if_pos hw]
 obtain ⟨v',w',hr,h2,h3,h4⟩:=run_append_own (P:=P) w lo t o.type e i z size bytes ht hi hz hsize hby hzs hsz _ n xs hown ad 1 c news (by omega) hnews h1 h63 hbytes hbase
 have holds:∀j u,xs[j]?=some u→w.cell? ((⟨g,0,none⟩:Addr).add j)=some u:=hown.cells (g:=g) rfl
 have hg:=run_append_grow (P:=P) w t o.type e i z ht hi hz ⟨g,0,none⟩ n n xs (by rw [hsize];exact hown.1) holds ad 1 c news (by rw [hsize];omega) hnews (by omega) (by simp only [maxLen] at h63;omega) (growslice_fits (by omega) (by rw [hby];exact hbytes))
 have hr2:=hr
 rw [hg] at hr2
 cases hr2
 unfold Oper.wp execOp
 simp only [ho,resolve,invoke,builtin,Sem.run_bind,Sem.run_pure,Result.andThen_ok,List.map_toArray,List.map_cons,List.map_nil,hs,hx,hr]
 exact h _ _ h2 ⟨rfl,rfl,rfl,by simp,fun k hk _=>_root_.Go.heap_alloc_old w.drew _ hk⟩
def AccP {α:Type} (P:Nat→Prop) (R:Rel α) (ty size lo:Nat) (W:World) (v:Value) (xs:List α):Prop :=
 ∃vs:List (List Value),W.ownsRow lo ty size v xs.length vs.flatten∧(∀k,v.ownBlock=some k→P k)∧All2 (R P W) xs vs
theorem AccP.keep {α:Type} {P Q:Nat→Prop} {R:Rel α} (hK:Keeps R) {ty size lo:Nat} {W W':World} {v:Value} {xs:List α} (h:AccP P R ty size lo W v xs) (hq:∀b,P b→Q b) (hk:∀b,P b→b<W.heap.size→W'.heap[b]?=W.heap[b]?):AccP Q R ty size lo W' v xs:=by
 obtain ⟨vs,ho,hp,ha⟩:=h
 refine ⟨vs,⟨ho.1,?_⟩,fun k e=>hq k (hp k e),ha.imp fun x y hr=>hK hr hq hk⟩
 rcases ho.2 with hn | ⟨g,cap,cur,rfl,hb,hgg,rest⟩
 ·exact .inl hn
 ·exact .inr ⟨g,cap,cur,rfl,hb,(hk g (hp g rfl) (Array.getElem?_eq_some_iff.1 hgg).1).trans hgg,rest⟩
theorem AccP.keepE {P Q:Nat→Prop} {ty size lo:Nat} {W W':World} {v:Value} {xs:List Ex} (h:AccP P RepE ty size lo W v xs) (hq:∀b,P b→Q b) (hk:∀b,P b→b<W.heap.size→W'.heap[b]?=W.heap[b]?):AccP Q RepE ty size lo W' v xs:=AccP.keep (R:=RepE) repE_keeps h hq hk
theorem AccP.keepB {P Q:Nat→Prop} {ty size lo:Nat} {W W':World} {v:Value} {xs:List (List Stm)} (h:AccP P RepB ty size lo W v xs) (hq:∀b,P b→Q b) (hk:∀b,P b→b<W.heap.size→W'.heap[b]?=W.heap[b]?):AccP Q RepB ty size lo W' v xs:=AccP.keep (R:=RepB) rK h hq hk
structure Pd where
 g:Nat
 e:Ex
 b:List Stm
 pos:Int
abbrev ptr (g:Nat):Value:=.pointer (some ⟨g,0,none⟩)
def wrapB:List Pd→Out Stm→Out Stm
 | [],o=>o
 | p :: l,o=>(wrapB l o).bind fun s a d=>.ok (.mk 4 nN nN [p.e] [p.b,[s]] [] p.pos) a d
theorem wrapB_snoc (p:Pd) (o:Out Stm):∀l,wrapB (l++[p]) o=wrapB l (o.bind fun s a d=>.ok (.mk 4 nN nN [p.e] [p.b,[s]] [] p.pos) a d)
 | []=>rfl
 | q :: l=>by
  show (wrapB (l++[p]) o).bind _=_
  rw [wrapB_snoc p o l]
  rfl
theorem wrapB_bad (p er:Int):∀l,wrapB l (.bad p er)=.bad p er
 | []=>rfl
 | q :: l=>by
  show (wrapB l (.bad p er)).bind _=_
  rw [wrapB_bad p er l]
  rfl
def PdAt (P:Nat→Prop) (lo:Nat) (X:World) (p:Pd):Prop :=
 ∃A n1 c1 gb,X.heap[p.g]?=some (.cells (E107 4 nN nN (.slice A n1 c1) (.slice (some ⟨gb,0,none⟩) 1 1) nilv p.pos) 107 (0,0))∧AccP P RepE 93 5 lo X (.slice A n1 c1) [p.e]∧AccP P RepB 25 1 lo X (.slice (some ⟨gb,0,none⟩) 1 1) [p.b]
structure Br (c:Ctx) (W:World) (P:Nat→Prop) (X:World) (v:Value) (pend:List Pd) (tl:List Nat) (a:Nat) (d fp fe:Int):Prop where
 fr:W.grownBy X (some c.g)
 pb:X.heap[c.g]?=some (.cells (c.cells a d fp fe) 56 (0,0))
 rb:X.heap[W.heap.size]?=some (.cells Z107 107 (0,0))
 row:X.ownsRow (W.heap.size+2) 155 1 v (pend.map Pd.g++tl).length ((pend.map Pd.g++tl).map fun g=>[ptr g]).flatten
 pd:∀p ∈ pend,PdAt P (W.heap.size+2) X p
 nd:(pend.map Pd.g++tl).Nodup
 ge:∀g ∈ pend.map Pd.g++tl,W.heap.size+1≤g∧g<X.heap.size∧¬ P g
 pv:∀k,v.ownBlock=some k→¬ P k∧k ∉ pend.map Pd.g++tl
 pl:∀b,P b→W.heap.size+2≤b∧b<X.heap.size
 hd:(pend.map Pd.g++tl).head?=some (W.heap.size+1)
section
variable {c:Ctx} {W X Y:World} {P:Nat→Prop} {v:Value} {pend:List Pd} {tl:List Nat} {a a' a0:Nat} {d d' d0 fp fp' fp0 fe fe' fe0:Int}
theorem Br.st (h:Br c W P X v pend tl a d fp fe) (hG:Good c) (h0:St c W a0 d0 fp0 fe0):St c X a d fp fe:=St.frame hG h0 h.fr h.pb
theorem Br.step (h:Br c W P X v pend tl a d fp fe) (h0:St c W a0 d0 fp0 fe0) (hg:X.grownBy Y (some c.g)) (hp:Y.heap[c.g]?=some (.cells (c.cells a' d' fp' fe') 56 (0,0))):Br c W P Y v pend tl a' d' fp' fe':=by
 have hgl:=bL h0.blk
 have hk:∀b,W.heap.size≤b→b<X.heap.size→Y.heap[b]?=X.heap[b]?:=fun b hb hl=>hg.block b hl fun e=>by have:=Option.some.inj e;omega
 have hkp:∀b,P b→b<X.heap.size→Y.heap[b]?=X.heap[b]?:=fun b hb hl=>hk b (by have:=(h.pl b hb).1;omega) hl
 refine ⟨Q4 h.fr hg,hp,(hk _ (Nat.le_refl _) (bL h.rb)).trans h.rb,oF h.row ⟨hg.size,fun b hb hl=>hk b (by omega) hl⟩,fun p hpm=>?_,h.nd,fun g hm=>⟨(h.ge g hm).1,Nat.lt_of_lt_of_le (h.ge g hm).2.1 hg.size,(h.ge g hm).2.2⟩,h.pv,fun b hb=>⟨(h.pl b hb).1,Nat.lt_of_lt_of_le (h.pl b hb).2 hg.size⟩,h.hd⟩
 obtain ⟨A,n1,c1,gb,q1,q2,q3⟩:=h.pd p hpm
 have hm:p.g ∈ pend.map Pd.g++tl:=List.mem_append_left _ (List.mem_map_of_mem hpm)
 exact ⟨A,n1,c1,gb,(hk _ (by have:=(h.ge _ hm).1;omega) (bL q1)).trans q1,q2.keepE (fun _ hb=>hb) hkp,q3.keepB (fun _ hb=>hb) hkp⟩
theorem Br.drewN (h:Br c W P X v pend tl a d fp fe) (h0:St c W a0 d0 fp0 fe0) (q:Nat):Br c W P (X.drewN q) v pend tl a d fp fe:=h.step h0 (Q6 (World.grownBy.refl _ _) q) h.pb
theorem Br.drew (h:Br c W P X v pend tl a d fp fe) (h0:St c W a0 d0 fp0 fe0):Br c W P X.drew v pend tl a d fp fe:=h.step h0 (grown_drew1 (World.grownBy.refl _ _)) h.pb
theorem Br.alloc (h:Br c W P X v pend tl a d fp fe) (h0:St c W a0 d0 fp0 fe0) (o:Obj):Br c W P (X.alloc o) v pend tl a d fp fe:=h.step h0 (grown_alloc (World.grownBy.refl _ _) o) ((_root_.Go.heap_alloc_old X _ (bL h.pb)).trans h.pb)
theorem Br.put (h:Br c W P X v pend tl a d fp fe) (h0:St c W a0 d0 fp0 fe0) {g:Nat} (hm:g ∈ tl) (i:Nat) (u:Value):Br c W P (X.setCell ⟨g,i,none⟩ u) v pend tl a d fp fe:=by
 have hgl:=bL h0.blk
 have hma:g ∈ pend.map Pd.g++tl:=List.mem_append_right _ hm
 have hgg:=h.ge g hma
 have hk:∀b,b≠g→(X.setCell ⟨g,i,none⟩ u).heap[b]?=X.heap[b]?:=fun b hb=>Below.heap_setCell X ⟨g,i,none⟩ u b hb
 have hkp:∀b,P b→b<X.heap.size→(X.setCell ⟨g,i,none⟩ u).heap[b]?=X.heap[b]?:=fun b hb _=>hk b fun e=>hgg.2.2 (e ▸ hb)
 have hsz:(X.setCell ⟨g,i,none⟩ u).heap.size=X.heap.size:=by simp [World.setCell]
 refine ⟨grown_far h.fr (p:=⟨g,i,none⟩) (by dsimp only;omega) u,(hk _ (by omega)).trans h.pb,(hk _ (by omega)).trans h.rb,⟨h.row.1,?_⟩,fun p hpm=>?_,h.nd,fun g' hm'=>by rw [hsz];exact h.ge g' hm',h.pv,fun b hb=>by rw [hsz];exact h.pl b hb,h.hd⟩
 ·rcases h.row.2 with hn | ⟨g',cap,cur,rfl,hb,hgg',rest⟩
  ·exact .inl hn
  ·exact .inr ⟨g',cap,cur,rfl,hb,(hk g' fun e=>(h.pv g' rfl).2 (e ▸ hma)).trans hgg',rest⟩
 ·obtain ⟨A,n1,c1,gb,q1,q2,q3⟩:=h.pd p hpm
  have hne:p.g≠g:=fun e=>by
   have:=(List.nodup_append.1 h.nd).2.2 p.g (List.mem_map_of_mem hpm) g hm
   exact this e
  exact ⟨A,n1,c1,gb,(hk _ hne).trans q1,q2.keepE (fun _ hb=>hb) hkp,q3.keepB (fun _ hb=>hb) hkp⟩
theorem Br.more (h:Br c W P X v pend tl a d fp fe) {Q:Nat→Prop} (hq:∀b,Q b→W.heap.size+2≤b∧b<X.heap.size∧b ∉ pend.map Pd.g++tl∧v.ownBlock≠some b):Br c W (fun b=>P b∨Q b) X v pend tl a d fp fe:=by
 refine ⟨h.fr,h.pb,h.rb,h.row,fun p hpm=>?_,h.nd,fun g hm=>⟨(h.ge g hm).1,(h.ge g hm).2.1,fun hb=>hb.elim (h.ge g hm).2.2 fun hb=>(hq g hb).2.2.1 hm⟩,fun k hk=>⟨fun hb=>hb.elim (h.pv k hk).1 fun hb=>(hq k hb).2.2.2 hk,(h.pv k hk).2⟩,fun b hb=>hb.elim (h.pl b) fun hb=>⟨(hq b hb).1,(hq b hb).2.1⟩,h.hd⟩
 obtain ⟨A,n1,c1,gb,q1,q2,q3⟩:=h.pd p hpm
 exact ⟨A,n1,c1,gb,q1,q2.keepE (fun _ hb=>Or.inl hb) fun _ _ _=>rfl,q3.keepB (fun _ hb=>Or.inl hb) fun _ _ _=>rfl⟩
end
theorem Row.ownP {P:Nat→Prop} {W:World} {base:Nat} {e:TypeId} {size n cap:Nat} {A:Option Addr} {xs:List Value} (h:W.ownsRow base e size (.slice A n cap) n xs) (hp:∀k,(Value.slice A n cap).ownBlock=some k→P k):Row P W A xs:=by
 intro i u hu
 rcases h.2 with ⟨h0,h1⟩|⟨g,cap',cur,h0,hb,hgg,_⟩
 ·have:xs=[]:=List.eq_nil_of_length_eq_zero (by rw [h.1,h1];simp)
  rw [this] at hu
  cases hu
 ·cases h0
  exact ⟨_,rfl,hp g rfl,h.cells (g:=g) rfl i u hu⟩
theorem own_len {W:World} {lo:Nat} {e:TypeId} {size n m cap:Nat} {A:Option Addr} {xs:List Value} (h:W.ownsRow lo e size (.slice A m cap) n xs):n=m∧m≤cap:=by
 rcases h.2 with ⟨e,h0⟩|⟨g,cap,cur,e,_,_,hl,_⟩
 ·cases e;exact ⟨h0,Nat.le_refl _⟩
 ·cases e;exact ⟨rfl,hl⟩
theorem AccP.stmt {P:Nat→Prop} {lo:Nat} {W:World} {A1 A2:Option Addr} {n1 c1 n2 c2:Nat} {args:List Ex} {blocks:List (List Stm)} (h1:AccP P RepE 93 5 lo W (.slice A1 n1 c1) args) (h2:AccP P RepB 25 1 lo W (.slice A2 n2 c2) blocks)
  (op:Int) (name read:ByteArray) (pos:Int):RepS P W (.mk op name read args blocks [] pos) (stCells op name read A1 n1 c1 A2 n2 c2 none 0 0 pos):=by
 obtain ⟨v1,o1,p1,a1⟩:=h1
 obtain ⟨v2,o2,p2,a2⟩:=h2
 obtain ⟨rfl,l1⟩:=own_len o1
 obtain ⟨rfl,l2⟩:=own_len o2
 rw [RepS]
 exact ⟨A1,c1,v1,A2,c2,v2,none,0,rfl,l1,l2,Nat.le_refl _,Row.ownP o1 p1,repEs_iff.2 a1,Row.ownP o2 p2,repBs_iff.2 a2,fun i u hu=>by simp at hu⟩
theorem accP_E {lo b0:Nat} {w:World} {x:Ex} {v:List Value} (h:RepE (fun b=>b0≤b) w x v) (hl:lo≤w.heap.size) (hb:b0≤w.heap.size) (cs:Array Value) (hcs:cs.toList=v) :
  AccP (fun b=>b0≤b∧b<w.heap.size+1) RepE 93 5 lo (w.alloc (.cells cs 93)) (.slice (some ⟨w.heap.size,0,none⟩) 1 1) [x]:=by
 have hl5:=repE_len h
 refine ⟨[v],⟨by simpa using hl5,.inr ⟨w.heap.size,1,cs,rfl,hl,heap_alloc_new w _,Nat.le_refl _,by simp [maxLen],by rw [←hcs] at hl5;simpa using hl5,by rw [hcs];simpa using List.take_of_length_le (show v.length≤5 by omega)⟩⟩,fun k hk=>by have:=Option.some.inj hk;dsimp only at this;omega,?_,trivial⟩
 exact RepE.keep (fun b hb=>⟨hb.1,by have:=hb.2;omega⟩) (fun b _ hk=>_root_.Go.heap_alloc_old w _ hk) _ _ (RepE.lt _ _ h)
theorem accP_B {lo b0:Nat} {w:World} {x:List Stm} {v:Value} (h:RepB (fun b=>b0≤b) w x [v]) (hl:lo≤w.heap.size) (hb:b0≤w.heap.size) :
  AccP (fun b=>b0≤b∧b<w.heap.size+1) RepB 25 1 lo (w.alloc (.cells #[v] 25)) (.slice (some ⟨w.heap.size,0,none⟩) 1 1) [x]:=by
 refine ⟨[[v]],⟨rfl,.inr ⟨w.heap.size,1,#[v],rfl,hl,heap_alloc_new w _,Nat.le_refl _,by simp [maxLen],rfl,rfl⟩⟩,fun k hk=>by have:=Option.some.inj hk;dsimp only at this;omega,?_,trivial⟩
 exact rK (repB_lt h) (fun b hb=>⟨hb.1,by have:=hb.2;omega⟩) (fun b _ hk=>_root_.Go.heap_alloc_old w _ hk)
section
variable {c:Ctx} {W X Y:World} {P:Nat→Prop} {v v':Value} {pend:List Pd} {tl:List Nat} {a a' a0:Nat} {d d' d0 fp fp' fp0 fe fe' fe0:Int}
theorem Br.form {g:Nat} (h:Br c W P X v pend [g] a d fp fe):∃gr cap,v=.slice (some ⟨gr,0,none⟩) (pend.length+1) cap:=by
 rcases h.row.2 with ⟨_,h0⟩|⟨gr,cap,cur,e,_⟩
 ·simp at h0
 ·exact ⟨gr,cap,by rw [e];simp⟩
theorem Br.cell (h:Br c W P X v pend tl a d fp fe) {gr:Nat} (hv:v.ownBlock=some gr) (i:Nat) {g:Nat} (hi:(pend.map Pd.g++tl)[i]?=some g):X.cell? ⟨gr,i,none⟩=some (ptr g):=by
 have hx:((pend.map Pd.g++tl).map fun g=>[ptr g]).flatten[i]?=some (ptr g):=by
  have:∀l:List Nat,(l.map fun g=>[ptr g]).flatten=l.map ptr:=fun l=>by induction l with
   | nil=>rfl
   | cons x l ih=>simp [ih]
  rw [this,List.getElem?_map,hi]
  rfl
 have hc:=h.row.cells hv i _ hx
 have hadd:(⟨gr,0,none⟩:Addr).add i=⟨gr,i,none⟩:=by unfold Addr.add;split <;> simp_all
 rwa [hadd] at hc
theorem Br.box {g:Nat} (h:Br c W P X v pend tl a d fp fe) (hm:g ∈ tl) (h0:St c W a0 d0 fp0 fe0) {o:Obj} (hx:X.heap[g]?=some o) (hg:X.grownBy Y (some c.g)):Y.heap[g]?=some o :=
 (hg.block g (Array.getElem?_eq_some_iff.1 hx).1 (fun e=>by have:=Option.some.inj e;have:=(h.ge g (List.mem_append_right _ hm)).1;have:=bL h0.blk;omega)).trans hx
theorem Br.pop {p:Pd} (h:Br c W P X v (pend++[p]) tl a d fp fe):Br c W P X v pend (p.g :: tl) a d fp fe:=by
 have e:(pend++[p]).map Pd.g++tl=pend.map Pd.g++(p.g :: tl):=by simp
 obtain ⟨fr,pb,rb,row,pd,nd,ge,pv,pl,hd⟩:=h
 rw [e] at row nd ge pv hd
 exact ⟨fr,pb,rb,row,fun q hq=>pd q (List.mem_append_left _ hq),nd,ge,pv,pl,hd⟩
theorem Br.push {g g':Nat} {e:Ex} {b:List Stm} {pos:Int} (h:Br c W P X v pend [g] a d fp fe) (h0:St c W a0 d0 fp0 fe0) (hp:PdAt P (W.heap.size+2) X ⟨g,e,b,pos⟩) (hg':W.heap.size+2≤g') (hgl:g'<X.heap.size) (hgn:g' ∉ pend.map Pd.g++[g]) (hgv:v.ownBlock≠some g') (hgp:¬ P g')
  (hg:X.grownBy Y v.ownBlock) (hown:Y.ownsRow (W.heap.size+2) 155 1 v' (pend.map Pd.g++[g]++[g']).length ((pend.map Pd.g++[g]++[g']).map fun g=>[ptr g]).flatten) (hw:v'.ownBlock=v.ownBlock∨v'.ownBlock=some X.heap.size):Br c W P Y v' (pend++[⟨g,e,b,pos⟩]) [g'] a d fp fe:=by
 have hl:=h.row.lt
 have hgc:=bL h0.blk
 have hk:∀k,k<X.heap.size→v.ownBlock≠some k→Y.heap[k]?=X.heap[k]?:=fun k hk hne=>hg.block k hk fun e=>hne e.symm
 have hlow:∀k,k<W.heap.size+2→v.ownBlock≠some k:=fun k hk e=>by have:=(hl k e).1;omega
 have hkp:∀b,P b→b<X.heap.size→Y.heap[b]?=X.heap[b]?:=fun b hb hl=>hk b hl fun e=>(h.pv b e).1 hb
 have el:(pend++[(⟨g,e,b,pos⟩:Pd)]).map Pd.g++[g']=pend.map Pd.g++[g]++[g']:=by simp
 have hpd:∀p:Pd,p.g ∈ pend.map Pd.g++[g]→PdAt P (W.heap.size+2) X p→PdAt P (W.heap.size+2) Y p:=fun p hm ⟨A,n1,c1,gb,q1,q2,q3⟩ =>
  ⟨A,n1,c1,gb,(hk _ (bL q1) fun e=>(h.pv _ e).2 hm).trans q1,q2.keepE (fun _ hb=>hb) hkp,q3.keepB (fun _ hb=>hb) hkp⟩
 refine ⟨⟨hg.os.trans h.fr.os,hg.tape.trans h.fr.tape,hg.output.trans h.fr.output,Nat.le_trans h.fr.size hg.size,fun k hk2 hne=>(hk k (Nat.lt_of_lt_of_le hk2 h.fr.size) (hlow k (by omega))).trans (h.fr.block k hk2 hne)⟩,
  (hk _ (bL h.pb) (hlow _ (by omega))).trans h.pb,(hk _ (bL h.rb) (hlow _ (by omega))).trans h.rb,by rw [el];exact hown,fun p hm=>?_,?_,fun k hm=>?_,fun k hk2=>?_,fun b hb=>⟨(h.pl b hb).1,Nat.lt_of_lt_of_le (h.pl b hb).2 hg.size⟩,?_⟩
 ·rcases List.mem_append.1 hm with hm | hm
  ·exact hpd p (List.mem_append_left _ (List.mem_map_of_mem hm)) (h.pd p hm)
  ·simp at hm
   subst hm
   exact hpd _ (by simp) hp
 ·rw [el]
  exact List.nodup_append.2 ⟨h.nd,by simp,fun x hx y hy e=>by simp at hy;subst hy;subst e;exact hgn hx⟩
 ·rw [el] at hm
  rcases List.mem_append.1 hm with hm | hm
  ·exact ⟨(h.ge k hm).1,Nat.lt_of_lt_of_le (h.ge k hm).2.1 hg.size,(h.ge k hm).2.2⟩
  ·simp at hm
   subst hm
   exact ⟨by omega,Nat.lt_of_lt_of_le hgl hg.size,hgp⟩
 ·rw [el]
  rcases hw with hw | hw
  ·rw [hw] at hk2
   refine ⟨(h.pv k hk2).1,fun hm=>?_⟩
   rcases List.mem_append.1 hm with hm | hm
   ·exact (h.pv k hk2).2 hm
   ·simp at hm;exact hgv (hm ▸ hk2)
  ·rw [hw] at hk2
   have:=Option.some.inj hk2
   refine ⟨fun hb=>by have:=(h.pl k hb).2;omega,fun hm=>?_⟩
   rcases List.mem_append.1 hm with hm | hm
   ·have:=(h.ge k hm).2.1;omega
   ·simp at hm;omega
 ·rw [el,List.append_assoc]
  have:=h.hd
  cases hc:pend.map Pd.g with
  | nil=>rw [hc] at this;simpa using this
  | cons x l=>rw [hc] at this;simpa using this
end
section
variable {c:Ctx} {W w w':World} {P:Nat→Prop} {v v':Value} {pend:List Pd} {tl:List Nat} {g:Nat} {a a' a0:Nat} {d d' d0 fp fp' fp0 fe fe' fe0:Int}
theorem Br.fresh (h:Br c W P w v pend tl a d fp fe) (hm:g ∈ tl) {b:Nat} (hb:w.heap.size≤b):b ∉ pend.map Pd.g++tl∧v.ownBlock≠some b∧b≠g :=
 ⟨fun hm=>by have:=(h.ge b hm).2.1;omega,fun e=>by have:=(h.row.lt b e).2;omega,fun e=>by have:=(h.ge g (List.mem_append_right _ hm)).2.1;omega⟩
theorem Br.wsize (h:Br c W P w v pend tl a d fp fe) (hm:g ∈ tl):W.heap.size+2≤w.heap.size:=by
 rcases h.row.2 with ⟨_,h0⟩|⟨gr,cap,cur,e,hb,hg,_⟩
 ·cases tl with
  | nil=>cases hm
  | cons x l=>simp at h0
 ·have:=(Array.getElem?_eq_some_iff.1 hg).1
  omega
theorem Br.litE (h:Br c W P w v pend [g] a d fp fe) (h0:St c W a0 d0 fp0 fe0) (hg:w.grownBy w' (some c.g)) (hS:St c w' a' d' fp fe) {v2 v3 pos:Value} {z:Value} {o nm rd:Value}
  (hx:w.heap[g]?=some (.cells #[o,nm,rd,z,v2,v3,pos] 107 (0,0))) {x:Ex} {cells:List Value} (hE:RepE (fun b=>w.heap.size≤b) w' x cells) (cs:Array Value) (hcs:cs.toList=cells) :
  ∃P',Br c W P' ((w'.alloc (.cells cs 93)).setCell ⟨g,3,none⟩ (.slice (some ⟨w'.heap.size,0,none⟩) 1 1)) v pend [g] a' d' fp fe∧((w'.alloc (.cells cs 93)).setCell ⟨g,3,none⟩ (.slice (some ⟨w'.heap.size,0,none⟩) 1 1)).heap[g]?=some (.cells #[o,nm,rd,.slice (some ⟨w'.heap.size,0,none⟩) 1 1,v2,v3,pos] 107 (0,0)) ∧
   AccP P' RepE 93 5 (W.heap.size+2) ((w'.alloc (.cells cs 93)).setCell ⟨g,3,none⟩ (.slice (some ⟨w'.heap.size,0,none⟩) 1 1)) (.slice (some ⟨w'.heap.size,0,none⟩) 1 1) [x]:=by
 have hgt:g ∈ [g]:=by simp
 have hws:=h.wsize hgt
 have hsz:=hg.size
 have hgl:g<w.heap.size:=(Array.getElem?_eq_some_iff.1 hx).1
 have h1:=(h.step h0 hg hS.blk).alloc h0 (.cells cs 93)
 have hx1:=h.box (by simp) h0 hx hg
 have hx2:=(_root_.Go.heap_alloc_old w' (.cells cs 93) (Array.getElem?_eq_some_iff.1 hx1).1).trans hx1
 have hA:=accP_E (lo:=W.heap.size+2) hE (by omega) hsz cs hcs
 have h2:=h1.more (Q:=fun b=>w.heap.size≤b∧b<w'.heap.size+1) fun b hb=>⟨by omega,by simpa using hb.2,(h.fresh hgt hb.1).1,(h.fresh hgt hb.1).2.1⟩
 exact ⟨_,h2.put h0 (by simp) 3 _,bP hx2 3 _ rfl,hA.keepE (fun _ hb=>Or.inr hb) fun b hb _=>Below.heap_setCell _ _ _ b (h.fresh hgt hb.1).2.2⟩
theorem Br.litB (h:Br c W P w v pend [g] a d fp fe) (h0:St c W a0 d0 fp0 fe0) (hg:w.grownBy w' (some c.g)) (hS:St c w' a' d' fp fe) {A:Option Addr} {n1 c1:Nat} {p:Int}
  (hx:w.heap[g]?=some (.cells (E107 4 nN nN (.slice A n1 c1) nilv nilv p) 107 (0,0))) {e:Ex} (hA:AccP P RepE 93 5 (W.heap.size+2) w (.slice A n1 c1) [e]) {b:List Stm} {u:Value} (hB:RepB (fun b=>w.heap.size≤b) w' b [u]) :
  ∃P',Br c W P' ((w'.alloc (.cells #[u] 25)).setCell ⟨g,4,none⟩ (.slice (some ⟨w'.heap.size,0,none⟩) 1 1)) v pend [g] a' d' fp fe∧PdAt P' (W.heap.size+2) ((w'.alloc (.cells #[u] 25)).setCell ⟨g,4,none⟩ (.slice (some ⟨w'.heap.size,0,none⟩) 1 1)) ⟨g,e,b,p⟩:=by
 have hgt:g ∈ [g]:=by simp
 have hws:=h.wsize hgt
 have hsz:=hg.size
 have hgm:g ∈ pend.map Pd.g++[g]:=by simp
 have hgl:=h.ge g hgm
 have hgc:=bL h0.blk
 have h1:=(h.step h0 hg hS.blk).alloc h0 (.cells #[u] 25)
 have hx1:=h.box (by simp) h0 hx hg
 have hx2:=(_root_.Go.heap_alloc_old w' (.cells #[u] 25) (Array.getElem?_eq_some_iff.1 hx1).1).trans hx1
 have hB2:=accP_B (lo:=W.heap.size+2) hB (by omega) hsz
 have h2:=h1.more (Q:=fun b=>w.heap.size≤b∧b<w'.heap.size+1) fun b hb=>⟨by omega,by simpa using hb.2,(h.fresh hgt hb.1).1,(h.fresh hgt hb.1).2.1⟩
 refine ⟨_,h2.put h0 (by simp) 4 _,A,n1,c1,w'.heap.size,bP hx2 4 _ rfl,hA.keepE (fun _ hb=>Or.inl hb) (fun k hk hl=>?_),hB2.keepB (fun _ hb=>Or.inr hb) fun k hb _=>Below.heap_setCell _ _ _ k (h.fresh hgt hb.1).2.2⟩
 have:=(h.pl k hk).1
 exact (Below.heap_setCell _ ⟨g,4,none⟩ _ k (fun e=>hgl.2.2 (by have e:k=g:=e;rw [←e];exact hk))).trans ((_root_.Go.heap_alloc_old w' _ (Nat.lt_of_lt_of_le hl hsz)).trans (hg.block k hl fun e=>by have:=Option.some.inj e;omega))
theorem PdAt.step (h:Br c W P w v pend [g] a d fp fe) (h0:St c W a0 d0 fp0 fe0) {e:Ex} {b:List Stm} {p:Int} (hp:PdAt P (W.heap.size+2) w ⟨g,e,b,p⟩) (hg:w.grownBy w' (some c.g)):PdAt P (W.heap.size+2) w' ⟨g,e,b,p⟩:=by
 have hgc:=bL h0.blk
 have hgm:=h.ge g (by simp)
 obtain ⟨A,n1,c1,gb,q1,q2,q3⟩:=hp
 have hk:∀k,P k→k<w.heap.size→w'.heap[k]?=w.heap[k]?:=fun k hk hl=>hg.block k hl fun e=>by have:=Option.some.inj e;have:=(h.pl k hk).1;omega
 exact ⟨A,n1,c1,gb,(hg.block g (Array.getElem?_eq_some_iff.1 q1).1 fun e=>by have:=Option.some.inj e;omega).trans q1,q2.keepE (fun _ hb=>hb) hk,q3.keepB (fun _ hb=>hb) hk⟩
theorem PdAt.stmt {lo:Nat} {X:World} {e:Ex} {b:List Stm} {p:Int} (hp:PdAt P lo X ⟨g,e,b,p⟩):∃A1 n1 c1 A2 n2 c2,X.heap[g]?=some (.cells (E107 4 nN nN (.slice A1 n1 c1) (.slice A2 n2 c2) nilv p) 107 (0,0))∧RepS P X (.mk 4 nN nN [e] [b] [] p) (stCells 4 nN nN A1 n1 c1 A2 n2 c2 none 0 0 p):=by
 obtain ⟨A,n1,c1,gb,q1,q2,q3⟩:=hp
 exact ⟨A,n1,c1,_,1,1,q1,AccP.stmt q2 q3 4 nN nN p⟩
theorem Br.second {w3:World} (h:Br c W P w v pend tl a d fp fe) (hgt:g ∈ tl) (h0:St c W a0 d0 fp0 fe0) {e:Ex} {b b2:List Stm} {p:Int} {A:Option Addr} {n1 c1 gb:Nat} (hx:w.heap[g]?=some (.cells (E107 4 nN nN (.slice A n1 c1) (.slice (some ⟨gb,0,none⟩) 1 1) nilv p) 107 (0,0)))
  (hA:AccP P RepE 93 5 (W.heap.size+2) w (.slice A n1 c1) [e]) {us:List (List Value)} (hall:All2 (RepB P w) [b] us) {u:Value} {Q:Nat→Prop} (hQ:∀k,Q k→W.heap.size+2≤k∧k<w.heap.size∧k ∉ pend.map Pd.g++tl∧v.ownBlock≠some k) (hB:RepB Q w b2 [u]) (hg:w.grownBy w3 none) {cap:Nat}
  (hown:w3.ownsRow (W.heap.size+2) 25 1 (.slice (some ⟨w.heap.size,0,none⟩) 2 cap) 2 (us.flatten++[u])) (hs3:w.heap.size<w3.heap.size) :
  ∃P',Br c W P' (w3.setCell ⟨g,4,none⟩ (.slice (some ⟨w.heap.size,0,none⟩) 2 cap)) v pend tl a d fp fe∧(w3.setCell ⟨g,4,none⟩ (.slice (some ⟨w.heap.size,0,none⟩) 2 cap)).heap[g]?=some (.cells (E107 4 nN nN (.slice A n1 c1) (.slice (some ⟨w.heap.size,0,none⟩) 2 cap) nilv p) 107 (0,0)) ∧
   RepS P' (w3.setCell ⟨g,4,none⟩ (.slice (some ⟨w.heap.size,0,none⟩) 2 cap)) (.mk 4 nN nN [e] [b,b2] [] p) (stCells 4 nN nN A n1 c1 (some ⟨w.heap.size,0,none⟩) 2 cap none 0 0 p):=by
 have hgc:=bL h0.blk
 have hgm:=h.ge g (List.mem_append_right _ hgt)
 have hws:=h.wsize hgt
 have hk:∀k,k<w.heap.size→w3.heap[k]?=w.heap[k]?:=fun k hk=>hg.block k hk (by simp)
 have hgs:w.grownBy w3 (some c.g):=⟨hg.os,hg.tape,hg.output,hg.size,fun k hk2 _=>hk k hk2⟩
 have h1:=h.step h0 hgs ((hk _ (bL h.pb)).trans h.pb)
 have h2:=h1.more (Q:=fun k=>Q k∨k=w.heap.size) fun k hk2=>by
  rcases hk2 with hk2 | rfl
  ·exact ⟨(hQ k hk2).1,Nat.lt_of_lt_of_le (hQ k hk2).2.1 hg.size,(hQ k hk2).2.2⟩
  ·exact ⟨by omega,hs3,(h.fresh hgt (Nat.le_refl _)).1,(h.fresh hgt (Nat.le_refl _)).2.1⟩
 have hne:∀k,(P k∨Q k)→k≠g:=fun k hk2 e=>hk2.elim (fun hp=>hgm.2.2 (e ▸ hp)) fun hq=>(hQ k hq).2.2.1 (by rw [e];exact List.mem_append_right _ hgt)
 have hkp:∀k,(P k∨Q k)→k<w.heap.size→(w3.setCell ⟨g,4,none⟩ (.slice (some ⟨w.heap.size,0,none⟩) 2 cap)).heap[k]?=w.heap[k]?:=fun k hk2 hl=>(Below.heap_setCell _ _ _ k (hne k hk2)).trans (hk k hl)
 refine ⟨_,h2.put h0 hgt 4 _,bP ((hk _ (Array.getElem?_eq_some_iff.1 hx).1).trans hx) 4 _ rfl,?_⟩
 have hown2:(w3.setCell ⟨g,4,none⟩ (.slice (some ⟨w.heap.size,0,none⟩) 2 cap)).ownsRow (W.heap.size+2) 25 1 (.slice (some ⟨w.heap.size,0,none⟩) 2 cap) 2 (us.flatten++[u]):=by
  refine ⟨hown.1,?_⟩
  rcases hown.2 with ⟨e,_⟩|⟨g',cap',cur,e,hb,hgg,rest⟩
  ·cases e
  ·cases e
   exact .inr ⟨_,_,cur,rfl,hb,(Below.heap_setCell _ _ _ _ (h.fresh hgt (Nat.le_refl _)).2.2).trans hgg,rest⟩
 refine AccP.stmt (P:=fun k=>P k∨(Q k∨k=w.heap.size)) (hA.keepE (fun _ hb=>Or.inl hb) fun k hk2 hl=>hkp k (Or.inl hk2) hl) ⟨us++[[u]],by simpa using hown2,fun k hk2=>by have:=Option.some.inj hk2;dsimp only at this;exact Or.inr (Or.inr this.symm),?_⟩ 4 nN nN p
 have e1:([b,b2]:List (List Stm))=[b]++[b2]:=rfl
 rw [e1]
 exact All2.snoc (rK hB (fun _ hb=>Or.inr (Or.inl hb)) fun k hk2 hl=>hkp k (Or.inr hk2) hl) (hall.imp fun x y hr=>rK hr (fun _ hb=>Or.inl hb) fun k hk2 hl=>hkp k (Or.inl hk2) hl)
end
end Go.Proofs.YtgaoapnaplgaiaaGreatDoor.Sc
namespace Go.Proofs.YtgaoapnaplgaiaaGreatDoor.Sc
set_option maxRecDepth 100000
open Go.RowKit
section
variable {P:Program} {o:Oper} {t:Array Value} {ds:List Deferred} {w w':World} {K:Act→World→Prop} {Q:Exit→Act→World→Prop} {ops:Array Oper}
theorem run_call {a:Act} {f:FuncId} {vs:Array Value} {os:Array Operand} {ts:Array TypeId} (hop:o.op=.call { callee:=.value (.func f),args:=os,argTypes:=ts })
  (hcf:∀args w,(callFunc f args).run P w=.ok (.enter f args) w) (hv:os.map a.eval=vs):(execOp a.eval o).run P w=.ok (.enter f vs) w:=by
 subst hv
 simp [execOp,hop,resolve,Act.eval,Deferred.ofValue,invoke,hcf]
theorem ready_call {f:FuncId} {vs:Array Value} {R:Ending→World→Prop} (k:Nat)
  (hw:Region.wanted o (yielded ops t)=true) (hr:(execOp (Act.eval ⟨t,ds⟩) o).run P w=.ok (.enter f vs) w) (h:Calls P f vs w R) (hd:o.dst=some k)
  (hk:∀e w',R e w'→∃v,e=.returned v∧K ⟨t.setIfInBounds k v,ds⟩ w') :
  if Region.wanted o (yielded ops (Act.tmps ⟨t,ds⟩))=true then Oper.wp P o ⟨t,ds⟩ w K Q else K (Act.put ⟨t,ds⟩ o.dst undef) w:=by
 rw [if_pos hw]
 unfold Oper.wp
 rw [hr,Oper.upon_enter]
 refine h.mono fun e w' hR=>?_
 obtain ⟨v,rfl,hK⟩:=hk e w' hR
 rw [hd]
 exact hK
theorem take1 {md:Region.Mode} {S:World→Prop} {fuel:Nat} {listed:Array Bool} (i k:Nat) (v:Value) (hi:ops[i]?=some o) (hd:o.dst=some k)
  (hs:Region.noSelect ops=true) (hf:Region.free md ops listed i=true) (hr:(Region.ready md ops listed).contains i=true)
  (hQ:∀c a w,Q (.panic c) (a.put o.dst v) w→Q (.panic c) a w) (hy:YieldsIf P ops S o v ⟨t,ds⟩) (hS:S w)
  (h:wpAnyH P md ops Q S fuel (listed.setIfInBounds i true) ⟨t.setIfInBounds k v,ds⟩ w):wpAnyH P md ops Q S (fuel+1) listed ⟨t,ds⟩ w :=
 wpAnyH_take hi hs hf hr hQ hy hS (by rw [hd];exact h)
end
end Go.Proofs.YtgaoapnaplgaiaaGreatDoor.Sc
