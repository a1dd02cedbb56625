/- This claim's own texts, joined, with only what the claim uses: ParA. -/
import Derived.Test.YtgaoapnaplgaiaaGreatDoorZs4
import Derived.Test.YtgaoapnaplgaiaaGreatDoorZs5
import Derived.WalkLawsBesides
namespace Go.Proofs.YtgaoapnaplgaiaaGreatDoor.Sc
set_option maxRecDepth 100000
open Go.RowKit Tk Go.Proofs.YtgaoapnaplgaiaaGreatDoor.Wd
structure Ctx where
 g:Nat
 A:Option Addr
 n:Nat
 cap:Nat
 xs:List Int
 B:Option Addr
 tc:Nat
 L:List Tok
structure Good (c:Ctx):Prop where
 hn:c.n≤65536
 hcap:c.n≤c.cap
 hx:c.xs.length=c.n
 hl:c.L.length≤16384
 htc:c.L.length≤c.tc
 hA:∀x,c.A=some x→x.block≠c.g
 hB:∀x,c.B=some x→x.block≠c.g
 kinds:∀t ∈ c.L,1≤t.1
 nums:∀t ∈ c.L,0≤t.2.2.2∧t.2.2.2≤2147483648
 places:∀t ∈ c.L,0≤t.2.1∧t.2.1≤t.2.2.1∧t.2.2.1≤(c.n:Int)
abbrev Ctx.me (c:Ctx):Value:=.pointer (some ⟨c.g,0,none⟩)
abbrev Ctx.cells (c:Ctx) (a:Nat) (d fp fe:Int):Array Value :=
 #[.slice c.A c.n c.cap,.slice c.B c.L.length c.tc,.int .i64 a,.int .i64 d,.int .i64 fp,.int .i64 fe,.nilFunc,.func (.func 23) #[c.me] #[],.func (.func 24) #[c.me] #[],.func (.func 25) #[c.me] #[],.func (.func 26) #[c.me] #[],.func (.func 27) #[c.me] #[]]
def zTok:Tok:=(0,0,0,0)
def TokAt (W:World) (B:Option Addr) (L:List Tok):Prop :=
 ∀i,i<L.length→∃b,B=some b∧W.cell? (b.add (i * 4))=some (.int .i64 (L.getD i zTok).1)∧W.cell? ⟨(b.add (i * 4)).block,(b.add (i * 4)).off+1,none⟩=some (.int .i64 (L.getD i zTok).2.1) ∧
  W.cell? ⟨(b.add (i * 4)).block,(b.add (i * 4)).off+2,none⟩=some (.int .i64 (L.getD i zTok).2.2.1)∧W.cell? ⟨(b.add (i * 4)).block,(b.add (i * 4)).off+3,none⟩=some (.int .i64 (L.getD i zTok).2.2.2)
structure St (c:Ctx) (W:World) (a:Nat) (d fp fe:Int):Prop where
 blk:W.heap[c.g]?=some (.cells (c.cells a d fp fe) 56 (0,0))
 lies:Lies W c.A c.n c.xs
 toks:TokAt W c.B c.L
section
variable {c:Ctx} {W W':World} {a:Nat} {d fp fe:Int}
theorem St.drewN (h:St c W a d fp fe) (q:Nat):St c (W.drewN q) a d fp fe:=⟨h.blk,fun i hi=>h.lies i hi,fun i hi=>h.toks i hi⟩
theorem St.c0 (h:St c W a d fp fe):W.cell? ⟨c.g,0,none⟩=some (.slice c.A c.n c.cap):=(bC h.blk 0).trans rfl
theorem St.c1 (h:St c W a d fp fe):W.cell? ⟨c.g,1,none⟩=some (.slice c.B c.L.length c.tc):=(bC h.blk 1).trans rfl
theorem St.c2 (h:St c W a d fp fe):W.cell? ⟨c.g,2,none⟩=some (.int .i64 a):=(bC h.blk 2).trans rfl
theorem St.c3 (h:St c W a d fp fe):W.cell? ⟨c.g,3,none⟩=some (.int .i64 d):=(bC h.blk 3).trans rfl
theorem St.c4 (h:St c W a d fp fe):W.cell? ⟨c.g,4,none⟩=some (.int .i64 fp):=(bC h.blk 4).trans rfl
theorem St.c5 (h:St c W a d fp fe):W.cell? ⟨c.g,5,none⟩=some (.int .i64 fe):=(bC h.blk 5).trans rfl
theorem St.fz (h:St c W a d fp fe) (i:Nat):W.frozen? ⟨c.g,i,none⟩=false:=bF h.blk i
theorem St.below (h:St c W a d fp fe) (hb:Below W.heap.size W W'):St c W' a d fp fe:=by
 refine ⟨bB h.blk hb,h.lies.below hb,fun i hi=>?_⟩
 obtain ⟨b,e,q0,q1,q2,q3⟩:=h.toks i hi
 exact ⟨b,e,(hb.cell (World.block_lt_of_cell? W _ q0)).trans q0,(hb.cell (World.block_lt_of_cell? W _ q1)).trans q1,(hb.cell (World.block_lt_of_cell? W _ q2)).trans q2,(hb.cell (World.block_lt_of_cell? W _ q3)).trans q3⟩
theorem St.put (hG:Good c) (h:St c W a d fp fe) (i:Nat) (v:Value) {a':Nat} {d' fp' fe':Int} (e:(c.cells a d fp fe).setIfInBounds i v=c.cells a' d' fp' fe'):St c (W.setCell ⟨c.g,i,none⟩ v) a' d' fp' fe':=by
 refine ⟨bP h.blk i v e,fun j hj=>?_,fun j hj=>?_⟩
 ·obtain ⟨x,hx,hc⟩:=h.lies j hj
  refine ⟨x,hx,?_⟩
  rw [World.cell?_of_block (Below.heap_setCell W _ _ _ (by have:=hG.hA x hx;rw [show (x.add j).block=x.block by unfold Addr.add;split <;> rfl];exact this))]
  exact hc
 ·obtain ⟨b,hb,q0,q1,q2,q3⟩:=h.toks j hj
  have hbl:(b.add (j * 4)).block=b.block:=by unfold Addr.add;split <;> rfl
  have hne:=hG.hB b hb
  have key:∀k,(W.setCell ⟨c.g,i,none⟩ v).cell? ⟨(b.add (j * 4)).block,k,none⟩=W.cell? ⟨(b.add (j * 4)).block,k,none⟩:=fun k =>
   World.cell?_of_block (Below.heap_setCell W _ _ _ (by dsimp only;rw [hbl];exact hne))
  refine ⟨b,hb,?_,(key _).trans q1,(key _).trans q2,(key _).trans q3⟩
  rw [World.cell?_of_block (Below.heap_setCell W _ _ _ (by rw [hbl];exact hne))]
  exact q0
end
def kd (c:Ctx) (a:Nat):Int:=(c.L.getD a zTok).1
def ps (c:Ctx) (a:Nat):Int:=if a<c.L.length then (c.L.getD a zTok).2.1 else (c.n:Int)
theorem kd_end {c:Ctx} {a:Nat} (h:c.L.length≤a):kd c a=0:=by
 unfold kd
 rw [List.getD_eq_getElem?_getD,List.getElem?_eq_none h];rfl
set_option maxHeartbeats 1000000 in
theorem kC {c:Ctx} {W:World} {a:Nat} {d fp fe:Int} (h:St c W a d fp fe) :
  Calls Tryz.prog 55 #[c.me] W fun e W'=>e=.returned (.int .i64 (kd c a))∧∃q,W'=W.drewN q:=by
 have c1:=h.c1
 have c2:=h.c2
 have ha:(0:Int)≤(a:Int):=by omega
 by_cases hal:a<c.L.length
 ·have d1:decide ((a:Int)<(c.L.length:Int))=true:=decide_eq_true (by omega)
  have a1:(a:Int)<(c.L.length:Int):=by omega
  obtain ⟨b,e,q0,_⟩:=h.toks a hal
  rw [e] at c1
  unfold kd
  generalize c.L.getD a zTok=t at q0 ⊢
  go_enter Tryz.func55,Tryz.ntmps55
  go_wp2
  go_quiet (fail)
  go_wp2
  go_quiet (fail)
  go_wp2
  go_ret
  exact ⟨rfl,_,World.drewN_drewN _ _ _⟩
 ·have d1:decide ((a:Int)<(c.L.length:Int))=false:=decide_eq_false (by omega)
  rw [kd_end (by omega)]
  go_enter Tryz.func55,Tryz.ntmps55
  go_wp2
  go_quiet (fail)
  go_wp2
  go_ret
  exact ⟨rfl,_,rfl⟩
set_option maxHeartbeats 1000000 in
theorem qC {c:Ctx} {W:World} {a:Nat} {d fp fe:Int} (h:St c W a d fp fe) :
  Calls Tryz.prog 56 #[c.me] W fun e W'=>e=.returned (.int .i64 (ps c a))∧∃q,W'=W.drewN q:=by
 have c0:=h.c0
 have c1:=h.c1
 have c2:=h.c2
 have ha:(0:Int)≤(a:Int):=by omega
 by_cases hal:a<c.L.length
 ·have d1:decide ((a:Int)<(c.L.length:Int))=true:=decide_eq_true (by omega)
  have a1:(a:Int)<(c.L.length:Int):=by omega
  obtain ⟨b,e,_,q1,_⟩:=h.toks a hal
  rw [e] at c1
  unfold ps
  rw [if_pos hal]
  generalize c.L.getD a zTok=t at q1 ⊢
  go_enter Tryz.func56,Tryz.ntmps56
  go_wp2
  go_quiet (fail)
  go_wp2
  go_quiet (fail)
  go_wp2
  go_ret
  exact ⟨rfl,_,World.drewN_drewN _ _ _⟩
 ·have d1:decide ((a:Int)<(c.L.length:Int))=false:=decide_eq_false (by omega)
  unfold ps
  rw [if_neg hal]
  go_enter Tryz.func56,Tryz.ntmps56
  go_wp2
  go_quiet (fail)
  go_wp2
  go_ret
  exact ⟨rfl,_,rfl⟩
abbrev broke:List PanicEntry:=[{ v:=.iface 58 (.agg #[]),recovered:=false }]
inductive Out (α:Type) where
 | ok (x:α) (a:Nat) (d:Int)
 | bad (p er:Int)
def Post {α:Type} (c:Ctx) (W:World) (fp fe:Int) (rep:World→Value→α→Prop) (o:Out α) (e:Ending) (W':World):Prop :=
 W.grownBy W' (some c.g)∧match o with
  | .ok x a d=>(∃v,e=.returned v∧rep W' v x)∧St c W' a d fp fe
  | .bad p er=>e=.panicked broke∧∃a d,St c W' a d p er
theorem Post.mk_ok {α:Type} {c:Ctx} {W W':World} {fp fe:Int} {rep:World→Value→α→Prop} {x:α} {a:Nat} {d:Int} {v:Value} (hg:W.grownBy W' (some c.g)) (hv:rep W' v x) (hS:St c W' a d fp fe):Post c W fp fe rep (.ok x a d) (.returned v) W' :=
 ⟨hg,⟨v,rfl,hv⟩,hS⟩
theorem Post.mk_bad {α:Type} {c:Ctx} {W W':World} {fp fe:Int} {rep:World→Value→α→Prop} {a:Nat} {d p er:Int} (hg:W.grownBy W' (some c.g)) (hS:St c W' a d p er):Post c W fp fe rep (.bad p er) (.panicked broke) W' :=
 ⟨hg,rfl,a,d,hS⟩
abbrev repU:World→Value→Unit→Prop:=fun _ v _=>v=.tuple #[]
set_option maxHeartbeats 1000000 in
theorem give_call {c:Ctx} (hG:Good c) {W:World} {a:Nat} {d fp fe:Int} (h:St c W a d fp fe) (er:Int) :
  Calls Tryz.prog 60 #[c.me,.int .i64 er] W fun e W'=>e=.panicked broke∧St c W' a d (ps c a) er∧W.grownBy W' (some c.g):=by
 have c4:=h.c4
 have c5:=h.c5
 have f4:=h.fz 4
 have f5:=h.fz 5
 have PS:=qC h
 go_enter Tryz.func60,Tryz.ntmps60
 go_wp2_with (first|(go_at_call 56;with_reducible refine PS.mono ?_;rintro e w' ⟨rfl,q,rfl⟩))
 exact ⟨rfl,rfl,((h.drewN q).put hG 4 _ rfl).put hG 5 _ rfl,gP (gP (Q6 (World.grownBy.refl _ _) q) _) _⟩
def deeperS (c:Ctx) (a:Nat) (d:Int):Out Unit:=if d=64 then .bad (ps c a) 41 else .ok () a (d+1)
set_option maxHeartbeats 1000000 in
theorem deeper_call {c:Ctx} (hG:Good c) {W:World} {a:Nat} {d fp fe:Int} (h:St c W a d fp fe) (hd:-1000000≤d∧d≤1000000) :
  Calls Tryz.prog 95 #[c.me] W (Post c W fp fe repU (deeperS c a d)):=by
 have c3:=h.c3
 have f3:=h.fz 3
 by_cases h64:d=64
 ·rw [show deeperS c a d=.bad (ps c a) 41 from if_pos h64]
  subst h64
  have GV:=give_call hG h 41
  go_enter Tryz.func95,Tryz.ntmps95
  go_wp2_with (first|(go_at_call 60;with_reducible refine GV.mono ?_;rintro e w' ⟨rfl,hS,hg⟩))
  exact ⟨rfl,Post.mk_bad hg hS⟩
 ·rw [show deeperS c a d=.ok () a (d+1) from if_neg h64]
  have d64:(d==64)=false:=beq_eq_false_iff_ne.mpr h64
  have wd:IntKind.i64.wrap (d+1)=d+1:=IntWalk.i64_in _ (by omega)
  go_enter Tryz.func95,Tryz.ntmps95
  go_wp2
  go_end0
  exact Post.mk_ok (gP (World.grownBy.refl _ _) _) rfl (h.put hG 3 _ rfl)
def wS (c:Ctx) (k:Int) (a:Nat) (d:Int):Out Tok :=
 if kd c a=k then
  if k=32∨k=48∨k=50 then (if d=64 then .bad (ps c a) 41 else .ok (c.L.getD a zTok) (a+1) (d+1))
  else if k=33∨k=49∨k=52 then .ok (c.L.getD a zTok) (a+1) (d - 1)
  else .ok (c.L.getD a zTok) (a+1) d
 else .bad (ps c a) 40
abbrev repT:World→Value→Tok→Prop:=fun _ v t=>v=.agg #[.int .i64 t.1,.int .i64 t.2.1,.int .i64 t.2.2.1,.int .i64 t.2.2.2]
theorem grown_far {a b:World} {row:Option Nat} (h:a.grownBy b row) {p:Addr} (hp:a.heap.size≤p.block) (v:Value):a.grownBy (b.setCell p v) row :=
 ⟨h.os,h.tape,h.output,by simpa [World.setCell] using h.size,fun i hi hr=>(Below.heap_setCell b p v i (by omega)).trans (h.block i hi hr)⟩
theorem grown_drew1 {a b:World} {row:Option Nat} (h:a.grownBy b row):a.grownBy b.drew row:=⟨h.os,h.tape,h.output,h.size,h.block⟩
theorem St.frame {c:Ctx} (hG:Good c) {W W':World} {a a':Nat} {d d' fp fp' fe fe':Int} (h:St c W a d fp fe) (hg:W.grownBy W' (some c.g)) (hb:W'.heap[c.g]?=some (.cells (c.cells a' d' fp' fe') 56 (0,0))):St c W' a' d' fp' fe':=by
 refine ⟨hb,fun j hj=>?_,fun j hj=>?_⟩
 ·obtain ⟨x,hx,hc⟩:=h.lies j hj
  refine ⟨x,hx,?_⟩
  rw [World.cell?_of_block (hg.block _ (World.block_lt_of_cell? W _ hc) (fun e=>by
   have:=Option.some.inj e
   have hbl:(x.add j).block=x.block:=by unfold Addr.add;split <;> rfl
   exact hG.hA x hx (by rw [←hbl];exact this)))]
  exact hc
 ·obtain ⟨b,hb,q0,q1,q2,q3⟩:=h.toks j hj
  have hbl:(b.add (j * 4)).block=b.block:=by unfold Addr.add;split <;> rfl
  have hk:=hg.block (b.add (j * 4)).block (World.block_lt_of_cell? W _ q0) (fun e=>hG.hB b hb (by rw [←hbl];exact Option.some.inj e))
  have key:∀k,W'.cell? ⟨(b.add (j * 4)).block,k,none⟩=W.cell? ⟨(b.add (j * 4)).block,k,none⟩:=fun k=>World.cell?_of_block hk
  exact ⟨b,hb,(World.cell?_of_block hk).trans q0,(key _).trans q1,(key _).trans q2,(key _).trans q3⟩
theorem res_c {P:Program} {fn:Func} {p:Tmp} {ty:TypeId} (h:fn.results=#[.cell p ty]) (tmps:Array Value) (w:World) (g:Nat) (t:TypeId) (cs:Array Value) (fr:Nat × Nat) (d:TypeDesc)
  (hp:tmps.getD p undef=.pointer (some ⟨g,0,none⟩)) (hg:w.heap[g]?=some (.cells cs t fr))
  (hu:P.underlying ty=some d) (hd:(match d with | .struct _ | .array _ _=>true | _=>false)=true) (hi:(P.info? ty).map (·.size)=some cs.size) :
  (results fn tmps).run P w=.ok (.agg cs) w:=by
 have hp':tmps[p]?.getD undef=.pointer (some ⟨g,0,none⟩):=by simpa using hp
 simp [results,h,hp',asAddr,run_loadVar_row w g t ty cs fr d hg hu hd hi]
set_option maxHeartbeats 4000000 in
theorem wC {c:Ctx} (hG:Good c) {W:World} {a:Nat} {d fp fe:Int} (h:St c W a d fp fe) (hd:-1000≤d∧d≤1000) (k:Int) (hk:1≤k) :
  Calls Tryz.prog 59 #[c.me,.int .i64 k] W (Post c W fp fe repT (wS c k a d)):=by
 have h0:∀o,St c (W.alloc o) a d fp fe:=fun o=>h.below (bA _ o)
 have KD:=fun o=>kC (h0 o)
 by_cases hk0:kd c a=k
 ·have hal:a<c.L.length:=by
   rcases Nat.lt_or_ge a c.L.length with h | h
   ·exact h
   ·rw [kd_end h] at hk0;omega
  have nk:(kd c a != k)=false:=by rw [hk0];simp
  have wa:IntKind.i64.wrap ((a:Int)+1)=((a+1:Nat):Int):=by rw [IntWalk.i64_in _ (by have:=hG.hl;omega)];push_cast;rfl
  have wb:IntKind.i64.wrap (((a+1:Nat):Int) - 1)=(a:Int):=by rw [IntWalk.i64_in _ (by have:=hG.hl;omega)];omega
  have a0:(0:Int)≤(a:Int):=by omega
  have a1:(a:Int)<(c.L.length:Int):=by omega
  obtain ⟨tb,eB,q0,q1,q2,q3⟩:=h.toks a hal
  have hgl:c.g<W.heap.size:=bL h.blk
  have hg0:∀q,W.grownBy ((W.alloc (.cells #[.int .i64 0,.int .i64 0,.int .i64 0,.int .i64 0] 44)).drewN q) (some c.g):=fun q=>Q6 (grown_alloc (World.grownBy.refl _ _) _) _
  have hb0:∀q,((W.alloc (.cells #[.int .i64 0,.int .i64 0,.int .i64 0,.int .i64 0] 44)).drewN q).heap[W.heap.size]?=some (.cells #[.int .i64 0,.int .i64 0,.int .i64 0,.int .i64 0] 44 (0,0)):=fun _=>bN W _
  by_cases hod:(k=32∨k=48∨k=50)∧d=64
  ·rw [show wS c k a d=.bad (ps c a) 41 by unfold wS;rw [if_pos hk0,if_pos hod.1,if_pos hod.2]]
   have DP:=fun o q=>deeper_call hG ((h0 o).drewN q) (by omega)
   rw [show deeperS c a d=.bad (ps c a) 41 from if_pos hod.2] at DP
   rcases hod.1 with rfl | rfl | rfl
   all_goals (
    go_enter Tryz.func59,Tryz.ntmps59
    go_wp2_with (first|(go_at_call 55;with_reducible refine (KD _).mono ?_;rintro e w' ⟨rfl,q,rfl⟩)|(go_at_call 95;(with_reducible refine (DP _ _).mono ?_);rintro e w' ⟨hg,rfl,a',d',hS⟩))
    exact ⟨rfl,Post.mk_bad (Q4 (hg0 _) hg) hS⟩)
  ·obtain ⟨D,hD,hDb⟩:∃D,wS c k a d=.ok (c.L.getD a zTok) (a+1) D∧D=if k=32∨k=48∨k=50 then d+1 else if k=33∨k=49∨k=52 then d - 1 else d:=by
    unfold wS
    rw [if_pos hk0]
    by_cases ho:k=32∨k=48∨k=50
    ·rw [if_pos ho,if_pos ho,if_neg (fun h=>hod ⟨ho,h⟩)];exact ⟨_,rfl,rfl⟩
    ·rw [if_neg ho,if_neg ho]
     by_cases hc:k=33∨k=49∨k=52
     ·rw [if_pos hc,if_pos hc];exact ⟨_,rfl,rfl⟩
     ·rw [if_neg hc,if_neg hc];exact ⟨_,rfl,rfl⟩
   rw [hD]
   clear hD
   go_enter Tryz.func59,Tryz.ntmps59
   go_upto_block 0 with (first|(go_at_call 55;with_reducible refine (KD _).mono ?_;rintro e w' ⟨rfl,q,rfl⟩))
   go_cut [] from 12 to 28 (fun W1=>St c W1 a D fp fe∧W1.heap[W.heap.size]?=some (.cells #[.int .i64 0,.int .i64 0,.int .i64 0,.int .i64 0] 44 (0,0))∧W.grownBy W1 (some c.g))
   case first =>
    by_cases ho:k=32∨k=48∨k=50
    ·have DP:=deeper_call hG ((h0 (.cells #[.int .i64 0,.int .i64 0,.int .i64 0,.int .i64 0] 44)).drewN q) (by omega)
     rw [show deeperS c a d=.ok () a (d+1) from if_neg (fun h=>hod ⟨ho,h⟩)] at DP
     rw [if_pos ho] at hDb
     subst hDb
     rcases ho with rfl | rfl | rfl
     all_goals (
      go_wp2_with (first|(go_at_call 95;(with_reducible refine DP.mono ?_);rintro e w' ⟨hg,⟨v,rfl,rfl⟩,hS⟩))
      go_meet
      exact ⟨hS,(hg.block _ (by simp) (fun e=>by have:=Option.some.inj e;omega)).trans (hb0 q),Q4 (hg0 _) hg⟩)
    ·rw [if_neg ho] at hDb
     by_cases hc:k=33∨k=49∨k=52
     ·rw [if_pos hc] at hDb
      subst hDb
      have hS1:=(h0 (.cells #[.int .i64 0,.int .i64 0,.int .i64 0,.int .i64 0] 44)).drewN q
      have s3:=hS1.c3
      have f3:=hS1.fz 3
      have wd:IntKind.i64.wrap (d - 1)=d - 1:=IntWalk.i64_in _ (by omega)
      rcases hc with rfl | rfl | rfl
      all_goals (
       go_wp2
       go_meet
       exact ⟨hS1.put hG 3 _ rfl,Q5 (hb0 q) (by dsimp only;omega) _,gP (hg0 _) _⟩)
     ·rw [if_neg hc] at hDb
      subst hDb
      have e1:(k==32)=false:=beq_eq_false_iff_ne.mpr (by omega)
      have e2:(k==48)=false:=beq_eq_false_iff_ne.mpr (by omega)
      have e3:(k==50)=false:=beq_eq_false_iff_ne.mpr (by omega)
      have e4:(k==33)=false:=beq_eq_false_iff_ne.mpr (by omega)
      have e5:(k==49)=false:=beq_eq_false_iff_ne.mpr (by omega)
      have e6:(k==52)=false:=beq_eq_false_iff_ne.mpr (by omega)
      go_wp2
      go_meet
      exact ⟨(h0 _).drewN q,hb0 q,hg0 q⟩
   case rest =>
    obtain ⟨hS1,hb1,hg1⟩:=hcut
    have s2:=hS1.c2
    have f2:=hS1.fz 2
    have hS2:St c (wc.setCell ⟨c.g,2,none⟩ (.int .i64 ((a:Int)+1))) (a+1) D fp fe:=hS1.put hG 2 _ rfl
    have hb2:=Q5 hb1 (p:=⟨c.g,2,none⟩) (by dsimp only;omega) (.int .i64 ((a:Int)+1))
    have hg2:W.grownBy (wc.setCell ⟨c.g,2,none⟩ (.int .i64 ((a:Int)+1))) (some c.g):=gP hg1 _
    go_upto_region 13 with fail
    generalize wc.setCell ⟨c.g,2,none⟩ (.int .i64 ((a:Int)+1))=W2 at hS2 hb2 hg2 ⊢
    have t1:=hS2.c1
    have t2:=hS2.c2
    obtain ⟨tb,eB,q0,q1,q2,q3⟩:=hS2.toks a hal
    rw [eB] at t1
    obtain ⟨t,ht⟩:∃t,c.L.getD a zTok=t:=⟨_,rfl⟩
    rw [ht] at q0 q1 q2 q3
    have hT:=A0.mk ht
    clear ht
    have b0:=(bC hb2 0).trans rfl
    have b1:=(bC hb2 1).trans rfl
    have b2:=(bC hb2 2).trans rfl
    have b3:=(bC hb2 3).trans rfl
    have g0:=bF hb2 0
    have g1:=bF hb2 1
    have g2:=bF hb2 2
    have g3:=bF hb2 3
    have wb:IntKind.i64.wrap (a:Int)=(a:Int):=IntWalk.i64_in _ (by have:=hG.hl;omega)
    have wc2:wrap64 (a:Int)=(a:Int):=by rw [←IntWalk.i64_left];exact wb
    go_region
    go_wp2
    refine bodyPost_ret (res_c rfl _ _ W.heap.size 44 #[.int .i64 t.1,.int .i64 t.2.1,.int .i64 t.2.2.1,.int .i64 t.2.2.2] (0,0) _ rfl (bD (bP (bP (bP (bP hb2 0 _ rfl) 1 _ rfl) 2 _ rfl) 3 _ rfl)) Tryz.underlying44 rfl (by kernel_rfl)) rfl ?_
    have hgF:=grown_drew1 (grown_far (grown_far (grown_far (grown_far hg2 (p:=⟨W.heap.size,0,none⟩) (Nat.le_refl _) (.int .i64 t.1)) (p:=⟨W.heap.size,1,none⟩) (Nat.le_refl _) (.int .i64 t.2.1)) (p:=⟨W.heap.size,2,none⟩) (Nat.le_refl _) (.int .i64 t.2.2.1)) (p:=⟨W.heap.size,3,none⟩) (Nat.le_refl _) (.int .i64 t.2.2.2))
    have hne:c.g≠W.heap.size:=by omega
    exact Post.mk_ok hgF (by rw [hT.out]) (St.frame hG h hgF (bD (Q5 (Q5 (Q5 (Q5 hS2.blk hne _) hne _) hne _) hne _)))
 ·rw [show wS c k a d=.bad (ps c a) 40 from if_neg hk0]
  have GV:=fun o q=>give_call hG ((h0 o).drewN q) 40
  have nk:(kd c a != k)=true:=bne_iff_ne.mpr hk0
  go_enter Tryz.func59,Tryz.ntmps59
  go_wp2_with (first|(go_at_call 55;with_reducible refine (KD _).mono ?_;rintro e w' ⟨rfl,q,rfl⟩)|(go_at_call 60;with_reducible refine (GV _ _).mono ?_;rintro e w' ⟨rfl,hS,hg⟩))
  exact ⟨rfl,Post.mk_bad (Q4 (Q6 (grown_alloc (World.grownBy.refl _ _) _) _) hg) hS⟩
end Go.Proofs.YtgaoapnaplgaiaaGreatDoor.Sc
