/- This claim's own texts, joined, with only what the claim uses: ParB, ParC. -/
import Derived.Test.YtgaoapnaplgaiaaGreatDoorZs6
import Derived.Test.YtgaoapnaplgaiaaGreatDoorZs8
namespace Go.Proofs.YtgaoapnaplgaiaaGreatDoor.Sc
set_option maxRecDepth 100000
open Go.RowKit Tk Go.Proofs.YtgaoapnaplgaiaaGreatDoor.Wd
def Out.bind {α β:Type} (o:Out α) (f:α→Nat→Int→Out β):Out β :=
 match o with
 | .ok x a d=>f x a d
 | .bad p er=>.bad p er
abbrev repB:World→Value→Bool→Prop:=fun _ v b=>v=.bool b
abbrev repS:World→Value→ByteArray→Prop:=fun _ v s=>v=.string s
abbrev repI:World→Value→Int→Prop:=fun _ v i=>v=.int .i64 i
def takeS (c:Ctx) (k:Int) (a:Nat) (d:Int):Out Bool :=
 if kd c a=k then (wS c k a d).bind fun _ a d=>.ok true a d else .ok false a d
set_option maxHeartbeats 4000000 in
theorem take_call {c:Ctx} (hG:Good c) {W:World} {a:Nat} {d fp fe:Int} (h:St c W a d fp fe) (hd:-1000≤d∧d≤1000) (k:Int) (hk:1≤k) :
  Calls Tryz.prog 98 #[c.me,.int .i64 k] W (Post c W fp fe repB (takeS c k a d)):=by
 have KD:=kC h
 by_cases hk0:kd c a=k
 ·rw [show takeS c k a d=(wS c k a d).bind fun _ a d=>.ok true a d from if_pos hk0]
  have nk:(kd c a != k)=false:=by rw [hk0];simp
  have WT:=fun q=>wC hG (h.drewN q) hd k hk
  cases ho:wS c k a d with
  | ok t a' d' =>
   rw [ho] at WT
   show Calls _ _ _ _ (Post c W fp fe repB (.ok true a' d'))
   clear hk0 ho
   go_enter Tryz.func98,Tryz.ntmps98
   go_wp2_with (first|(go_at_call 55;with_reducible refine KD.mono ?_;rintro e w' ⟨rfl,q,rfl⟩)|(go_at_call 59;(with_reducible refine (WT _).mono ?_);rintro e w' ⟨hg,⟨v,rfl,hv⟩,hS⟩))
   go_ret
   exact Post.mk_ok (Q4 (Q6 (World.grownBy.refl _ _) _) hg) rfl hS
  | bad p er =>
   rw [ho] at WT
   show Calls _ _ _ _ (Post c W fp fe repB (.bad p er))
   clear hk0 ho
   go_enter Tryz.func98,Tryz.ntmps98
   go_wp2_with (first|(go_at_call 55;with_reducible refine KD.mono ?_;rintro e w' ⟨rfl,q,rfl⟩)|(go_at_call 59;(with_reducible refine (WT _).mono ?_);rintro e w' ⟨hg,rfl,a',d',hS⟩))
   exact ⟨rfl,Post.mk_bad (Q4 (Q6 (World.grownBy.refl _ _) _) hg) hS⟩
 ·rw [show takeS c k a d=.ok false a d from if_neg hk0]
  have nk:(kd c a != k)=true:=bne_iff_ne.mpr hk0
  go_enter Tryz.func98,Tryz.ntmps98
  go_wp2_with (first|(go_at_call 55;with_reducible refine KD.mono ?_;rintro e w' ⟨rfl,q,rfl⟩))
  go_ret
  exact Post.mk_ok (Q6 (World.grownBy.refl _ _) _) rfl (h.drewN _)
def textS (c:Ctx) (t:Tok):ByteArray:=strOfNums ((c.xs.drop t.2.1.toNat).take (t.2.2.1 - t.2.1).toNat)
set_option maxHeartbeats 4000000 in
theorem text_call {c:Ctx} (hG:Good c) {W:World} {a:Nat} {d fp fe:Int} (h:St c W a d fp fe) (t:Tok) (ht:0≤t.2.1∧t.2.1≤t.2.2.1∧t.2.2.1≤(c.n:Int)) :
  Calls Tryz.prog 99 #[c.me,.agg #[.int .i64 t.1,.int .i64 t.2.1,.int .i64 t.2.2.1,.int .i64 t.2.2.2]] W fun e W'=>e=.returned (.string (textS c t))∧W.grownBy W' (some c.g)∧St c W' a d fp fe:=by
 obtain ⟨k,p,e,v⟩:=t
 simp only at ht ⊢
 obtain ⟨p,rfl⟩:=Int.eq_ofNat_of_zero_le ht.1
 obtain ⟨e,rfl⟩:=Int.eq_ofNat_of_zero_le (show 0≤e by omega)
 obtain ⟨m,hm⟩:∃m,p+m=e:=⟨e - p,by omega⟩
 have hS:=h.below (bA _ (.cells #[.int .i64 k,.int .i64 p,.int .i64 e,.int .i64 v] 44))
 have c0:=hS.c0
 have hsm:∀w,(Instr.sliceAt 22 (.slice c.A c.n c.cap) (some (.int .i64 (p:Int))) (some (.int .i64 (e:Int))) none).run Tryz.prog w=.ok (.slice (tl c.A c.cap p) m (c.cap - p)) w:=fun w=>by
  have:=slice_mid w c.A c.n c.cap p e (by omega) (by have:=hG.hcap;omega)
  rwa [show e - p=m by omega] at this
 obtain ⟨S,hTx⟩:∃S,textS c (k,(p:Int),(e:Int),v)=S:=⟨_,rfl⟩
 rw [hTx]
 have cv:∀q,(convert 22 9 (.slice (tl c.A c.cap p) m (c.cap - p))).run Tryz.prog ((W.alloc (.cells #[.int .i64 k,.int .i64 p,.int .i64 e,.int .i64 v] 44)).drewN q)=.ok (.string S) ((W.alloc (.cells #[.int .i64 k,.int .i64 p,.int .i64 e,.int .i64 v] 44)).drewN q):=fun q=>by
  have hx:=hG.hx
  have:=((hS.drewN q).lies.mid hG.hcap (l:=p) (m:=m) (by omega)).bytes.convert (by simp;omega) (c.cap - p) 22 5 9 Tryz.underlying22 Tryz.underlying5 Tryz.underlying9
  rw [this,←hTx]
  unfold textS
  simp only [Int.toNat_natCast]
  rw [show ((e:Int) - (p:Int)).toNat=m by omega]
 clear hTx hm
 go_enter Tryz.func99,Tryz.ntmps99
 go_wp2
 go_quiet (fail)
 go_wp2
 go_ret
 exact ⟨rfl,Q6 (grown_alloc (World.grownBy.refl _ _) _) _,hS.drewN _⟩
def nS (c:Ctx) (a:Nat) (d:Int):Out ByteArray:=(wS c 1 a d).bind fun t a d=>.ok (textS c t) a d
theorem want_tok {c:Ctx} (hG:Good c) {k:Int} (hk:1≤k) {a a':Nat} {d d':Int} {t:Tok} (h:wS c k a d=.ok t a' d'):0≤t.2.1∧t.2.1≤t.2.2.1∧t.2.2.1≤(c.n:Int):=by
 have hk0:kd c a=k:=by
  unfold wS at h
  split at h
  ·assumption
  ·cases h
 have hal:a<c.L.length:=by
  rcases Nat.lt_or_ge a c.L.length with h | h
  ·exact h
  ·rw [kd_end h] at hk0;omega
 have ht:t=c.L.getD a zTok:=by
  unfold wS at h
  rw [if_pos hk0] at h
  split at h
  ·split at h <;> cases h;rfl
  ·split at h <;> cases h <;> rfl
 rw [ht]
 refine hG.places _ ?_
 rw [List.getD_eq_getElem?_getD,List.getElem?_eq_getElem hal]
 exact List.getElem_mem hal
set_option maxHeartbeats 4000000 in
theorem name_call {c:Ctx} (hG:Good c) {W:World} {a:Nat} {d fp fe:Int} (h:St c W a d fp fe) (hd:-1000≤d∧d≤1000) :
  Calls Tryz.prog 57 #[c.me] W (Post c W fp fe repS (nS c a d)):=by
 have WT:=wC hG h hd 1 (by omega)
 unfold nS
 cases ho:wS c 1 a d with
 | ok t a' d' =>
  have hp:=want_tok hG (by omega) ho
  rw [ho] at WT
  show Calls _ _ _ _ (Post c W fp fe repS (.ok (textS c t) a' d'))
  have TX:=fun (W':World) (hS:St c W' a' d' fp fe)=>text_call hG hS t hp
  clear ho hp
  go_enter Tryz.func57,Tryz.ntmps57
  go_wp2_with (first|(go_at_call 59;(with_reducible refine WT.mono ?_);rintro e w' ⟨hg,⟨v,rfl,rfl⟩,hS⟩)|(go_at_call 99;(with_reducible refine (TX _ hS).mono ?_);rintro e w2 ⟨rfl,hg2,hS2⟩))
  go_ret
  exact Post.mk_ok (Q4 hg hg2) rfl hS2
 | bad p er =>
  rw [ho] at WT
  show Calls _ _ _ _ (Post c W fp fe repS (.bad p er))
  clear ho
  go_enter Tryz.func57,Tryz.ntmps57
  go_wp2_with (first|(go_at_call 59;(with_reducible refine WT.mono ?_);rintro e w' ⟨hg,rfl,a',d',hS⟩))
  exact ⟨rfl,Post.mk_bad hg hS⟩
def typS (c:Ctx) (a:Nat) (d:Int):Out Int :=
 if kd c a=17 then .ok 1 (a+1) d else if kd c a=15 then .ok 2 (a+1) d else (wS c 16 a d).bind fun _ a d=>.ok 3 a d
theorem kd_lt {c:Ctx} {a:Nat} {k:Int} (h:kd c a=k) (hk:1≤k):a<c.L.length:=by
 rcases Nat.lt_or_ge a c.L.length with h' | h'
 ·exact h'
 ·rw [kd_end h'] at h;omega
set_option maxHeartbeats 4000000 in
theorem typ_call {c:Ctx} (hG:Good c) {W:World} {a:Nat} {d fp fe:Int} (h:St c W a d fp fe) (hd:-1000≤d∧d≤1000) :
  Calls Tryz.prog 97 #[c.me] W (Post c W fp fe repI (typS c a d)):=by
 have KD:=kC h
 have s2:=fun q=>(h.drewN q).c2
 have f2:=fun q=>(h.drewN q).fz 2
 by_cases h17:kd c a=17
 ·have hal:=kd_lt h17 (by omega)
  have wa:IntKind.i64.wrap ((a:Int)+1)=(a:Int)+1:=IntWalk.i64_in _ (by have:=hG.hl;omega)
  rw [show typS c a d=.ok 1 (a+1) d from if_pos h17]
  rw [h17] at KD
  clear h17
  go_enter Tryz.func97,Tryz.ntmps97
  go_wp2_with (first|(go_at_call 55;with_reducible refine KD.mono ?_;rintro e w' ⟨rfl,q,rfl⟩;have s2:=s2 q;have f2:=f2 q))
  go_ret
  exact Post.mk_ok (gP (Q6 (World.grownBy.refl _ _) _) _) rfl ((h.drewN _).put hG 2 _ rfl)
 ·by_cases h15:kd c a=15
  ·have hal:=kd_lt h15 (by omega)
   have wa:IntKind.i64.wrap ((a:Int)+1)=(a:Int)+1:=IntWalk.i64_in _ (by have:=hG.hl;omega)
   rw [show typS c a d=.ok 2 (a+1) d by unfold typS;rw [if_neg h17,if_pos h15]]
   rw [h15] at KD
   clear h17 h15
   go_enter Tryz.func97,Tryz.ntmps97
   go_wp2_with (first|(go_at_call 55;with_reducible refine KD.mono ?_;rintro e w' ⟨rfl,q,rfl⟩;have s2:=s2 q;have f2:=f2 q))
   go_ret
   exact Post.mk_ok (gP (Q6 (World.grownBy.refl _ _) _) _) rfl ((h.drewN _).put hG 2 _ rfl)
  ·have n1:(kd c a==17)=false:=beq_eq_false_iff_ne.mpr h17
   have n2:(kd c a==15)=false:=beq_eq_false_iff_ne.mpr h15
   have WT:=fun q=>wC hG (h.drewN q) hd 16 (by omega)
   rw [show typS c a d=(wS c 16 a d).bind fun _ a d=>.ok 3 a d by unfold typS;rw [if_neg h17,if_neg h15]]
   cases ho:wS c 16 a d with
   | ok t a' d' =>
    rw [ho] at WT
    show Calls _ _ _ _ (Post c W fp fe repI (.ok 3 a' d'))
    clear ho h17 h15
    go_enter Tryz.func97,Tryz.ntmps97
    go_wp2_with (first|(go_at_call 55;with_reducible refine KD.mono ?_;rintro e w' ⟨rfl,q,rfl⟩)|(go_at_call 59;(with_reducible refine (WT _).mono ?_);rintro e w' ⟨hg,⟨v,rfl,hv⟩,hS⟩))
    go_ret
    exact Post.mk_ok (Q4 (Q6 (World.grownBy.refl _ _) _) hg) rfl hS
   | bad p er =>
    rw [ho] at WT
    show Calls _ _ _ _ (Post c W fp fe repI (.bad p er))
    clear ho h17 h15
    go_enter Tryz.func97,Tryz.ntmps97
    go_wp2_with (first|(go_at_call 55;with_reducible refine KD.mono ?_;rintro e w' ⟨rfl,q,rfl⟩)|(go_at_call 59;(with_reducible refine (WT _).mono ?_);rintro e w' ⟨hg,rfl,a',d',hS⟩))
    exact ⟨rfl,Post.mk_bad (Q4 (Q6 (World.grownBy.refl _ _) _) hg) hS⟩
abbrev Con:=ByteArray × Int × Int
abbrev repC:World→Value→Con→Prop:=fun _ v x=>v=.agg #[.string x.1,.int .i64 x.2.1,.int .i64 x.2.2]
def coS (c:Ctx) (a:Nat) (d:Int):Out Con :=
 if kd c a=1 then (nS c a d).bind fun s a' d'=>.ok (s,0,ps c a) a' d'
 else (takeS c 37 a d).bind fun b a1 d1=>(wS c 2 a1 d1).bind fun t a2 d2=>.ok (⟨#[]⟩,if b then IntKind.i64.wrap (-t.2.2.2) else t.2.2.2,ps c a) a2 d2
abbrev C67 (s:ByteArray) (n p:Int):Array Value:=#[.string s,.int .i64 n,.int .i64 p]
structure Two (c:Ctx) (W X:World) (t:Nat) (r v:Array Value) (a:Nat) (d fp fe:Int):Prop where
 fr:W.grownBy X (some c.g)
 rb:X.heap[W.heap.size]?=some (.cells r t (0,0))
 vb:X.heap[W.heap.size+1]?=some (.cells v t (0,0))
 pb:X.heap[c.g]?=some (.cells (c.cells a d fp fe) 56 (0,0))
section
variable {c:Ctx} {W X Y:World} {t:Nat} {r v r' v':Array Value} {a a' a0:Nat} {d d' d0 fp fp' fp0 fe fe' fe0:Int}
theorem Two.st (h:Two c W X t r v a d fp fe) (hG:Good c) (h0:St c W a0 d0 fp0 fe0):St c X a d fp fe:=St.frame hG h0 h.fr h.pb
theorem Two.lit (h0:St c W a d fp fe) (q q2:Nat):Two c W ((((W.alloc (.cells r t)).drewN q).alloc (.cells v t)).drewN q2) t r v a d fp fe where
 fr:=Q6 (grown_alloc (Q6 (grown_alloc (World.grownBy.refl _ _) _) q) _) q2
 rb:=((bA _ (.cells v t)).block W.heap.size (by simp)).trans (bN W (.cells r t))
 vb:=by
  have:=bN ((W.alloc (.cells r t)).drewN q) (.cells v t)
  rwa [show ((W.alloc (.cells r t)).drewN q).heap.size=W.heap.size+1 by simp] at this
 pb:=(((h0.below (bA _ (.cells r t))).drewN q).below (bA _ (.cells v t))).blk
theorem Two.call (h:Two c W X t r v a d fp fe) (h0:St c W a0 d0 fp0 fe0) (hg:X.grownBy Y (some c.g)) (hS:St c Y a' d' fp' fe'):Two c W Y t r v a' d' fp' fe' where
 fr:=Q4 h.fr hg
 rb:=(hg.block _ (bL h.rb) (fun e=>by have:=Option.some.inj e;have:=bL h0.blk;omega)).trans h.rb
 vb:=(hg.block _ (bL h.vb) (fun e=>by have:=Option.some.inj e;have:=bL h0.blk;omega)).trans h.vb
 pb:=hS.blk
theorem Two.put (h:Two c W X t r v a d fp fe) (h0:St c W a0 d0 fp0 fe0) (i:Nat) (u:Value) (e:v.setIfInBounds i u=v'):Two c W (X.setCell ⟨W.heap.size+1,i,none⟩ u) t r v' a d fp fe :=
 have hgl:=bL h0.blk
 ⟨grown_far h.fr (p:=⟨W.heap.size+1,i,none⟩) (Nat.le_succ _) u,Q5 h.rb (p:=⟨W.heap.size+1,i,none⟩) (by dsimp only;omega) u,bP h.vb i u e,Q5 h.pb (p:=⟨W.heap.size+1,i,none⟩) (by dsimp only;omega) u⟩
theorem Two.res (h:Two c W X t r v a d fp fe) (h0:St c W a0 d0 fp0 fe0) (i:Nat) (u:Value) (e:r.setIfInBounds i u=r'):Two c W (X.setCell ⟨W.heap.size,i,none⟩ u) t r' v a d fp fe :=
 have hgl:=bL h0.blk
 ⟨grown_far h.fr (p:=⟨W.heap.size,i,none⟩) (Nat.le_refl _) u,bP h.rb i u e,Q5 h.vb (p:=⟨W.heap.size,i,none⟩) (by dsimp only;omega) u,Q5 h.pb (p:=⟨W.heap.size,i,none⟩) (by dsimp only;omega) u⟩
theorem Two.vc (h:Two c W X t r v a d fp fe) (i:Nat) {u:Value} (e:v[i]?=some u):X.cell? ⟨W.heap.size+1,i,none⟩=some u:=(bC h.vb i).trans e
theorem Two.rc (h:Two c W X t r v a d fp fe) (i:Nat) {u:Value} (e:r[i]?=some u):X.cell? ⟨W.heap.size,i,none⟩=some u:=(bC h.rb i).trans e
theorem Two.vf (h:Two c W X t r v a d fp fe) (i:Nat):X.frozen? ⟨W.heap.size+1,i,none⟩=false:=bF h.vb i
theorem Two.rf (h:Two c W X t r v a d fp fe) (i:Nat):X.frozen? ⟨W.heap.size,i,none⟩=false:=bF h.rb i
end
set_option maxHeartbeats 4000000 in
theorem constant_call {c:Ctx} (hG:Good c) {W:World} {a:Nat} {d fp fe:Int} (h:St c W a d fp fe) (hd:-900≤d∧d≤900) :
  Calls Tryz.prog 96 #[c.me] W (Post c W fp fe repC (coS c a d)):=by
 have h0:∀o,St c (W.alloc o) a d fp fe:=fun o=>h.below (bA _ o)
 have h1:∀o q o2,St c (((W.alloc o).drewN q).alloc o2) a d fp fe:=fun o q o2=>((h0 o).drewN q).below (bA _ o2)
 have PS:=fun o=>qC (h0 o)
 have KD:=fun o q o2=>kC (h1 o q o2)
 by_cases k1:kd c a=1
 ·rw [show coS c a d=(nS c a d).bind fun s a' d'=>.ok (s,0,ps c a) a' d' from if_pos k1]
  have e1:(kd c a==1)=true:=beq_iff_eq.mpr k1
  have NM:=fun o q o2 q2=>name_call hG ((h1 o q o2).drewN q2) (by omega)
  cases ho:nS c a d with
  | ok s a' d' =>
   rw [ho] at NM
   show Calls _ _ _ _ (Post c W fp fe repC (.ok (s,0,ps c a) a' d'))
   clear ho k1
   go_enter Tryz.func96,Tryz.ntmps96
   go_upto_region 4 with (first|(go_at_call 56;with_reducible refine (PS _).mono ?_;rintro e w' ⟨rfl,q,rfl⟩)|(go_at_call 55;with_reducible refine (KD _ _ _).mono ?_;rintro e w' ⟨rfl,q2,rfl⟩)|(go_at_call 57;(with_reducible refine (NM _ _ _ _).mono ?_);rintro e w' ⟨hg,⟨v,rfl,rfl⟩,hS⟩;have hT:=(Two.lit (r:=C67 ⟨#[]⟩ 0 0) (v:=C67 ⟨#[]⟩ 0 (ps c a)) (t:=67) h _ _).call h hg hS;have z0:=hT.vc 0 rfl;have y0:=hT.vf 0))
   have hT2:=hT.put h 0 (.string s) (v':=C67 s 0 (ps c a)) rfl
   generalize w'.setCell ⟨W.heap.size+1,0,none⟩ (.string s)=X at hT2 ⊢
   clear z0 y0 hT hS hg
   have z0:=hT2.vc 0 rfl
   have z1:=hT2.vc 1 rfl
   have z2:=hT2.vc 2 rfl
   have y0:=hT2.rf 0
   have y1:=hT2.rf 1
   have y2:=hT2.rf 2
   have r0:=hT2.rc 0 rfl
   have r1:=hT2.rc 1 rfl
   have r2:=hT2.rc 2 rfl
   go_wp2
   have hT3:=((hT2.res h 0 (.string s) rfl).res h 1 (.int .i64 0) rfl).res h 2 (.int .i64 (ps c a)) rfl
   refine bodyPost_ret (res_c rfl _ _ W.heap.size 67 _ (0,0) _ rfl hT3.rb Tryz.underlying67 rfl (by kernel_rfl)) rfl (Post.mk_ok hT3.fr rfl (hT3.st hG h))
  | bad p er =>
   rw [ho] at NM
   show Calls _ _ _ _ (Post c W fp fe repC (.bad p er))
   clear ho k1
   go_enter Tryz.func96,Tryz.ntmps96
   go_wp2_with (first|(go_at_call 56;with_reducible refine (PS _).mono ?_;rintro e w' ⟨rfl,q,rfl⟩)|(go_at_call 55;with_reducible refine (KD _ _ _).mono ?_;rintro e w' ⟨rfl,q2,rfl⟩)|(go_at_call 57;(with_reducible refine (NM _ _ _ _).mono ?_);rintro e w' ⟨hg,rfl,a',d',hS⟩))
   exact ⟨rfl,Post.mk_bad (Q4 (Two.lit (r:=C67 ⟨#[]⟩ 0 0) (v:=C67 ⟨#[]⟩ 0 (ps c a)) (t:=67) h _ _).fr hg) hS⟩
 ·obtain ⟨b,a1,hb⟩:∃b a1,takeS c 37 a d=.ok b a1 d:=by
   unfold takeS
   split
   ·exact ⟨true,a+1,by unfold wS;rw [if_pos ‹_›];simp [Out.bind]⟩
   ·exact ⟨false,a,rfl⟩
  have e0:coS c a d=(wS c 2 a1 d).bind fun t a2 d2=>.ok (⟨#[]⟩,if b then IntKind.i64.wrap (-t.2.2.2) else t.2.2.2,ps c a) a2 d2:=by
   unfold coS
   rw [if_neg k1,hb]
   rfl
  rw [e0]
  have e1:(kd c a==1)=false:=beq_eq_false_iff_ne.mpr k1
  have TK:=fun o q o2 q2=>take_call hG ((h1 o q o2).drewN q2) (by omega) 37 (by omega)
  rw [hb] at TK
  have WT:=fun (X:World) (hS:St c X a1 d fp fe)=>wC hG hS (by omega) 2 (by omega)
  cases ho:wS c 2 a1 d with
  | ok t a' d' =>
   obtain ⟨tk,tp,te,tv⟩:=t
   rw [ho] at WT
   clear ho k1 e0 hb
   have hfd:∀w:World,(Instr.field 44 (.agg #[.int .i64 tk,.int .i64 tp,.int .i64 te,.int .i64 tv]) 3).run Tryz.prog w=.ok (.int .i64 tv) w:=fun _=>by kernel_rfl
   cases b with
   | true =>
    show Calls _ _ _ _ (Post c W fp fe repC (.ok (⟨#[]⟩,IntKind.i64.wrap (-tv),ps c a) a' d'))
    rw [IntWalk.i64_left]
    go_enter Tryz.func96,Tryz.ntmps96
    go_upto_region 6 with (first|(go_at_call 56;with_reducible refine (PS _).mono ?_;rintro e w' ⟨rfl,q,rfl⟩)|(go_at_call 55;with_reducible refine (KD _ _ _).mono ?_;rintro e w' ⟨rfl,q2,rfl⟩)|(go_at_call 98;(with_reducible refine (TK _ _ _ _).mono ?_);rintro e w' ⟨hg,⟨v,rfl,rfl⟩,hS⟩;have hT:=(Two.lit (r:=C67 ⟨#[]⟩ 0 0) (v:=C67 ⟨#[]⟩ 0 (ps c a)) (t:=67) h _ _).call h hg hS)|(go_at_call 59;(with_reducible refine (WT _ hS).mono ?_);rintro e w2 ⟨hg2,⟨v,rfl,rfl⟩,hS2⟩;have hT1:=hT.call h hg2 hS2;have z0:w2.cell? ⟨W.heap.size+1,1,none⟩=some (.int .i64 0):=hT1.vc 1 rfl;have y0:=hT1.vf 1))
    go_upto_region 7 with (first|(go_at_call 59;(with_reducible refine (WT _ hS).mono ?_);rintro e w2 ⟨hg2,⟨v,rfl,rfl⟩,hS2⟩;have hT1:=hT.call h hg2 hS2;have z0:w2.cell? ⟨W.heap.size+1,1,none⟩=some (.int .i64 0):=hT1.vc 1 rfl;have y0:=hT1.vf 1))
    have hT2:=hT1.put h 1 (.int .i64 tv) (v':=C67 ⟨#[]⟩ tv (ps c a)) rfl
    generalize w2.setCell ⟨W.heap.size+1,1,none⟩ (.int .i64 tv)=X at hT2 ⊢
    clear z0 y0 hT hT1 hS hg hg2 hS2
    have z1:X.cell? ⟨W.heap.size+1,1,none⟩=some (.int .i64 tv):=hT2.vc 1 rfl
    have y1:=hT2.vf 1
    go_upto_region 9 with (fail)
    have hT3:=hT2.put h 1 (.int .i64 (wrap64 (-tv))) (v':=C67 ⟨#[]⟩ (wrap64 (-tv)) (ps c a)) rfl
    generalize X.setCell ⟨W.heap.size+1,1,none⟩ (.int .i64 (wrap64 (-tv)))=Y at hT3 ⊢
    clear z1 y1 hT2
    have z0:=hT3.vc 0 rfl
    have z1:=hT3.vc 1 rfl
    have z2:=hT3.vc 2 rfl
    have y0:=hT3.vf 0
    have y1:=hT3.vf 1
    have y2:=hT3.vf 2
    have x0:=hT3.rf 0
    have x1:=hT3.rf 1
    have x2:=hT3.rf 2
    have r0:=hT3.rc 0 rfl
    have r1:=hT3.rc 1 rfl
    have r2:=hT3.rc 2 rfl
    go_wp2
    have hTR:=((hT3.res h 0 (.string ⟨#[]⟩) rfl).res h 1 (.int .i64 (wrap64 (-tv))) rfl).res h 2 (.int .i64 (ps c a)) rfl
    refine bodyPost_ret (res_c rfl _ _ W.heap.size 67 _ (0,0) _ rfl hTR.rb Tryz.underlying67 rfl (by kernel_rfl)) rfl (Post.mk_ok hTR.fr rfl (hTR.st hG h))
   | false =>
    show Calls _ _ _ _ (Post c W fp fe repC (.ok (⟨#[]⟩,tv,ps c a) a' d'))
    go_enter Tryz.func96,Tryz.ntmps96
    go_upto_region 6 with (first|(go_at_call 56;with_reducible refine (PS _).mono ?_;rintro e w' ⟨rfl,q,rfl⟩)|(go_at_call 55;with_reducible refine (KD _ _ _).mono ?_;rintro e w' ⟨rfl,q2,rfl⟩)|(go_at_call 98;(with_reducible refine (TK _ _ _ _).mono ?_);rintro e w' ⟨hg,⟨v,rfl,rfl⟩,hS⟩;have hT:=(Two.lit (r:=C67 ⟨#[]⟩ 0 0) (v:=C67 ⟨#[]⟩ 0 (ps c a)) (t:=67) h _ _).call h hg hS)|(go_at_call 59;(with_reducible refine (WT _ hS).mono ?_);rintro e w2 ⟨hg2,⟨v,rfl,rfl⟩,hS2⟩;have hT1:=hT.call h hg2 hS2;have z0:w2.cell? ⟨W.heap.size+1,1,none⟩=some (.int .i64 0):=hT1.vc 1 rfl;have y0:=hT1.vf 1))
    go_upto_region 7 with (first|(go_at_call 59;(with_reducible refine (WT _ hS).mono ?_);rintro e w2 ⟨hg2,⟨v,rfl,rfl⟩,hS2⟩;have hT1:=hT.call h hg2 hS2;have z0:w2.cell? ⟨W.heap.size+1,1,none⟩=some (.int .i64 0):=hT1.vc 1 rfl;have y0:=hT1.vf 1))
    have hT2:=hT1.put h 1 (.int .i64 tv) (v':=C67 ⟨#[]⟩ tv (ps c a)) rfl
    generalize w2.setCell ⟨W.heap.size+1,1,none⟩ (.int .i64 tv)=X at hT2 ⊢
    clear z0 y0 hT hT1 hS hg hg2 hS2
    have z0:=hT2.vc 0 rfl
    have z1:=hT2.vc 1 rfl
    have z2:=hT2.vc 2 rfl
    have y0:=hT2.vf 0
    have y1:=hT2.vf 1
    have y2:=hT2.vf 2
    have x0:=hT2.rf 0
    have x1:=hT2.rf 1
    have x2:=hT2.rf 2
    have r0:=hT2.rc 0 rfl
    have r1:=hT2.rc 1 rfl
    have r2:=hT2.rc 2 rfl
    go_wp2
    have hTR:=((hT2.res h 0 (.string ⟨#[]⟩) rfl).res h 1 (.int .i64 tv) rfl).res h 2 (.int .i64 (ps c a)) rfl
    refine bodyPost_ret (res_c rfl _ _ W.heap.size 67 _ (0,0) _ rfl hTR.rb Tryz.underlying67 rfl (by kernel_rfl)) rfl (Post.mk_ok hTR.fr rfl (hTR.st hG h))
  | bad p er =>
   rw [ho] at WT
   show Calls _ _ _ _ (Post c W fp fe repC (.bad p er))
   clear ho k1 e0 hb
   go_enter Tryz.func96,Tryz.ntmps96
   go_wp2_with (first|(go_at_call 56;with_reducible refine (PS _).mono ?_;rintro e w' ⟨rfl,q,rfl⟩)|(go_at_call 55;with_reducible refine (KD _ _ _).mono ?_;rintro e w' ⟨rfl,q2,rfl⟩)|(go_at_call 98;(with_reducible refine (TK _ _ _ _).mono ?_);rintro e w' ⟨hg,⟨v,rfl,rfl⟩,hS⟩;have hT:=(Two.lit (r:=C67 ⟨#[]⟩ 0 0) (v:=C67 ⟨#[]⟩ 0 (ps c a)) (t:=67) h _ _).call h hg hS)|(go_at_call 59;(with_reducible refine (WT _ hS).mono ?_);rintro e w2 ⟨hg2,rfl,a',d',hS2⟩))
   exact ⟨rfl,Post.mk_bad (Q4 hT.fr hg2) hS2⟩
end Go.Proofs.YtgaoapnaplgaiaaGreatDoor.Sc
