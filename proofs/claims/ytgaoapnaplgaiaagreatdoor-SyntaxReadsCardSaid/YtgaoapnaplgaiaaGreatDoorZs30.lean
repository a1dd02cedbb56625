/- This claim's own texts, joined, with only what the claim uses: ScnT, ParZi, AwkA. -/
import Derived.Test.YtgaoapnaplgaiaaGreatDoorZs29
import Derived.Test.YtgaoapnaplgaiaaGreatDoorZs26
namespace Go.Proofs.YtgaoapnaplgaiaaGreatDoor.Sc
open Go.RowKit
theorem numOf_from (l:List Int):∀v:Int,0≤v→(∀c ∈ l,48≤c)→0≤l.foldl (fun v c=>min (10 * v+(c - 48)) 2147483649) v:=by
 induction l with
 | nil=>exact fun v h _=>h
 | cons c t ih =>
  intro v h hc
  rw [List.foldl_cons]
  have:=hc c (by simp)
  exact ih _ (by omega) fun d hd=>hc d (by simp [hd])
theorem one_fine {K:List Int→Int} (hK:∀s,0≤K s) {l:List Int} {k:Int} {n:Nat} {v:Int} (h:one K l=.ok (k,n,v)):1≤k∧0≤v∧v≤2147483648:=by
 unfold one at h
 split at h
 ·cases h
 ·rename_i c t
  split at h
  ·split at h
   ·split at h
    ·cases h
    ·cases h;omega
   ·rename_i h0
    have:=hK ((c :: t).take (rL isWord (c :: t)))
    cases h;omega
  ·split at h
   ·split at h
    ·cases h
    ·rename_i h0
     have:0≤numOf ((c :: t).take (rL iD (c :: t))):=numOf_from _ 0 (Int.le_refl _) fun d hd=>by
      have:=runLen_all iD _ d hd
      simp [iD] at this
      omega
     cases h;omega
   ·split at h
    ·rename_i h0
     have:=hK ((c :: t).take 2)
     cases h;omega
    ·split at h
     ·rename_i h0
      have:=hK ((c :: t).take 1)
      cases h;omega
     ·cases h
structure TokFine (n:Nat) (t:Tok):Prop where
 kind:1≤t.1
 num:0≤t.2.2.2∧t.2.2.2≤2147483648
 place:0≤t.2.1∧t.2.1≤t.2.2.1∧t.2.2.1≤(n:Int)
theorem scanF_fine {K:List Int→Int} (hK:∀s,0≤K s) {n:Nat} {L:List Tok}:∀(f:Nat) (l:List Int) (p:Nat) (acc:List Tok),p+l.length=n→acc.length≤16384→(∀t ∈ acc,TokFine n t)→scanF K f l p acc=.toks L→L.length≤16384∧∀t ∈ L,TokFine n t
 | 0,_,_,acc,_,ha,hf,h=>by cases h;exact ⟨ha,hf⟩
 | _+1,[],_,acc,_,ha,hf,h=>by cases h;exact ⟨ha,hf⟩
 | f+1,c :: t,p,acc,hl,ha,hf,h=>by
  have hlt:(c :: t).length=t.length+1:=rfl
  rw [hlt] at hl
  simp only [scanF] at h
  split at h
  ·exact scanF_fine hK f t (p+1) acc (by omega) ha hf h
  ·split at h
   ·cases h
   ·rename_i k hk
    have:=cmAt_long hk
    exact scanF_fine hK f _ (p+k) acc (by rw [List.length_drop];omega) ha hf h
   ·split at h
    ·split at h
     ·cases h
     ·split at h <;> cases h
    ·rename_i k m v ho
     have h1:=one_len ho
     have h2:=one_fine hK ho
     split at h
     ·cases h
     ·refine scanF_fine hK f _ (p+m) _ (by rw [List.length_drop];omega) (by simp;omega) (fun u hu=>?_) h
      rcases List.mem_append.mp hu with hu | hu
      ·exact hf u hu
      ·rw [List.mem_singleton.mp hu]
       exact ⟨h2.1,h2.2,by dsimp only;omega⟩
theorem scan_fine {xs:List Int} {L:List Tok} (h:scan KB xs 0 []=.toks L):L.length≤16384∧∀t ∈ L,TokFine xs.length t :=
 scanF_fine (fun s=>(KB_range s).1) _ xs 0 [] (by omega) (by simp) (fun t ht=>by simp at ht) h
theorem one_errs {K:List Int→Int} {l:List Int} {e:Int} (h:one K l=.error e):e=31∨e=33∨e=34:=by
 unfold one at h
 repeat' split at h
 all_goals first | (cases h;done)|(cases h;omega)
theorem scanF_err {K:List Int→Int} {q e:Int}:∀(f:Nat) (l:List Int) (p:Nat) (acc:List Tok),scanF K f l p acc=.bad q e→31≤e∧e≤35
 | 0,_,_,acc,h=>by cases h
 | _+1,[],_,acc,h=>by cases h
 | f+1,c :: t,p,acc,h=>by
  simp only [scanF] at h
  split at h
  ·exact scanF_err f _ _ _ h
  ·split at h
   ·cases h;omega
   ·exact scanF_err f _ _ _ h
   ·split at h
    ·rename_i e' ho
     have:=one_errs ho
     split at h
     ·cases h;omega
     ·split at h <;> (cases h;omega)
    ·split at h
     ·cases h;omega
     ·exact scanF_err f _ _ _ h
theorem scan_err {xs:List Int} {q e:Int} (h:scan KB xs 0 []=.bad q e):31≤e∧e≤35:=scanF_err _ xs 0 [] h
end Go.Proofs.YtgaoapnaplgaiaaGreatDoor.Sc
namespace Go.Proofs.YtgaoapnaplgaiaaGreatDoor.Sc
set_option maxRecDepth 100000
open Go.RowKit Tk Go.Proofs.YtgaoapnaplgaiaaGreatDoor.Wd
inductive Parsed (n:Nat) (xs:List Int):Option Tre→Int→Int→Prop
 | long:65536<n→Parsed n xs none 0 30
 | scan {p er:Int}:n≤65536→scan KB xs 0 []=.bad p er→Parsed n xs none p er
 | bad {c:Ctx} {p er:Int}:n≤65536→c.n=n→c.xs=xs→scan KB xs 0 []=.toks c.L→pS c 0 0=.bad p er→Parsed n xs none p er
 | ok {c:Ctx} {x:Tre} {a:Nat} {d:Int}:n≤65536→c.n=n→c.xs=xs→scan KB xs 0 []=.toks c.L→pS c 0 0=.ok x a d→Parsed n xs (some x) 0 0
abbrev zeroT:Value:=.agg #[.slice none 0 0,.slice none 0 0,.slice none 0 0,.slice none 0 0]
structure ParseOut (n:Nat) (xs:List Int) (w:World) (e:Ending) (W:World):Prop where
 below:Below w.heap.size w W
 ans:∃o p er v,Parsed n xs o p er∧e=.returned (.tuple #[v,fault p er])∧(o=none→v=zeroT)∧∀x,o=some x→repTree w.heap.size W v x
theorem ParseOut.bad {n:Nat} {xs:List Int} {w W:World} {p er:Int} (hb:Below w.heap.size w W) (hP:Parsed n xs none p er):ParseOut n xs w (.returned (.tuple #[zeroT,fault p er])) W :=
 ⟨hb,none,p,er,zeroT,hP,rfl,(fun _=>rfl),(fun x h=>by cases h)⟩
theorem ParseOut.ok {n:Nat} {xs:List Int} {w W:World} {x:Tre} {v:Value} (hb:Below w.heap.size w W) (hP:Parsed n xs (some x) 0 0) (hr:repTree w.heap.size W v x):ParseOut n xs w (.returned (.tuple #[v,fault 0 0])) W :=
 ⟨hb,some x,0,0,v,hP,rfl,(fun h=>by cases h),(fun y h=>by cases h;exact hr)⟩
theorem parse_results (tmps:Array Value) (W:World) (t f:Nat) (c0 c1:Array Value) (h2:tmps.getD 2 undef=.pointer (some ⟨t,0,none⟩)) (h3:tmps.getD 3 undef=.pointer (some ⟨f,0,none⟩))
  (ht:W.heap[t]?=some (.cells c0 27 (0,0))) (hf:W.heap[f]?=some (.cells c1 30 (0,0))) (z0:c0.size=4) (z1:c1.size=2) :
  (results Tryz.f10 tmps).run Tryz.prog W=.ok (.tuple #[.agg c0,.agg c1]) W:=by
 have e0:=run_loadVar_row (P:=Tryz.prog) W t 27 27 c0 (0,0) _ ht Tryz.underlying27 rfl (by rw [z0];kernel_rfl)
 have e1:=run_loadVar_row (P:=Tryz.prog) W f 30 30 c1 (0,0) _ hf Tryz.underlying30 rfl (by rw [z1];kernel_rfl)
 have h2':tmps[2]?.getD undef=.pointer (some ⟨t,0,none⟩):=by simpa using h2
 have h3':tmps[3]?.getD undef=.pointer (some ⟨f,0,none⟩):=by simpa using h3
 simp [results,Tryz.results10,asAddr,h2',h3',e0,e1]
theorem parse_ret {Q:Ending→World→Prop} (tmps:Array Value) (W:World) (t f:Nat) (c0 c1:Array Value) (h2:tmps.getD 2 undef=.pointer (some ⟨t,0,none⟩)) (h3:tmps.getD 3 undef=.pointer (some ⟨f,0,none⟩))
  (ht:W.heap[t]?=some (.cells c0 27 (0,0))) (hf:W.heap[f]?=some (.cells c1 30 (0,0))) (z0:c0.size=4) (z1:c1.size=2) (hQ:Q (.returned (.tuple #[.agg c0,.agg c1])) W) :
  Leaves Tryz.prog Tryz.f10 tmps Q [] .returning W:=⟨_,parse_results tmps W t f c0 c1 h2 h3 ht hf z0 z1,hQ⟩
def ToEnd (R:Array Value→List Deferred→World→Prop):Exit→Act→World→Prop
 | .normal,a,w=>R a.tmps a.defers w
 | _,_,_=>False
structure EndAt (w:World) (c0 c1:Array Value) (tmps:Array Value) (ds:List Deferred) (W:World):Prop where
 nd:ds=[]
 h2:tmps.getD 2 undef=.pointer (some ⟨w.heap.size,0,none⟩)
 h3:tmps.getD 3 undef=.pointer (some ⟨w.heap.size+1,0,none⟩)
 ht:W.heap[w.heap.size]?=some (.cells c0 27 (0,0))
 hf:W.heap[w.heap.size+1]?=some (.cells c1 30 (0,0))
 hb:Below w.heap.size w W
theorem EndAt.mk_drew {w X:World} {c0 c1 tm:Array Value} (h2:tm.getD 2 undef=.pointer (some ⟨w.heap.size,0,none⟩)) (h3:tm.getD 3 undef=.pointer (some ⟨w.heap.size+1,0,none⟩)) (k0:X.heap[w.heap.size]?=some (.cells c0 27 (0,0))) (k1:X.heap[w.heap.size+1]?=some (.cells c1 30 (0,0)))
  (k2:∀lo,lo≤w.heap.size→lo≤w.heap.size+1→lo≤w.heap.size→Below lo w X):ToEnd (EndAt w c0 c1) .normal ⟨tm,[]⟩ X.drew :=
 ⟨rfl,h2,h3,k0,k1,(k2 _ (Nat.le_refl _) (Nat.le_succ _) (Nat.le_refl _)).drew⟩
theorem EndAt.leaves {w W:World} {c0 c1 tm:Array Value} {ds:List Deferred} {Q:Ending→World→Prop} (h:EndAt w c0 c1 tm ds W) (z0:c0.size=4) (z1:c1.size=2) (hQ:Q (.returned (.tuple #[.agg c0,.agg c1])) W):Leaves Tryz.prog Tryz.f10 tm Q ds .returning W:=by
 obtain ⟨rfl,h2,h3,ht,hf,-⟩:=h
 exact parse_ret tm W _ _ c0 c1 h2 h3 ht hf z0 z1 hQ
inductive ScanOut (n:Nat) (xs:List Int) (w:World):Ending→World→Prop
 | bad (p er:Int) {W:World}:Below w.heap.size w W→Parsed n xs none p er→er≠0→ScanOut n xs w (.returned (.tuple #[.slice none 0 0,.agg #[.int .i64 p,.int .i64 er]])) W
 | toks (l:List Tok) (v:Value) {W:World}:Below w.heap.size w W→n≤65536→scan KB xs 0 []=.toks l→W.ownsRow (w.heap.size+2) 44 4 v l.length (cellsOf l)→ScanOut n xs w (.returned (.tuple #[v,.agg #[.int .i64 0,.int .i64 0]])) W
theorem scan_out (A:Option Addr) (n cap:Nat) (xs:List Int) (w:World) (hcap:n≤cap) (hx:xs.length=n) (hB:∀c ∈ xs,Byte c) (hT:HasTab w) (hL:Lies w A n xs) (hA:∀a,A=some a→a.block<w.heap.size) (hm:∃m,w.cell? ⟨2,0,none⟩=some (.int .i64 m)) :
  Calls Tryz.prog 14 #[.slice A n cap] w (ScanOut n xs w):=by
 rcases Nat.lt_or_ge 65536 n with h | h
 ·refine (scan_long A n cap w h).mono ?_
  rintro e W ⟨hb,rfl⟩
  exact .bad _ _ hb (.long h) (by omega)
 ·refine scan_short A n cap xs w h hcap hx hB hT hL hA hm _ (fun p er W hs hb=>?_) fun l v W hs hb ho=>.toks _ _ hb h hs ho
  have:=scan_err hs
  exact .bad _ _ hb (.scan h hs) (by omega)
theorem add_at (g k:Nat):(⟨g,0,none⟩:Addr).add k=⟨g,k,none⟩:=by
 unfold Addr.add
 split
 ·rename_i h;rw [h]
 ·simp
theorem cellsOf_get:∀(l:List Tok) (i:Nat),i<l.length→(cellsOf l)[i * 4]?=some (.int .i64 (l.getD i zTok).1)∧(cellsOf l)[i * 4+1]?=some (.int .i64 (l.getD i zTok).2.1)∧(cellsOf l)[i * 4+2]?=some (.int .i64 (l.getD i zTok).2.2.1)∧(cellsOf l)[i * 4+3]?=some (.int .i64 (l.getD i zTok).2.2.2)
 | [],i,h=>by simp at h
 | t :: l,0,_=>⟨rfl,rfl,rfl,rfl⟩
 | t :: l,i+1,h=>by
  have ih:=cellsOf_get l i (by simpa using h)
  rw [show (i+1) * 4=i * 4+1+1+1+1 by omega]
  exact ih
theorem own_toks {W:World} {base:Nat} {v:Value} {l:List Tok} (h:W.ownsRow base 44 4 v l.length (cellsOf l)):∃B tc,v=.slice B l.length tc∧l.length≤tc∧(∀x,B=some x→base≤x.block∧x.block<W.heap.size)∧TokAt W B l:=by
 rcases h.2 with ⟨h0,h1⟩|⟨g,cap,cur,h0,hb,hgg,hc,_⟩
 ·exact ⟨none,0,by rw [h1];exact h0,by omega,(fun x e=>by cases e),fun i hi=>by omega⟩
 ·refine ⟨some ⟨g,0,none⟩,cap,h0,hc,(fun x e=>by cases e;exact ⟨hb,bL hgg⟩),fun i hi=>?_⟩
  obtain ⟨q0,q1,q2,q3⟩:=cellsOf_get l i hi
  subst h0
  have e0:=h.cells (g:=g) rfl _ _ q0
  have e1:=h.cells (g:=g) rfl _ _ q1
  have e2:=h.cells (g:=g) rfl _ _ q2
  have e3:=h.cells (g:=g) rfl _ _ q3
  rw [add_at] at e0 e1 e2 e3
  refine ⟨_,rfl,?_⟩
  rw [add_at]
  exact ⟨e0,e1,e2,e3⟩
end Go.Proofs.YtgaoapnaplgaiaaGreatDoor.Sc
namespace Go.Proofs.YtgaoapnaplgaiaaGreatDoor.Sc
set_option maxRecDepth 100000
open Go.RowKit Tk
def awkTxt:List Int:=[105,110,105,116,123,125,108,111,111,112,123,120,61,40,49,41,59,125]
def awkL:List Tok:=[(13,0,4,0),(50,4,5,0),(52,5,6,0),(18,6,10,0),(50,10,11,0),(1,11,12,0),(44,12,13,0),(32,13,14,0),(2,14,15,1),(33,15,16,0),(41,16,17,0),(52,17,18,0)]
def awkT:Tre:=⟨[],[],[],[.mk 1 ⟨#[120]⟩ nN [.mk 1 1 nN [] 14] [] [] 11]⟩
theorem awk_scan:scan KB awkTxt 0 []=.toks awkL:=by kernel_rfl
theorem awk_prog (g:Nat) (A:Option Addr) (cap:Nat) (B:Option Addr) (tc:Nat):pS ⟨g,A,18,cap,awkTxt,B,tc,awkL⟩ 0 0=.ok awkT 12 0:=by kernel_rfl
theorem awk_parsed {o:Option Tre} {p er:Int} (h:Parsed 18 awkTxt o p er):o=some awkT∧p=0∧er=0:=by
 cases h with
 | long h=>omega
 | scan h hb=>rw [awk_scan] at hb;cases hb
 | @bad c p er hn e1 e2 e3 hp =>
  rw [awk_scan] at e3
  obtain ⟨g,A,n,cap,xs,B,tc,L⟩:=c
  cases e3
  cases e1
  cases e2
  exact absurd ((awk_prog g A cap B tc).symm.trans hp) (by intro h;cases h)
 | @ok c x a d hn e1 e2 e3 hp =>
  rw [awk_scan] at e3
  obtain ⟨g,A,n,cap,xs,B,tc,L⟩:=c
  cases e3
  cases e1
  cases e2
  have hq:=(awk_prog g A cap B tc).symm.trans hp
  cases hq
  exact ⟨rfl,rfl,rfl⟩
def Cs (w:World) (b:Addr) (cs:List Value):Prop:=∀i u,cs[i]?=some u→w.cell? (b.add i)=some u
theorem Cs.below {w w':World} {b:Addr} {cs:List Value} (h:Cs w b cs) {B:Nat} (hb:Below B w w') (hB:b.block<B):Cs w' b cs:=fun i u hu=>(hb.cell (by rw [add_block];exact hB)).trans (h i u hu)
structure AwkAt (B:Nat) (w:World) (b4 b1:Addr) (k1:Nat) (A5:Option Addr) (k5:Nat) (A6:Option Addr) (k6:Nat) (A7:Option Addr) (k7:Nat):Prop where
 l4:b4.block<B
 l1:b1.block<B
 s:Cs w b4 (stCells 1 ⟨#[120]⟩ nN (some b1) 1 k1 A5 0 k5 A6 0 k6 11)
 e:Cs w b1 (eC 1 1 nN A7 0 k7 14)
 h1:1≤k1
theorem AwkAt.below {B:Nat} {w w':World} {b4 b1:Addr} {k1:Nat} {A5:Option Addr} {k5:Nat} {A6:Option Addr} {k6:Nat} {A7:Option Addr} {k7:Nat} (h:AwkAt B w b4 b1 k1 A5 k5 A6 k6 A7 k7) (hb:Below B w w'):AwkAt B w' b4 b1 k1 A5 k5 A6 k6 A7 k7 :=
 ⟨h.l4,h.l1,h.s.below hb h.l4,h.e.below hb h.l1,h.h1⟩
theorem AwkAt.more {B B':Nat} {w:World} {b4 b1:Addr} {k1:Nat} {A5:Option Addr} {k5:Nat} {A6:Option Addr} {k6:Nat} {A7:Option Addr} {k7:Nat} (h:AwkAt B w b4 b1 k1 A5 k5 A6 k6 A7 k7) (hb:B≤B'):AwkAt B' w b4 b1 k1 A5 k5 A6 k6 A7 k7 :=
 ⟨Nat.lt_of_lt_of_le h.l4 hb,Nat.lt_of_lt_of_le h.l1 hb,h.s,h.e,h.h1⟩
theorem awk_at {lo:Nat} {W:World} {v:Value} (h:repTree lo W v awkT):∃A1 c1 A2 c2 A3 c3 b4 c4 b1 k1 A5 k5 A6 k6 A7 k7,v=.agg #[.slice A1 0 c1,.slice A2 0 c2,.slice A3 0 c3,.slice (some b4) 1 c4]∧1≤c4∧AwkAt W.heap.size W b4 b1 k1 A5 k5 A6 k6 A7 k7:=by
 obtain ⟨A1,n1,c1,A2,n2,c2,A3,n3,c3,A4,n4,c4,rfl,⟨h1,h1'⟩,⟨h2,h2'⟩,r1,r2,r3,r4⟩:=h
 obtain ⟨B3,k3,us3,e3,l3,-,-⟩:=r3
 obtain ⟨B4,k4,us4,e4,l4,q4,s4⟩:=r4
 cases h1
 cases h2
 cases e3
 cases e4
 rw [show awkT.loop=[.mk 1 ⟨#[120]⟩ nN [.mk 1 1 nN [] 14] [] [] 11] from rfl,RepSs] at s4
 obtain ⟨v4,vs,rfl,s4,s5⟩:=s4
 rw [RepSs] at s5
 subst s5
 rw [RepS] at s4
 obtain ⟨D1,d1,v1,D2,d2,v3,D3,d3,rfl,m1,m2,m3,r1,q1,r2,q2,r3⟩:=s4
 rw [RepEs] at q1
 obtain ⟨v5,vs5,rfl,q1,q5⟩:=q1
 rw [RepEs] at q5
 subst q5
 rw [RepE] at q1
 obtain ⟨E1,f1,u1,rfl,-,-,-⟩:=q1
 obtain ⟨b4,rfl,hb4,_⟩:=q4 0 (.int .i64 1) rfl
 obtain ⟨b1,rfl,hb1,_⟩:=r1 0 (.int .i64 1) rfl
 have g4:Cs W b4 (stCells 1 ⟨#[120]⟩ nN (some b1) 1 d1 D2 0 d2 D3 0 d3 11):=fun i u hu=>by
  obtain ⟨b,e,_,hc⟩:=q4 i u (by simpa using hu)
  cases e
  exact hc
 have g1:Cs W b1 (eC 1 1 nN E1 0 f1 14):=fun i u hu=>by
  obtain ⟨b,e,_,hc⟩:=r1 i u (by simpa using hu)
  cases e
  exact hc
 have z4:=World.block_lt_of_cell? W _ (g4 0 _ rfl)
 have z1:=World.block_lt_of_cell? W _ (g1 0 _ rfl)
 rw [add_block] at z4 z1
 exact ⟨A1,c1,A2,c2,A3,c3,b4,c4,b1,d1,D2,d2,D3,d3,E1,f1,rfl,l4,⟨z4,z1,g4,g1,m1⟩⟩
end Go.Proofs.YtgaoapnaplgaiaaGreatDoor.Sc
