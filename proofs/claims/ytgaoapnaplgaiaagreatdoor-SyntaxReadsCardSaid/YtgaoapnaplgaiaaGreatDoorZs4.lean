/- This claim's own texts, joined, with only what the claim uses: ScanC. -/
import Derived.Test.YtgaoapnaplgaiaaGreatDoorZs3
import Derived.Lib.Hide
import Derived.Lib.SlBytesConst
namespace Go.Proofs.YtgaoapnaplgaiaaGreatDoor.Sc
set_option maxRecDepth 100000
open Go.RowKit
def At (w:World) (g:Nat) (A:Option Addr) (n cap:Nat) (xs:List Int) (p:Nat) (W:World):Prop :=
 w.grownBy W (some g)∧W.cell? ⟨g,0,none⟩=some (.slice A n cap)∧W.cell? ⟨g,1,none⟩=some (.int .i64 p)∧W.frozen? ⟨g,1,none⟩=false∧Lies W A n xs∧∃m,W.cell? ⟨2,0,none⟩=some (.int .i64 m)
theorem At.drewN {w W:World} {g:Nat} {A:Option Addr} {n cap p:Nat} {xs:List Int} (h:At w g A n cap xs p W) (q:Nat):At w g A n cap xs p (W.drewN q) :=
 ⟨Q6 h.1 q,h.2.1,h.2.2.1,h.2.2.2.1,h.2.2.2.2.1,h.2.2.2.2.2⟩
theorem Lies.below {w w':World} {A:Option Addr} {n:Nat} {xs:List Int} (h:Lies w A n xs) (hb:Below w.heap.size w w'):Lies w' A n xs:=by
 intro i hi
 obtain ⟨a,rfl,ha⟩:=h i hi
 exact ⟨a,rfl,(hb.cell (World.block_lt_of_cell? w _ ha)).trans ha⟩
theorem At.below {w W W':World} {g:Nat} {A:Option Addr} {n cap p:Nat} {xs:List Int} (h:At w g A n cap xs p W) (hb:Below W.heap.size W W'):At w g A n cap xs p W':=by
 obtain ⟨h1,h2,h3,h4,h5,m,h6⟩:=h
 refine ⟨Q4 h1 ⟨hb.os,hb.tape,hb.output,hb.size,fun k hk _=>hb.block k hk⟩,?_,?_,?_,h5.below hb,m,?_⟩
 ·exact (hb.cell (World.block_lt_of_cell? W _ h2)).trans h2
 ·exact (hb.cell (World.block_lt_of_cell? W _ h3)).trans h3
 ·exact (hb.frozen (p:=⟨g,1,none⟩) (World.block_lt_of_cell? W _ h3)).trans h4
 ·exact (hb.cell (World.block_lt_of_cell? W _ h6)).trans h6
theorem At.alloc {w W:World} {g:Nat} {A:Option Addr} {n cap p:Nat} {xs:List Int} (h:At w g A n cap xs p W) (o:Obj):At w g A n cap xs p (W.alloc o) :=
 h.below ((Below.refl _ _).alloc (Nat.le_refl _) o)
theorem At.put {w W:World} {g:Nat} {A:Option Addr} {n cap p:Nat} {xs:List Int} (h:At w g A n cap xs p W) (hg:g≠2) (hA:∀a,A=some a→a.block≠g) (z:Int) (p':Nat) (hz:z=(p':Int)):At w g A n cap xs p' (W.setCell ⟨g,1,none⟩ (.int .i64 z)):=by
 subst hz
 obtain ⟨h1,h2,h3,h4,h5,m,h6⟩:=h
 have hg2:=gP (k:=1) (World.grownBy.refl W (some g)) (.int .i64 (p':Int))
 refine ⟨gP h1 _,?_,?_,?_,h5.grown hg2 hA,m,hg2.cell h6 (fun e=>by cases e;exact hg rfl)⟩
 ·go_simp
 ·go_simp
 ·go_simp
def placeOf (g:Nat) (W:World):Nat:=match W.cell? ⟨g,1,none⟩ with | some (.int _ z)=>z.toNat | _=>0
theorem At.place {w W:World} {g:Nat} {A:Option Addr} {n cap p:Nat} {xs:List Int} (h:At w g A n cap xs p W):placeOf g W=p:=by
 unfold placeOf;rw [h.2.2.1];simp
def Stuck (l:List Int):Prop:=(∀c t,l=c :: t→isBlank c=false)∧cmAt l=.no
def front (a b:Int):List Int→Bool
 | c :: d :: _=>decide (c=a∧d=b)
 | _=>false
abbrev two8 (a b:Int) (fr:Nat × Nat):Obj:=.cells #[.int .u8 a,.int .u8 b] 5 fr
theorem conv_two (W:World) (a b:Int):(convert 22 22 (.slice (some ⟨W.heap.size,0,none⟩) 2 2)).run Tryz.prog (W.alloc (.cells #[.int .u8 a,.int .u8 b] 5))=.ok (.slice (some ⟨W.heap.size,0,none⟩) 2 2) (W.alloc (two8 a b (2,3))) :=
 Lib.run_convert_bytes_const W 22 5 #[.int .u8 a,.int .u8 b] 2 2 Tryz.underlying22 Tryz.underlying5
theorem two_cells (W:World) (a b:Int) (fr:Nat × Nat):∀i,i<2→(W.alloc (two8 a b fr)).cell? (Addr.add ⟨W.heap.size,0,none⟩ i)=some (.int .u8 (([a,b]:List Int).getD i 0)):=by
 intro i hi
 have:i=0∨i=1:=by omega
 rcases this with rfl | rfl
 ·exact (World.cell?_alloc_mark W #[.int .u8 a,.int .u8 b] 5 fr 0).trans rfl
 ·exact (World.cell?_alloc_mark W #[.int .u8 a,.int .u8 b] 5 fr 1).trans rfl
theorem pre_two (a b:Int) (ha:Byte a) (hb:Byte b) (W:World) (A:Option Addr) (n cap:Nat) (l:List Int) (hl:l.length=n) (hcap:n≤cap) (hB:∀c ∈ l,Byte c) (hL:Lies W A n l) (fr:Nat × Nat) :
  Calls Tryz.prog 73 #[.slice A n cap,.slice (some ⟨W.heap.size,0,none⟩) 2 2] (W.alloc (two8 a b fr)) fun e w'=>e=.returned (.bool (front a b l))∧w'=W.alloc (two8 a b fr):=by
 obtain ⟨ha0,ha1⟩:=ha
 obtain ⟨hb0,hb1⟩:=hb
 obtain ⟨a,rfl⟩:=Int.eq_ofNat_of_zero_le ha0
 obtain ⟨b,rfl⟩:=Int.eq_ofNat_of_zero_le hb0
 have:=Tryz.bytes_HasPrefix_all A (some ⟨W.heap.size,0,none⟩) n cap 2 2 l [(a:Int),(b:Int)] (W.alloc (two8 a b fr)) hl rfl hcap (hL.below ((Below.refl _ _).alloc (Nat.le_refl _) _)).bytes (Lib.BytesIn.of_cells (two_cells W a b fr))
 rw [two_prefix a b (by omega) (by omega) l hB] at this
 exact this
def tla (a:Addr) (cap l:Nat):Addr:=if cap=l then a else a.add l
theorem tl_some (a:Addr) (cap l:Nat):tl (some a) cap l=some (tla a cap l):=by unfold tl tla;split <;> rfl
theorem Lies.at {W:World} {a:Addr} {n:Nat} {xs:List Int} (h:Lies W (some a) n xs):∀i,i<n→W.cell? (a.add i)=some (.int .u8 (xs.getD i 0)):=fun i hi=>by
 obtain ⟨a',e,hc⟩:=h i hi
 cases e;exact hc
theorem cm_no {l:List Int} (h1:front 47 47 l=false) (h2:front 47 42 l=false):cmAt l=.no:=by
 match l with
 | []=>rfl
 | [_]=>rfl
 | c :: d :: t =>
  rw [cmAt_two,if_neg (of_decide_eq_false h1),if_neg (of_decide_eq_false h2)]
theorem cm_line {l:List Int} (h1:front 47 47 l=true):cmAt l=.long (rL (fun c=>c != 10) l):=by
 match l with
 | []=>cases h1
 | [_]=>cases h1
 | c :: d :: t =>
  obtain ⟨rfl,rfl⟩:=of_decide_eq_true h1
  rw [cmAt_two,if_pos ⟨rfl,rfl⟩]
  rfl
theorem cm_block {l:List Int} (h1:front 47 42 l=true):2≤l.length∧cmAt l=(match closeAt (l.drop 2) with | some m=>.long (m+4) | none=>.opens):=by
 match l with
 | []=>cases h1
 | [_]=>cases h1
 | c :: d :: t =>
  obtain ⟨rfl,rfl⟩:=of_decide_eq_true h1
  exact ⟨by simp,rfl⟩
theorem cls3 (z:Int):(cls z==3)=isBlank z:=by
 rw [Bool.eq_iff_iff,beq_iff_eq,cls_eq]
 unfold isBlank
 simp only [Bool.or_eq_true,beq_iff_eq]
 repeat' split
 all_goals omega
noncomputable def rest0:Code:=match Tryz.f39.body with | some (.seq _ (.scope (.seq _ b)))=>b | _=>.skip
noncomputable def rest1:Code:=match Tryz.f39.body with | some (.seq _ (.scope c))=>(findLabel c 1).getD .skip | _=>.skip
set_option maxRecDepth 100000 in
set_option maxHeartbeats 4000000 in
theorem rest0_walk {g:Nat} {A:Option Addr} {n cap:Nat} {xs:List Int} {w:World} (hn:n≤65536) (hcap:n≤cap) (hx:xs.length=n) (hB:∀c ∈ xs,Byte c) (hg:g≠2) (hA:∀a,A=some a→a.block≠g)
  (J':Nat→Act→World→Prop) (Q':Exit→Act→World→Prop) (m:Nat) (hm:m≤n) (W:World) (h:At w g A n cap xs m W) (u3 u4 u5 u6 u7 u8 u9 u10 u11 u12 u13 u14 u15 u16 u17 u18 u19 u20 u21 u22 u23 u24 u25 u26 u27 u28 u29 u30 u31 u32 u33 u34 u35 u36 u37 u38 u39 u40 u41 u42 u43 u44 u45 u46 u47 u48 u49 u50 u51 u52 u53 u54 u55 u56 u57 u58 u59 u60 u61 u62 u63 u64 u65 u66 u67 u68 u69 u70 u71 u72 u73 u74 u75 u76 u77 u78 u79 u80 u81 u82 u83:Value)
  (hgo0:∀(m':Nat) (W':World) (u3 u4 u5 u6 u7 u8 u9 u10 u11 u12 u13 u14 u15 u16 u17 u18 u19 u20 u21 u22 u23 u24 u25 u26 u27 u28 u29 u30 u31 u32 u33 u34 u35 u36 u37 u38 u39 u40 u41 u42 u43 u44 u45 u46 u47 u48 u49 u50 u51 u52 u53 u54 u55 u56 u57 u58 u59 u60 u61 u62 u63 u64 u65 u66 u67 u68 u69 u70 u71 u72 u73 u74 u75 u76 u77 u78 u79 u80 u81 u82 u83:Value),At w g A n cap xs m' W'→m<m'→m'≤n→Gap (xs.drop m) (m' - m)→J' 0 ⟨List.toArray (.pointer (some ⟨g,0,none⟩) :: undef :: .bool false :: u3 :: u4 :: u5 :: u6 :: u7 :: u8 :: u9 :: u10 :: u11 :: u12 :: u13 :: u14 :: u15 :: u16 :: u17 :: u18 :: u19 :: u20 :: u21 :: u22 :: u23 :: u24 :: u25 :: u26 :: u27 :: u28 :: u29 :: u30 :: u31 :: u32 :: u33 :: u34 :: u35 :: u36 :: u37 :: u38 :: u39 :: u40 :: u41 :: u42 :: u43 :: u44 :: u45 :: u46 :: u47 :: u48 :: u49 :: u50 :: u51 :: u52 :: u53 :: u54 :: u55 :: u56 :: u57 :: u58 :: u59 :: u60 :: u61 :: u62 :: u63 :: u64 :: u65 :: u66 :: u67 :: u68 :: u69 :: u70 :: u71 :: u72 :: u73 :: u74 :: u75 :: u76 :: u77 :: u78 :: u79 :: u80 :: u81 :: u82 :: u83 :: []),[]⟩ W')
  (hgo1:∀(m':Nat) (W':World) (u3 u4 u5 u6 u7 u8 u9 u10 u11 u12 u13 u14 u15 u16 u17 u18 u19 u20 u21 u22 u23 u24 u25 u26 u27 u28 u29 u30 u31 u32 u33 u34 u35 u36 u37 u38 u39 u40 u41 u42 u43 u44 u45 u46 u47 u48 u49 u50 u51 u52 u53 u54 u55 u56 u57 u58 u59 u60 u61 u62 u63 u64 u65 u66 u67 u68 u69 u70 u71 u72 u73 u74 u75 u76 u77 u78 u79 u80 u81 u82 u83:Value),At w g A n cap xs m' W'→m≤m'→m'≤n→Gap (xs.drop m) (m' - m)→cmAt (xs.drop m')=.opens→J' 1 ⟨List.toArray (.pointer (some ⟨g,0,none⟩) :: undef :: .bool false :: u3 :: u4 :: u5 :: u6 :: u7 :: u8 :: u9 :: u10 :: u11 :: u12 :: u13 :: u14 :: u15 :: u16 :: u17 :: u18 :: u19 :: u20 :: u21 :: u22 :: u23 :: u24 :: u25 :: u26 :: u27 :: u28 :: u29 :: u30 :: u31 :: u32 :: u33 :: u34 :: u35 :: u36 :: u37 :: u38 :: u39 :: u40 :: u41 :: u42 :: u43 :: u44 :: u45 :: u46 :: u47 :: u48 :: u49 :: u50 :: u51 :: u52 :: u53 :: u54 :: u55 :: u56 :: u57 :: u58 :: u59 :: u60 :: u61 :: u62 :: u63 :: u64 :: u65 :: u66 :: u67 :: u68 :: u69 :: u70 :: u71 :: u72 :: u73 :: u74 :: u75 :: u76 :: u77 :: u78 :: u79 :: u80 :: u81 :: u82 :: u83 :: []),[]⟩ W')
  (hret:∀(m':Nat) (W':World) (u3 u4 u5 u6 u7 u8 u9 u10 u11 u12 u13 u14 u15 u16 u17 u18 u19 u20 u21 u22 u23 u24 u25 u26 u27 u28 u29 u30 u31 u32 u33 u34 u35 u36 u37 u38 u39 u40 u41 u42 u43 u44 u45 u46 u47 u48 u49 u50 u51 u52 u53 u54 u55 u56 u57 u58 u59 u60 u61 u62 u63 u64 u65 u66 u67 u68 u69 u70 u71 u72 u73 u74 u75 u76 u77 u78 u79 u80 u81 u82 u83:Value),At w g A n cap xs m' W'→m≤m'→m'≤n→Gap (xs.drop m) (m' - m)→Stuck (xs.drop m')→Q' .ret ⟨List.toArray (.pointer (some ⟨g,0,none⟩) :: undef :: .bool true :: u3 :: u4 :: u5 :: u6 :: u7 :: u8 :: u9 :: u10 :: u11 :: u12 :: u13 :: u14 :: u15 :: u16 :: u17 :: u18 :: u19 :: u20 :: u21 :: u22 :: u23 :: u24 :: u25 :: u26 :: u27 :: u28 :: u29 :: u30 :: u31 :: u32 :: u33 :: u34 :: u35 :: u36 :: u37 :: u38 :: u39 :: u40 :: u41 :: u42 :: u43 :: u44 :: u45 :: u46 :: u47 :: u48 :: u49 :: u50 :: u51 :: u52 :: u53 :: u54 :: u55 :: u56 :: u57 :: u58 :: u59 :: u60 :: u61 :: u62 :: u63 :: u64 :: u65 :: u66 :: u67 :: u68 :: u69 :: u70 :: u71 :: u72 :: u73 :: u74 :: u75 :: u76 :: u77 :: u78 :: u79 :: u80 :: u81 :: u82 :: u83 :: []),[]⟩ W') :
  rest0.wp Tryz.prog (jumps J' Q') ⟨List.toArray (.pointer (some ⟨g,0,none⟩) :: undef :: .bool false :: u3 :: u4 :: u5 :: u6 :: u7 :: u8 :: u9 :: u10 :: u11 :: u12 :: u13 :: u14 :: u15 :: u16 :: u17 :: u18 :: u19 :: u20 :: u21 :: u22 :: u23 :: u24 :: u25 :: u26 :: u27 :: u28 :: u29 :: u30 :: u31 :: u32 :: u33 :: u34 :: u35 :: u36 :: u37 :: u38 :: u39 :: u40 :: u41 :: u42 :: u43 :: u44 :: u45 :: u46 :: u47 :: u48 :: u49 :: u50 :: u51 :: u52 :: u53 :: u54 :: u55 :: u56 :: u57 :: u58 :: u59 :: u60 :: u61 :: u62 :: u63 :: u64 :: u65 :: u66 :: u67 :: u68 :: u69 :: u70 :: u71 :: u72 :: u73 :: u74 :: u75 :: u76 :: u77 :: u78 :: u79 :: u80 :: u81 :: u82 :: u83 :: []),[]⟩ W:=by
 conv=>arg 2;whnf
 go_wp2
 go_loopw [] (fun w'=>∃m':Nat,At w g A n cap xs m' w'∧m≤m'∧m'≤n∧Gap (xs.drop m) (m' - m)) (fun w'=>n - placeOf g w')
 case atStart=>exact ⟨m,h,Nat.le_refl _,hm,by rw [Nat.sub_self];exact Gap.nil _⟩
 case round =>
  obtain ⟨m',hAt,h1,h2,hGap⟩:=hrel
  have hpl:=hAt.place
  obtain ⟨_,c0,c1,fr1,hL,mx,cM⟩:=id hAt
  by_cases hlt:m'<n
  ·obtain ⟨a0,rfl,hcell⟩:=hL m' hlt
   have hdr:=drop_at (xs:=xs) (i:=m') (by omega)
   generalize hz:xs.getD m' 0=z at hcell hdr
   have g0:(0:Int)≤(m':Int):=by omega
   have g1:(m':Int)<(n:Int):=by omega
   have hd:decide ((m':Int)<(n:Int))=true:=decide_eq_true g1
   have w2:IntKind.i64.wrap ((m':Int)+1)=(m':Int)+1:=IntWalk.i64_in _ (by omega)
   have e3:=cls3 z
   cases hbz:isBlank z with
   | true =>
    rw [hbz] at e3
    go_wp2
    go_quiet (first|(go_at_call 72;refine (class_walk z _).mono ?_;rintro e w2 ⟨rfl,rfl⟩;exact ⟨rfl,_,rfl⟩))
    go_wp2
    have hN:=(hAt.drewN nq).put hg hA ((m':Int)+1) (m'+1) (by push_cast;rfl)
    refine ⟨⟨m'+1,hN,by omega,by omega,?_⟩,by rw [hN.place,hpl];omega⟩
    have hG1:Gap ((xs.drop m).drop (m' - m)) 1:=by
     rw [List.drop_drop,show m+(m' - m)=m' by omega,hdr]
     exact Gap.blank z _ 0 hbz (Gap.nil _)
    have:=hGap.trans hG1
    rwa [show m' - m+1=m'+1 - m by omega] at this
   | false =>
    rw [hbz] at e3
    have hsb:∀c t,xs.drop m'=c :: t→isBlank c=false:=fun c t e=>by rw [hdr] at e;cases e;exact hbz
    have hsl:=slice_from
    have hlen:(xs.drop m').length=n - m':=by rw [List.length_drop,hx]
    have hBl:∀c ∈ xs.drop m',Byte c:=fun c hc=>hB c (List.mem_of_mem_drop hc)
    have hLl:∀q,Lies (wr.drewN q) (tl (some a0) cap m') (n - m') (xs.drop m'):=fun q=>Lies.from (w:=wr.drewN q) hL hcap
    have cv1:∀q,(convert 22 22 (.slice (some ⟨wr.heap.size,0,none⟩) 2 2)).run Tryz.prog ((wr.drewN q).alloc (.cells #[.int .u8 47,.int .u8 47] 5))=.ok (.slice (some ⟨wr.heap.size,0,none⟩) 2 2) ((wr.drewN q).alloc (two8 47 47 (2,3))):=fun q=>conv_two (wr.drewN q) 47 47
    have P1:∀q,Calls Tryz.prog 73 #[.slice (tl (some a0) cap m') (n - m') (cap - m'),.slice (some ⟨wr.heap.size,0,none⟩) 2 2] ((wr.drewN q).alloc (two8 47 47 (2,3))) fun e w'=>e=.returned (.bool (front 47 47 (xs.drop m')))∧w'=(wr.drewN q).alloc (two8 47 47 (2,3)):=fun q =>
     pre_two 47 47 (by unfold Byte;omega) (by unfold Byte;omega) (wr.drewN q) (tl (some a0) cap m') (n - m') (cap - m') (xs.drop m') hlen (by omega) hBl (hLl q) (2,3)
    have ca1:∀q,((wr.drewN q).alloc (two8 47 47 (2,3))).cell? ⟨g,1,none⟩=some (.int .i64 m'):=fun q=>((hAt.drewN q).alloc _).2.2.1
    have fa1:∀q,((wr.drewN q).alloc (two8 47 47 (2,3))).frozen? ⟨g,1,none⟩=false:=fun q=>((hAt.drewN q).alloc _).2.2.2.1
    cases hf1:front 47 47 (xs.drop m') with
    | true =>
     rw [hf1] at P1
     have hcm:=cm_line hf1
     have hcl:=cmAt_long hcm
     have hGk:=hGap.trans (j:=rL (fun c=>c != 10) (xs.drop m')) (by rw [List.drop_drop,show m+(m' - m)=m' by omega];simpa using Gap.comment _ _ 0 hcm (Gap.nil _))
     have hil:=index_line (xs.drop m') hBl
     generalize hk:rL (fun c=>c != 10) (xs.drop m')=k at hcm hcl hGk hil
     have PI:∀q,Calls Tryz.prog 74 #[.slice (tl (some a0) cap m') (n - m') (cap - m'),.int .u8 10] ((wr.drewN q).alloc (two8 47 47 (2,3))) fun e w'=>e=.returned (.int .i64 (Lib.indexByte (Lib.bytesOf (xs.drop m')) 10))∧w'=(wr.drewN q).alloc (two8 47 47 (2,3)):=fun q=>by
      have hc:=(hLl q).below ((Below.refl _ _).alloc (Nat.le_refl _) (two8 47 47 (2,3)))
      rw [tl_some] at hc ⊢
      exact Tryz.bytes_IndexByte_at _ _ _ (xs.drop m') 10 _ hlen hc.at
     rw [hil] at PI
     rw [hlen] at hcl hil PI
     obtain ⟨p2,hp2⟩:∃p2,m'+k=p2:=⟨_,rfl⟩
     have w3:IntKind.i64.wrap ((m':Int)+(k:Int))=(p2:Int):=by rw [IntWalk.i64_in _ (by omega)];omega
     by_cases hkn:k=n - m'
     ·rw [if_pos hkn] at PI
      subst hkn
      go_wp2
      go_quiet (first|(go_at_call 72;refine (class_walk z _).mono ?_;rintro e w2 ⟨rfl,rfl⟩;exact ⟨rfl,_,rfl⟩))
      go_wp2
      go_quiet (fail)
      go_wp2_with (first|(go_at_call 73;with_reducible refine (P1 _).mono ?_;rintro e w2 ⟨rfl,rfl⟩)|(go_at_call 74;with_reducible refine (PI _).mono ?_;rintro e w2 ⟨rfl,rfl⟩))
      go_step3
      exact hgo0 p2 _ _ _ _ _ _ _ _ _ _ _ _ _ _ _ _ _ _ _ _ _ _ _ _ _ _ _ _ _ _ _ _ _ _ _ _ _ _ _ _ _ _ _ _ _ _ _ _ _ _ _ _ _ _ _ _ _ _ _ _ _ _ _ _ _ _ _ _ _ _ _ _ _ _ _ _ _ _ _ _ _ _ (((hAt.drewN _).alloc _).put hg hA _ p2 rfl) (by omega) (by omega) (by rw [show p2 - m=m' - m+(n - m') by omega];exact hGk)
     ·rw [if_neg hkn] at PI
      have hk0:decide ((k:Int)<0)=false:=decide_eq_false (by omega)
      go_wp2
      go_quiet (first|(go_at_call 72;refine (class_walk z _).mono ?_;rintro e w2 ⟨rfl,rfl⟩;exact ⟨rfl,_,rfl⟩))
      go_wp2
      go_quiet (fail)
      go_wp2_with (first|(go_at_call 73;with_reducible refine (P1 _).mono ?_;rintro e w2 ⟨rfl,rfl⟩)|(go_at_call 74;with_reducible refine (PI _).mono ?_;rintro e w2 ⟨rfl,rfl⟩))
      go_step3
      exact hgo0 p2 _ _ _ _ _ _ _ _ _ _ _ _ _ _ _ _ _ _ _ _ _ _ _ _ _ _ _ _ _ _ _ _ _ _ _ _ _ _ _ _ _ _ _ _ _ _ _ _ _ _ _ _ _ _ _ _ _ _ _ _ _ _ _ _ _ _ _ _ _ _ _ _ _ _ _ _ _ _ _ _ _ _ (((hAt.drewN _).alloc _).put hg hA _ p2 rfl) (by omega) (by omega) (by rw [show p2 - m=m' - m+k by omega];exact hGk)
    | false =>
     rw [hf1] at P1
     have cv2:∀q,(convert 22 22 (.slice (some ⟨wr.heap.size+1,0,none⟩) 2 2)).run Tryz.prog (((wr.drewN q).alloc (two8 47 47 (2,3))).alloc (.cells #[.int .u8 47,.int .u8 42] 5))=.ok (.slice (some ⟨wr.heap.size+1,0,none⟩) 2 2) (((wr.drewN q).alloc (two8 47 47 (2,3))).alloc (two8 47 42 (2,3))):=fun q=>by
      have:=conv_two ((wr.drewN q).alloc (two8 47 47 (2,3))) 47 42
      simpa using this
     have P2:∀q,Calls Tryz.prog 73 #[.slice (tl (some a0) cap m') (n - m') (cap - m'),.slice (some ⟨wr.heap.size+1,0,none⟩) 2 2] (((wr.drewN q).alloc (two8 47 47 (2,3))).alloc (two8 47 42 (2,3))) fun e w'=>e=.returned (.bool (front 47 42 (xs.drop m')))∧w'=((wr.drewN q).alloc (two8 47 47 (2,3))).alloc (two8 47 42 (2,3)):=fun q=>by
      have:=pre_two 47 42 (by unfold Byte;omega) (by unfold Byte;omega) ((wr.drewN q).alloc (two8 47 47 (2,3))) (tl (some a0) cap m') (n - m') (cap - m') (xs.drop m') hlen (by omega) hBl ((hLl q).below ((Below.refl _ _).alloc (Nat.le_refl _) _)) (2,3)
      simpa using this
     cases hf2:front 47 42 (xs.drop m') with
     | true =>
      rw [hf2] at P2
      obtain ⟨hl2,hcm⟩:=cm_block hf2
      rw [hlen] at hl2
      have hsl2:∀w,(Instr.sliceAt 22 (.slice (tl (some a0) cap m') (n - m') (cap - m')) (some (.int .i64 2)) none none).run Tryz.prog w=.ok (.slice (tl (tl (some a0) cap m') (cap - m') 2) (n - m' - 2) (cap - m' - 2)) w:=fun w=>slice_from w (tl (some a0) cap m') (n - m') (cap - m') 2 hl2
      have cv3:∀q,(convert 22 22 (.slice (some ⟨wr.heap.size+1+1,0,none⟩) 2 2)).run Tryz.prog ((((wr.drewN q).alloc (two8 47 47 (2,3))).alloc (two8 47 42 (2,3))).alloc (.cells #[.int .u8 42,.int .u8 47] 5))=.ok (.slice (some ⟨wr.heap.size+1+1,0,none⟩) 2 2) ((((wr.drewN q).alloc (two8 47 47 (2,3))).alloc (two8 47 42 (2,3))).alloc (two8 42 47 (2,3))):=fun q=>by
       have:=conv_two (((wr.drewN q).alloc (two8 47 47 (2,3))).alloc (two8 47 42 (2,3))) 42 47
       simpa using this
      have hAt3:=fun q=>(((hAt.drewN q).alloc (two8 47 47 (2,3))).alloc (two8 47 42 (2,3))).alloc (two8 42 47 (2,3))
      have ca3:∀q,((((wr.drewN q).alloc (two8 47 47 (2,3))).alloc (two8 47 42 (2,3))).alloc (two8 42 47 (2,3))).cell? ⟨g,1,none⟩=some (.int .i64 m'):=fun q=>(hAt3 q).2.2.1
      have fa3:∀q,((((wr.drewN q).alloc (two8 47 47 (2,3))).alloc (two8 47 42 (2,3))).alloc (two8 42 47 (2,3))).frozen? ⟨g,1,none⟩=false:=fun q=>(hAt3 q).2.2.2.1
      have hlen2:((xs.drop m').drop 2).length=n - m' - 2:=by rw [List.length_drop,hlen]
      have hB2:∀c ∈ (xs.drop m').drop 2,Byte c:=fun c hc=>hBl c (List.mem_of_mem_drop hc)
      have PX:∀q,Calls Tryz.prog 75 #[.slice (tl (tl (some a0) cap m') (cap - m') 2) (n - m' - 2) (cap - m' - 2),.slice (some ⟨wr.heap.size+1+1,0,none⟩) 2 2] ((((wr.drewN q).alloc (two8 47 47 (2,3))).alloc (two8 47 42 (2,3))).alloc (two8 42 47 (2,3))) fun e w'=>e=.returned (.int .i64 (Lib.index (Lib.bytesOf ((xs.drop m').drop 2)) (Lib.bytesOf [42,47])))∧∃q',w'=((((wr.drewN q).alloc (two8 47 47 (2,3))).alloc (two8 47 42 (2,3))).alloc (two8 42 47 (2,3))).drewN q':=fun q=>by
       obtain ⟨mx,hmx⟩:=(hAt3 q).2.2.2.2.2
       have hc:=Lies.from (l:=2) ((((hLl q).below ((Below.refl _ _).alloc (Nat.le_refl _) (two8 47 47 (2,3)))).below ((Below.refl _ _).alloc (Nat.le_refl _) (two8 47 42 (2,3)))).below ((Below.refl _ _).alloc (Nat.le_refl _) (two8 42 47 (2,3)))) (cap:=cap - m') (by omega)
       rw [tl_some,tl_some] at hc ⊢
       have h2:=two_cells (((wr.drewN q).alloc (two8 47 47 (2,3))).alloc (two8 47 42 (2,3))) 42 47 (2,3)
       have e2:(((wr.drewN q).alloc (two8 47 47 (2,3))).alloc (two8 47 42 (2,3))).heap.size=wr.heap.size+1+1:=by simp
       rw [e2] at h2
       exact Tryz.bytes_Index_at _ _ _ _ 2 2 ((xs.drop m').drop 2) [42,47] mx _ hlen2 rfl hB2 (by simp) hc.at h2 (by omega) (by omega) (by omega) hmx
      rcases index_close _ hB2 with ⟨e1,e2⟩|⟨i,e1,e2⟩
      ·rw [e2] at PX
       rw [e1] at hcm
       go_wp2
       go_quiet (first|(go_at_call 72;refine (class_walk z _).mono ?_;rintro e w2 ⟨rfl,rfl⟩;exact ⟨rfl,_,rfl⟩))
       go_wp2
       go_quiet (fail)
       go_wp2_with (first|(go_at_call 73;with_reducible refine (P1 _).mono ?_;rintro e w2 ⟨rfl,rfl⟩)|(go_at_call 73;with_reducible refine (P2 _).mono ?_;rintro e w2 ⟨rfl,rfl⟩)|(go_at_call 75;with_reducible refine (PX _).mono ?_;rintro e w2 ⟨rfl,q2,rfl⟩))
       go_step3
       exact hgo1 m' _ _ _ _ _ _ _ _ _ _ _ _ _ _ _ _ _ _ _ _ _ _ _ _ _ _ _ _ _ _ _ _ _ _ _ _ _ _ _ _ _ _ _ _ _ _ _ _ _ _ _ _ _ _ _ _ _ _ _ _ _ _ _ _ _ _ _ _ _ _ _ _ _ _ _ _ _ _ _ _ _ _ ((hAt3 _).drewN _) h1 h2 hGap hcm
      ·rw [e2] at PX
       rw [e1] at hcm
       have hcl:=cmAt_long hcm
       rw [hlen] at hcl
       have hGk:=hGap.trans (j:=i+4) (by rw [List.drop_drop,show m+(m' - m)=m' by omega];simpa using Gap.comment _ _ 0 hcm (Gap.nil _))
       obtain ⟨p2,hp2⟩:∃p2,m'+(i+4)=p2:=⟨_,rfl⟩
       have hi0:decide ((i:Int)<0)=false:=decide_eq_false (by omega)
       have w3:IntKind.i64.wrap ((i:Int)+4)=(i:Int)+4:=by rw [IntWalk.i64_in _ (by omega)]
       have w4:IntKind.i64.wrap ((m':Int)+((i:Int)+4))=(p2:Int):=by rw [IntWalk.i64_in _ (by omega)];omega
       go_wp2
       go_quiet (first|(go_at_call 72;refine (class_walk z _).mono ?_;rintro e w2 ⟨rfl,rfl⟩;exact ⟨rfl,_,rfl⟩))
       go_wp2
       go_quiet (fail)
       go_wp2_with (first|(go_at_call 73;with_reducible refine (P1 _).mono ?_;rintro e w2 ⟨rfl,rfl⟩)|(go_at_call 73;with_reducible refine (P2 _).mono ?_;rintro e w2 ⟨rfl,rfl⟩)|(go_at_call 75;with_reducible refine (PX _).mono ?_;rintro e w2 ⟨rfl,q2,rfl⟩))
       go_step3
       exact hgo0 p2 _ _ _ _ _ _ _ _ _ _ _ _ _ _ _ _ _ _ _ _ _ _ _ _ _ _ _ _ _ _ _ _ _ _ _ _ _ _ _ _ _ _ _ _ _ _ _ _ _ _ _ _ _ _ _ _ _ _ _ _ _ _ _ _ _ _ _ _ _ _ _ _ _ _ _ _ _ _ _ _ _ _ (((hAt3 _).drewN _).put hg hA _ p2 rfl) (by omega) (by omega) (by rw [show p2 - m=m' - m+(i+4) by omega];exact hGk)
     | false =>
      rw [hf2] at P2
      have hst:Stuck (xs.drop m'):=⟨hsb,cm_no hf1 hf2⟩
      go_wp2
      go_quiet (first|(go_at_call 72;refine (class_walk z _).mono ?_;rintro e w2 ⟨rfl,rfl⟩;exact ⟨rfl,_,rfl⟩))
      go_wp2
      go_quiet (fail)
      go_wp2_with (first|(go_at_call 73;with_reducible refine (P1 _).mono ?_;rintro e w2 ⟨rfl,rfl⟩)|(go_at_call 73;with_reducible refine (P2 _).mono ?_;rintro e w2 ⟨rfl,rfl⟩))
      exact hret m' _ _ _ _ _ _ _ _ _ _ _ _ _ _ _ _ _ _ _ _ _ _ _ _ _ _ _ _ _ _ _ _ _ _ _ _ _ _ _ _ _ _ _ _ _ _ _ _ _ _ _ _ _ _ _ _ _ _ _ _ _ _ _ _ _ _ _ _ _ _ _ _ _ _ _ _ _ _ _ _ _ _ (((hAt.drewN _).alloc _).alloc _) h1 h2 hGap hst
  ·have hd:decide ((m':Int)<(n:Int))=false:=decide_eq_false (by omega)
   have g2:(m':Int)≤(n:Int):=by omega
   have hsl:∀w,(Instr.sliceAt 22 (.slice A n cap) (some (.int .i64 (m':Int))) none none).run Tryz.prog w=.ok (.slice (tl A cap m') (n - m') (cap - m')) w:=fun w=>slice_from w A n cap m' h2
   have hnil:xs.drop m'=[]:=List.drop_eq_nil_of_le (by omega)
   have cv1:∀q,(convert 22 22 (.slice (some ⟨wr.heap.size,0,none⟩) 2 2)).run Tryz.prog ((wr.drewN q).alloc (.cells #[.int .u8 47,.int .u8 47] 5))=.ok (.slice (some ⟨wr.heap.size,0,none⟩) 2 2) ((wr.drewN q).alloc (two8 47 47 (2,3))):=fun q=>conv_two (wr.drewN q) 47 47
   have hl0:([]:List Int).length=n - m':=by simp;omega
   have P1:∀q,Calls Tryz.prog 73 #[.slice (tl A cap m') (n - m') (cap - m'),.slice (some ⟨wr.heap.size,0,none⟩) 2 2] ((wr.drewN q).alloc (two8 47 47 (2,3))) fun e w'=>e=.returned (.bool false)∧w'=(wr.drewN q).alloc (two8 47 47 (2,3)):=fun q =>
    pre_two 47 47 (by unfold Byte;omega) (by unfold Byte;omega) (wr.drewN q) (tl A cap m') (n - m') (cap - m') [] hl0 (by omega) (by simp) (fun i hi=>by omega) (2,3)
   have cv2:∀q,(convert 22 22 (.slice (some ⟨wr.heap.size+1,0,none⟩) 2 2)).run Tryz.prog (((wr.drewN q).alloc (two8 47 47 (2,3))).alloc (.cells #[.int .u8 47,.int .u8 42] 5))=.ok (.slice (some ⟨wr.heap.size+1,0,none⟩) 2 2) (((wr.drewN q).alloc (two8 47 47 (2,3))).alloc (two8 47 42 (2,3))):=fun q=>by
    have:=conv_two ((wr.drewN q).alloc (two8 47 47 (2,3))) 47 42
    simpa using this
   have P2:∀q,Calls Tryz.prog 73 #[.slice (tl A cap m') (n - m') (cap - m'),.slice (some ⟨wr.heap.size+1,0,none⟩) 2 2] (((wr.drewN q).alloc (two8 47 47 (2,3))).alloc (two8 47 42 (2,3))) fun e w'=>e=.returned (.bool false)∧w'=((wr.drewN q).alloc (two8 47 47 (2,3))).alloc (two8 47 42 (2,3)):=fun q=>by
    have:=pre_two 47 42 (by unfold Byte;omega) (by unfold Byte;omega) ((wr.drewN q).alloc (two8 47 47 (2,3))) (tl A cap m') (n - m') (cap - m') [] hl0 (by omega) (by simp) (fun i hi=>by omega) (2,3)
    simpa [front] using this
   go_wp2
   go_quiet (fail)
   go_wp2
   go_quiet (fail)
   go_wp2_with (first|(go_at_call 73;with_reducible refine (P1 _).mono ?_;rintro e w2 ⟨rfl,rfl⟩)|(go_at_call 73;with_reducible refine (P2 _).mono ?_;rintro e w2 ⟨rfl,rfl⟩))
   exact hret m' _ _ _ _ _ _ _ _ _ _ _ _ _ _ _ _ _ _ _ _ _ _ _ _ _ _ _ _ _ _ _ _ _ _ _ _ _ _ _ _ _ _ _ _ _ _ _ _ _ _ _ _ _ _ _ _ _ _ _ _ _ _ _ _ _ _ _ _ _ _ _ _ _ _ _ _ _ _ _ _ _ _ (((hAt.drewN _).alloc _).alloc _) h1 h2 hGap (by rw [hnil];exact ⟨fun c t e=>by (cases e),rfl⟩)
end Go.Proofs.YtgaoapnaplgaiaaGreatDoor.Sc
