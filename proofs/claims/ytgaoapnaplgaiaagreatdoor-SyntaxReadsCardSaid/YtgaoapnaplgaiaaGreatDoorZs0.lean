/- This claim's own texts, joined, with only what the claim uses: Scan, Kinds, KindsB, ScanK, ScanL. -/
import Derived.Test.YtgaoapnaplgaiaaGreatDoorCards
import Derived.Test.YtgaoapnaplgaiaaGreatDoorTie
import Derived.WalkKit
import Derived.ProofKit
import Derived.OpenShut
import Derived.Deep.DeepHandedRow
import Derived.Lib.LaidTab
import Derived.Laws.Rows
import Derived.Laws.PanicsMore
import Derived.Below
import Derived.Laws.BytesArg
import Derived.Laws.Strings
import Derived.Lib.Index
import Derived.Lib.Bytes
import Derived.Lib.Strings
namespace Go.Proofs.YtgaoapnaplgaiaaGreatDoor.Sc
def isBlank (c:Int):Bool:=c==32 || c==9 || c==13 || c==10
def iD (c:Int):Bool:=decide (48≤c) && decide (c≤57)
def iL (c:Int):Bool:=c==95 || (decide (97≤c) && decide (c≤122)) || (decide (65≤c) && decide (c≤90))
def isWord (c:Int):Bool:=iL c || iD c
def rL (f:Int→Bool):List Int→Nat
 | []=>0
 | c :: l=>if f c then rL f l+1 else 0
theorem runLen_cons (f:Int→Bool) (c:Int) (l:List Int):rL f (c :: l)=if f c then rL f l+1 else 0:=rfl
theorem runLen_le (f:Int→Bool):∀l,rL f l≤l.length
 | []=>Nat.le_refl _
 | c :: l=>by
  have:=runLen_le f l
  unfold rL
  split
  ·simp only [List.length_cons];omega
  ·exact Nat.zero_le _
def closeAt:List Int→Option Nat
 | []=>none
 | [_]=>none
 | c :: d :: l=>if c=42∧d=47 then some 0 else (closeAt (d :: l)).map (·+1)
theorem closeAt_le:∀(l:List Int) (m:Nat),closeAt l=some m→m+2≤l.length
 | [],m,h=>by simp [closeAt] at h
 | [_],m,h=>by simp [closeAt] at h
 | c :: d :: l,m,h=>by
  unfold closeAt at h
  split at h
  ·cases h;simp
  ·obtain ⟨k,hk,rfl⟩:=Option.map_eq_some_iff.mp h
   have:=closeAt_le (d :: l) k hk
   simp only [List.length_cons] at this ⊢
   omega
inductive Cm where
 | no
 | opens
 | long (k:Nat)
def cmAt:List Int→Cm
 | c :: d :: l=>if c=47∧d=47 then .long (rL (fun c=>c != 10) l+2)
  else if c=47∧d=42 then (match closeAt l with | some m=>.long (m+4) | none=>.opens)
  else .no
 | _=>.no
theorem cmAt_two (c d:Int) (l:List Int):cmAt (c :: d :: l)=if c=47∧d=47 then .long (rL (fun c=>c != 10) l+2)
  else if c=47∧d=42 then (match closeAt l with | some m=>.long (m+4) | none=>.opens) else .no:=rfl
theorem cmAt_long {l:List Int} {k:Nat} (h:cmAt l=.long k):2≤k∧k≤l.length:=by
 unfold cmAt at h
 split at h
 ·rename_i c d l
  have h1:=runLen_le (fun c=>c != 10) l
  split at h
  ·cases h
   simp only [List.length_cons]
   omega
  ·split at h
   ·split at h
    ·rename_i m hm
     cases h
     have:=closeAt_le _ _ hm
     simp only [List.length_cons]
     omega
    ·cases h
   ·cases h
 ·cases h
abbrev Tok:=Int × Int × Int × Int
def numOf (l:List Int):Int:=l.foldl (fun v c=>min (10 * v+(c - 48)) 2147483649) 0
def one (K:List Int→Int) (l:List Int):Except Int (Int × Nat × Int) :=
 match l with
 | []=>.error 31
 | c :: _ =>
  if iL c then
   (if K (l.take (rL isWord l))=0 then (if 32<rL isWord l then .error 33 else .ok (1,rL isWord l,0)) else .ok (K (l.take (rL isWord l)),rL isWord l,0))
  else if iD c then
   (if 2147483648<numOf (l.take (rL iD l))∨(c=48∧1<rL iD l) then .error 34 else .ok (2,rL iD l,numOf (l.take (rL iD l))))
  else if 2≤l.length∧K (l.take 2)≠0 then .ok (K (l.take 2),2,0)
  else if K (l.take 1)≠0 then .ok (K (l.take 1),1,0)
  else .error 31
theorem one_len {K:List Int→Int} {l:List Int} {k:Int} {n:Nat} {v:Int} (h:one K l=.ok (k,n,v)):1≤n∧n≤l.length:=by
 unfold one at h
 split at h
 ·cases h
 ·rename_i c t
  have h1:=runLen_le isWord (c :: t)
  have h2:=runLen_le iD (c :: t)
  have h3:1≤(c :: t).length:=by simp
  split at h
  ·rename_i hc
   have:rL isWord (c :: t)=rL isWord t+1:=by rw [runLen_cons,if_pos (by simp [isWord,hc])]
   split at h
   ·split at h
    ·cases h
    ·cases h;omega
   ·cases h;omega
  ·split at h
   ·rename_i hc
    have:rL iD (c :: t)=rL iD t+1:=by rw [runLen_cons,if_pos hc]
    split at h
    ·cases h
    ·cases h;omega
   ·split at h
    ·cases h;omega
    ·split at h
     ·cases h;omega
     ·cases h
inductive Res where
 | toks (l:List Tok)
 | bad (pos err:Int)
def scanF (K:List Int→Int):Nat→List Int→Nat→List Tok→Res
 | 0,_,_,acc=>.toks acc
 | _+1,[],_,acc=>.toks acc
 | f+1,c :: t,p,acc =>
  if isBlank c then scanF K f t (p+1) acc
  else match cmAt (c :: t) with
   | .opens=>.bad p 32
   | .long k=>scanF K f ((c :: t).drop k) (p+k) acc
   | .no=>match one K (c :: t) with
    | .error e=>if e=31 then .bad p 31 else if acc.length=16384 then .bad p 35 else .bad p e
    | .ok (k,n,v)=>if acc.length=16384 then .bad p 35 else scanF K f ((c :: t).drop n) (p+n) (acc++[(k,(p:Int),((p+n:Nat):Int),v)])
theorem scanF_fuel (K:List Int→Int):∀(f:Nat) (l:List Int) (p:Nat) (acc:List Tok),l.length≤f→scanF K f l p acc=scanF K l.length l p acc
 | f,[],p,acc,_=>by cases f <;> rfl
 | 0,c :: t,p,acc,h=>by simp at h
 | f+1,c :: t,p,acc,h=>by
  simp only [List.length_cons] at h ⊢
  have hf:t.length≤f:=by omega
  simp only [scanF]
  split
  ·exact scanF_fuel K f t _ _ hf
  ·split
   ·rfl
   ·rename_i k hk
    have:=cmAt_long hk
    have hd:((c :: t).drop k).length≤t.length:=by simp only [List.length_drop,List.length_cons];omega
    rw [scanF_fuel K f _ _ _ (by omega),scanF_fuel K t.length _ _ _ hd]
   ·split
    ·rfl
    ·rename_i k n v hk
     have:=one_len hk
     split
     ·rfl
     ·have hd:((c :: t).drop n).length≤t.length:=by simp only [List.length_drop,List.length_cons];omega
      rw [scanF_fuel K f _ _ _ (by omega),scanF_fuel K t.length _ _ _ hd]
def scan (K:List Int→Int) (l:List Int) (p:Nat) (acc:List Tok):Res:=scanF K l.length l p acc
theorem scan_cons (K:List Int→Int) (c:Int) (t:List Int) (p:Nat) (acc:List Tok):scan K (c :: t) p acc =
  if isBlank c then scan K t (p+1) acc
  else match cmAt (c :: t) with
   | .opens=>.bad p 32
   | .long k=>scan K ((c :: t).drop k) (p+k) acc
   | .no=>match one K (c :: t) with
    | .error e=>if e=31 then .bad p 31 else if acc.length=16384 then .bad p 35 else .bad p e
    | .ok (k,n,v)=>if acc.length=16384 then .bad p 35 else scan K ((c :: t).drop n) (p+n) (acc++[(k,(p:Int),((p+n:Nat):Int),v)]):=by
 unfold scan
 simp only [List.length_cons,scanF]
 split
 ·rfl
 ·split
  ·rfl
  ·rename_i k hk
   have:=cmAt_long hk
   rw [scanF_fuel K t.length _ _ _ (by simp only [List.length_drop,List.length_cons];omega)]
  ·split
   ·rfl
   ·rename_i k n v hk
    have:=one_len hk
    split
    ·rfl
    ·rw [scanF_fuel K t.length _ _ _ (by simp only [List.length_drop,List.length_cons];omega)]
inductive Gap:List Int→Nat→Prop
 | nil (l:List Int):Gap l 0
 | blank (c:Int) (l:List Int) (k:Nat):isBlank c=true→Gap l k→Gap (c :: l) (k+1)
 | comment (l:List Int) (m k:Nat):cmAt l=.long m→Gap (l.drop m) k→Gap l (m+k)
theorem slash_not_blank {l:List Int} {k:Nat} (h:cmAt l=.long k):∃t,l=47 :: t:=by
 unfold cmAt at h
 split at h
 ·rename_i c d l
  split at h
  ·rename_i hc;exact ⟨d :: l,by rw [hc.1]⟩
  ·split at h
   ·rename_i hc;exact ⟨d :: l,by rw [hc.1]⟩
   ·cases h
 ·cases h
theorem slash_open {l:List Int} (h:cmAt l=.opens):∃t,l=47 :: t:=by
 unfold cmAt at h
 split at h
 ·rename_i c d l
  split at h
  ·cases h
  ·split at h
   ·rename_i hc;exact ⟨d :: l,by rw [hc.1]⟩
   ·cases h
 ·cases h
theorem Gap.scan (K:List Int→Int) {l:List Int} {k:Nat} (h:Gap l k):∀(p:Nat) (acc:List Tok),scan K l p acc=scan K (l.drop k) (p+k) acc:=by
 induction h with
 | nil l=>intro p acc;rfl
 | blank c l k hb _ ih =>
  intro p acc
  rw [scan_cons,if_pos hb,ih,List.drop_succ_cons,show p+1+k=p+(k+1) by omega]
 | comment l m k hm _ ih =>
  intro p acc
  obtain ⟨t,rfl⟩:=slash_not_blank hm
  rw [scan_cons,if_neg (by decide),hm]
  simp only
  rw [ih,List.drop_drop,show p+m+k=p+(m+k) by omega]
theorem Gap.trans {l:List Int} {k:Nat} (h:Gap l k):∀{j:Nat},Gap (l.drop k) j→Gap l (k+j):=by
 induction h with
 | nil l=>intro j hj;simpa using hj
 | blank c l k hb _ ih =>
  intro j hj
  rw [show k+1+j=(k+j)+1 by omega]
  exact Gap.blank c l (k+j) hb (ih (by simpa using hj))
 | comment l m k hm _ ih =>
  intro j hj
  rw [Nat.add_assoc]
  exact Gap.comment l m (k+j) hm (ih (by rw [List.drop_drop];exact hj))
end Go.Proofs.YtgaoapnaplgaiaaGreatDoor.Sc
namespace Go.Proofs.YtgaoapnaplgaiaaGreatDoor.Tk
open Go.ChangeShapes Go.WideShapes Go.ChangeAt Go.RowKit
def Wds:List ByteArray:=[⟨#[97,98,115]⟩,⟨#[97,115,115,101,114,116]⟩,⟨#[99,97,108,108]⟩,⟨#[99,97,115,101]⟩,⟨#[99,108,97,109,112]⟩,⟨#[99,111,110,115,116]⟩,⟨#[100,101,102,97,117,108,116]⟩,⟨#[101,108,115,101]⟩,⟨#[105,102]⟩,⟨#[105,110]⟩,⟨#[105,110,105,116]⟩,⟨#[105,110,112,117,116]⟩,⟨#[105,110,116,49,54]⟩,⟨#[105,110,116,51,50]⟩,⟨#[105,110,116,56]⟩,⟨#[108,111,111,112]⟩,⟨#[109,97,120]⟩,⟨#[109,105,110]⟩,⟨#[112,114,111,99]⟩,⟨#[114,101,97,100]⟩,⟨#[115,107,105,112]⟩,⟨#[115,119,105,116,99,104]⟩,⟨#[116,105,99,107,115]⟩,⟨#[118,97,114]⟩,⟨#[119,104,105,108,101]⟩,⟨#[33]⟩,⟨#[33,61]⟩,⟨#[37]⟩,⟨#[38,38]⟩,⟨#[40]⟩,⟨#[41]⟩,⟨#[42]⟩,⟨#[43]⟩,⟨#[44]⟩,⟨#[45]⟩,⟨#[46,46]⟩,⟨#[47]⟩,⟨#[58]⟩,⟨#[59]⟩,⟨#[60]⟩,⟨#[60,61]⟩,⟨#[61]⟩,⟨#[61,61]⟩,⟨#[62]⟩,⟨#[62,61]⟩,⟨#[91]⟩,⟨#[93]⟩,⟨#[123]⟩,⟨#[124,124]⟩,⟨#[125]⟩]
noncomputable def WA:Array Value:=(Wds.map Value.string).toArray
theorem WA_size:WA.size=50:=by simp [WA,Wds]
theorem cells_of_strs {H:Type} {enc:TypeId × Value→H} {P:Program} {w:World} {base:Nat} {sp:Nat→Bool} {held:Bool} {fuel:Nat} {t e:TypeId} {n:Nat} {cs:List Value} {zs:List ByteArray} {p:List MemPlace}
  (ht:P.underlying t=some (.array n e)) (he:P.underlying e=some .string) (hce:P.cellsOf e=1) (hct:P.cellsOf t=n)
  (h:DataW.trod enc P w base sp held fuel t cs=some (.agg (zs.map fun z=>.lit (.string z.data.toList)),p)):cs=zs.map Value.string:=by
 cases fuel with
 | zero=>simp [DataW.trod] at h
 | succ fuel =>
  simp only [DataW.trod,ht,hce,hct,Nat.mul_one] at h
  split at h
  ·rename_i hl
   obtain ⟨xs,hm,hx⟩:=Option.map_eq_some_iff.1 h
   have hxs:xs.map (·.1)=zs.map fun z=>(DataW.lit (.string z.data.toList):DataW H):=by
    have:=congrArg Prod.fst hx
    simpa using this
   have hxl:xs.length=n:=by simpa using Lib.mapM_length hm
   have hzl:zs.length=n:=by
    have:=congrArg List.length hxs
    simp at this
    omega
   apply List.ext_getElem?
   intro i
   by_cases hi:i<n
   ·obtain ⟨b,hb,hf⟩:=Lib.mapM_at hm i i (by simp [hi])
    obtain ⟨z,hc,rfl,_⟩:=DataW.trod_string he hf
    have h1:cs[i]?=some (.string z):=by
     have:=congrArg (·[0]?) hc
     simpa [List.getElem?_take,List.getElem?_drop] using this
    have h2:(xs.map (·.1))[i]?=some (DataW.lit (.string z.data.toList):DataW H):=by simp [hb]
    rw [hxs] at h2
    simp only [List.getElem?_map,Option.map_eq_some_iff,DataW.lit.injEq,Lit.string.injEq] at h2
    obtain ⟨z',hz',e'⟩:=h2
    have:z'=z:=by
     cases z;cases z'
     simp only at e'
     congr 1
     exact Array.toList_inj.mp e'
    subst this
    simp [h1,hz']
   ·rw [List.getElem?_eq_none (by omega),List.getElem?_eq_none (by simp;omega)]
  ·cases h
theorem gTab : Tryz.prog.globalNamed "gimbal/token.words" = some 3 := by kernel_rfl
theorem gTabType:(Tryz.prog.globals[3]?).map (·.type)=some 139:=by kernel_rfl
theorem cells43:Tryz.prog.cellsOf 139=50:=by kernel_rfl
theorem cells9:Tryz.prog.cellsOf 9=1:=by kernel_rfl
theorem info43:(Tryz.prog.info? 139).map (·.size)=some 50:=by kernel_rfl
def HasTab (w:World):Prop:=∃t fr,w.heap[3]?=some (.cells WA t fr)
theorem HasTab.below {w w':World} {B:Nat} (h:HasTab w) (hb:Below B w w') (hB:3<B):HasTab w':=by
 obtain ⟨t,fr,h⟩:=h
 exact ⟨t,fr,(hb.block 3 hB).trans h⟩
theorem HasTab.pos {w:World} (h:HasTab w):3<w.heap.size:=by
 obtain ⟨t,fr,h⟩:=h
 rcases Nat.lt_or_ge 3 w.heap.size with h0 | h0
 ·exact h0
 ·rw [Array.getElem?_eq_none (by omega)] at h;cases h
theorem hasTab {rest : List (String × DataW Unit)} {W : World} (h : laidMet Tryz.prog (("gimbal/token.words", Rows.laid_gimbal_token_words) :: rest) W) : HasTab W := by
 obtain ⟨ps,⟨g',t',cs,fuel,p,q,hg',ht',hvar,hd,_,_⟩,_⟩:=h
 obtain rfl:=Option.some.inj (gTab.symm.trans hg')
 obtain rfl:=Option.some.inj (gTabType.symm.trans ht')
 have hcs:=cells_of_strs (zs:=Wds) Tryz.underlying139 Tryz.underlying9 cells9 cells43 (hd:DataW.trod _ _ _ _ _ _ _ _ _=some (.agg (Wds.map fun z=>.lit (.string z.data.toList)),p))
 have hWA:cs=WA:=by unfold WA;rw [←hcs]
 subst hWA
 simp only [World.var?,gTab,Option.bind_some] at hvar
 split at hvar
 ·rename_i c t fr hh
  cases hvar
  exact ⟨t,fr,hh⟩
 ·cases hvar
def kindIn:List ByteArray→ByteArray→Int→Int
 | [],_,_=>0
 | x :: l,s,i=>if x.toList=s.toList then i else kindIn l s (i+1)
def kindOf (s:ByteArray):Int:=kindIn Wds s 3
theorem Wds_len:Wds.length=50:=rfl
theorem kindIn_drop (s:ByteArray) (k:Nat) (i:Int):kindIn (Wds.drop k) s i=if h:k<50 then (if (Wds[k]'(by simpa [Wds_len] using h)).toList=s.toList then i else kindIn (Wds.drop (k+1)) s (i+1)) else 0:=by
 by_cases h:k<50
 ·rw [dif_pos h,List.drop_eq_getElem_cons (by simpa [Wds_len] using h)]
  rfl
 ·rw [dif_neg h,List.drop_eq_nil_of_le (by rw [Wds_len];omega)]
  rfl
theorem index43 (w:World) (k:Nat) (h:k<50):(Instr.index 139 (.agg WA) (.int .i64 (k:Int))).run Tryz.prog w=.ok (.string (Wds[k]'(by simpa [Wds_len] using h))) w:=by
 have h':k<Wds.length:=by rw [Wds_len];exact h
 simp [Instr.index,run_underlying Tryz.underlying139,asIntOf,go_sem,WA,h,List.getElem?_eq_getElem h']
set_option maxRecDepth 100000 in
theorem kind_walk (s:ByteArray) (w:World) (h:HasTab w):Calls Tryz.prog 77 #[.string s] w fun e w'=>e=.returned (.int .i64 (kindOf s))∧w'=w:=by
 obtain ⟨ht,hfr,hh⟩:=h
 have hsz:(Tryz.prog.info? 139).map (·.size)=some WA.size:=by rw [WA_size];exact info43
 go_enter Tryz.func77,Tryz.ntmps77
 go_wp2_with (refine wpList_load_row rfl 139 _ rfl 3 rfl ht WA hfr _ hh Tryz.underlying139 rfl hsz ?_)
 go_loop [6] (fun i=>∃k:Nat,k≤50∧i=.int .i64 k∧kindOf s=kindIn (Wds.drop k) s (3+k)) (fun i=>match i with | .int _ n=>50 - n.toNat | _=>0)
 case atStart=>exact ⟨0,by omega,rfl,rfl⟩
 case round =>
  obtain ⟨k,hk,rfl,hs⟩:=hrel
  by_cases h50:k<50
  ·have hix:=index43 w k h50
   rw [kindIn_drop,dif_pos h50] at hs
   have hlt:(k:Int)<50:=by omega
   by_cases he:(Wds[k]'(by simpa [Wds_len] using h50)).toList=s.toList
   ·rw [if_pos he] at hs
    have heb:((Wds[k]'(by simpa [Wds_len] using h50)).toList==s.toList)=true:=beq_iff_eq.mpr he
    go_wp2
    go_ret
    exact ⟨rfl,rfl⟩
   ·rw [if_neg he] at hs
    have heb:((Wds[k]'(by simpa [Wds_len] using h50)).toList==s.toList)=false:=beq_eq_false_iff_ne.mpr he
    go_wp2
    refine ⟨⟨k+1,by omega,by push_cast;rfl,?_⟩,?_⟩
    ·rw [hs,show (3:Int)+(k:Int)+1=3+((k+1:Nat):Int) by push_cast;omega]
    ·show 50 - ((k:Int)+1).toNat<50 - (k:Int).toNat
     omega
  ·have hge:¬ (k:Int)<50:=by omega
   rw [kindIn_drop,dif_neg h50] at hs
   go_wp2
   go_ret
   exact ⟨rfl,rfl⟩
end Go.Proofs.YtgaoapnaplgaiaaGreatDoor.Tk
namespace Go.Proofs.YtgaoapnaplgaiaaGreatDoor.Sc
open Go
def KB (l:List Int):Int:=Tk.kindOf (strOfNums l)
def nums (s:ByteArray):List Int:=s.data.toList.map fun b=>(b.toNat:Int)
theorem kindIn_mem (s:ByteArray):∀(l:List ByteArray) (i:Int),0<i→Tk.kindIn l s i≠0→∃x ∈ l,x.toList=s.toList
 | [],i,_,h=>absurd rfl h
 | x :: l,i,hi,h=>by
  unfold Tk.kindIn at h
  split at h
  ·rename_i hx;exact ⟨x,List.mem_cons_self ..,hx⟩
  ·obtain ⟨y,hy,e⟩:=kindIn_mem s l (i+1) (by omega) h
   exact ⟨y,List.mem_cons_of_mem _ hy,e⟩
theorem kindIn_range (s:ByteArray):∀(l:List ByteArray) (i:Int),0<i→Tk.kindIn l s i=0∨(i≤Tk.kindIn l s i∧Tk.kindIn l s i<i+l.length)
 | [],i,_=>Or.inl rfl
 | x :: l,i,hi=>by
  unfold Tk.kindIn
  split
  ·right;simp only [List.length_cons];omega
  ·have:=kindIn_range s l (i+1) (by omega)
   simp only [List.length_cons];omega
theorem KB_range (l:List Int):0≤KB l∧KB l<53:=by
 have:=kindIn_range (strOfNums l) Tk.Wds 3 (by omega)
 rw [Tk.Wds_len] at this
 unfold KB Tk.kindOf
 omega
def Byte (c:Int):Prop:=0≤c∧c<256
theorem byte_eq {c:Int} (h:Byte c) (d:Nat) (hd:d<256):(UInt8.ofNat c.toNat==UInt8.ofNat d)=decide (c=(d:Int)):=by
 unfold Byte at h
 rw [Bool.eq_iff_iff,beq_iff_eq,decide_eq_true_iff]
 constructor
 ·intro e
  have:=congrArg UInt8.toNat e
  rw [UInt8.toNat_ofNat_of_lt' (by simp [UInt8.size];omega),UInt8.toNat_ofNat_of_lt' (by simp [UInt8.size];omega)] at this
  omega
 ·rintro rfl
  rw [Int.toNat_natCast]
theorem index_close:∀(l:List Int),(∀c ∈ l,Byte c)→(closeAt l=none∧Lib.index (Lib.bytesOf l) (Lib.bytesOf [42,47])=-1)∨∃m,closeAt l=some m∧Lib.index (Lib.bytesOf l) (Lib.bytesOf [42,47])=(m:Int)
 | [],_=>Or.inl ⟨rfl,rfl⟩
 | [c],h=>by
  left
  refine ⟨rfl,?_⟩
  have hc:=byte_eq (h c (by simp)) 42 (by omega)
  simp only [Lib.bytesOf,List.map_cons,List.map_nil,Lib.index]
  have:(List.isPrefixOf [UInt8.ofNat (42:Int).toNat,UInt8.ofNat (47:Int).toNat] [UInt8.ofNat c.toNat])=false:=by simp [List.isPrefixOf]
  rw [this]
  rfl
 | c :: d :: l,h=>by
  have hc:=byte_eq (h c (by simp)) 42 (by omega)
  have hd:=byte_eq (h d (by simp)) 47 (by omega)
  have hp:List.isPrefixOf (Lib.bytesOf [42,47]) (Lib.bytesOf (c :: d :: l))=decide (c=42∧d=47):=by
   show ((UInt8.ofNat 42==UInt8.ofNat c.toNat) && ((UInt8.ofNat 47==UInt8.ofNat d.toNat) && true))=_
   rw [show (UInt8.ofNat 42==UInt8.ofNat c.toNat)=(UInt8.ofNat c.toNat==UInt8.ofNat 42) from Bool.beq_comm ..,show (UInt8.ofNat 47==UInt8.ofNat d.toNat)=(UInt8.ofNat d.toNat==UInt8.ofNat 47) from Bool.beq_comm ..,hc,hd,Bool.and_true]
   simp
  have ih:=index_close (d :: l) (fun x hx=>h x (List.mem_cons_of_mem _ hx))
  have hi:Lib.index (Lib.bytesOf (c :: d :: l)) (Lib.bytesOf [42,47])=if c=42∧d=47 then 0 else if Lib.index (Lib.bytesOf (d :: l)) (Lib.bytesOf [42,47])==-1 then -1 else Lib.index (Lib.bytesOf (d :: l)) (Lib.bytesOf [42,47])+1:=by
   show (if List.isPrefixOf (Lib.bytesOf [42,47]) (Lib.bytesOf (c :: d :: l))=true then (0:Int) else _)=_
   rw [hp]
   simp only [decide_eq_true_iff]
   rfl
  rw [hi]
  unfold closeAt
  by_cases hcd:c=42∧d=47
  ·rw [if_pos hcd,if_pos hcd];exact Or.inr ⟨0,rfl,rfl⟩
  ·rw [if_neg hcd,if_neg hcd]
   rcases ih with ⟨e1,e2⟩|⟨m,e1,e2⟩
   ·left;rw [e1,e2];exact ⟨rfl,rfl⟩
   ·right;rw [e1,e2]
    refine ⟨m+1,rfl,?_⟩
    have:((m:Int)==-1)=false:=beq_eq_false_iff_ne.mpr (by omega)
    rw [this];simp
theorem index_line:∀(l:List Int),(∀c ∈ l,Byte c)→Lib.indexByte (Lib.bytesOf l) 10=if rL (fun c=>c != 10) l=l.length then -1 else (rL (fun c=>c != 10) l:Int)
 | [],_=>rfl
 | c :: l,h=>by
  have hc:=byte_eq (h c (by simp)) 10 (by omega)
  have ih:=index_line l (fun x hx=>h x (List.mem_cons_of_mem _ hx))
  have hle:=runLen_le (fun c=>c != 10) l
  have hi:Lib.indexByte (Lib.bytesOf (c :: l)) 10=if c=10 then 0 else if Lib.indexByte (Lib.bytesOf l) 10==-1 then -1 else Lib.indexByte (Lib.bytesOf l) 10+1:=by
   show (if (UInt8.ofNat c.toNat==10)=true then (0:Int) else _)=_
   rw [show (UInt8.ofNat c.toNat==10)=decide (c=10) from hc]
   simp only [decide_eq_true_iff]
   rfl
  by_cases h10:c=10
  ·have e:rL (fun c=>c != 10) (c :: l)=0:=by rw [runLen_cons,h10];rfl
   rw [hi,if_pos h10,e,if_neg (by simp)];rfl
  ·have hb:(c != 10)=true:=by rw [bne_iff_ne];exact h10
   have e:rL (fun c=>c != 10) (c :: l)=rL (fun c=>c != 10) l+1:=by rw [runLen_cons,if_pos hb]
   rw [hi,if_neg h10,e,ih,List.length_cons]
   generalize rL (fun c=>c != 10) l=m at hle
   by_cases hl:m=l.length
   ·rw [if_pos hl,if_pos (show m+1=l.length+1 by omega)];rfl
   ·rw [if_neg hl,if_neg (show ¬ m+1=l.length+1 by omega)]
    have:(((m:Nat):Int)==-1)=false:=beq_eq_false_iff_ne.mpr (by omega)
    rw [this];simp
theorem two_prefix (a b:Nat) (ha:a<256) (hb:b<256):∀(l:List Int),(∀c ∈ l,Byte c)→Lib.hasPrefix (Lib.bytesOf l) (Lib.bytesOf [(a:Int),(b:Int)])=(match l with | c :: d :: _=>decide (c=(a:Int)∧d=(b:Int)) | _=>false)
 | [],_=>rfl
 | [c],h=>by simp [Lib.hasPrefix,Lib.bytesOf,List.isPrefixOf]
 | c :: d :: l,h=>by
  have hc:=byte_eq (h c (by simp)) a ha
  have hd:=byte_eq (h d (by simp)) b hb
  show ((UInt8.ofNat a==UInt8.ofNat c.toNat) && ((UInt8.ofNat b==UInt8.ofNat d.toNat) && true))=_
  rw [show (UInt8.ofNat a==UInt8.ofNat c.toNat)=(UInt8.ofNat c.toNat==UInt8.ofNat a) from Bool.beq_comm ..,show (UInt8.ofNat b==UInt8.ofNat d.toNat)=(UInt8.ofNat d.toNat==UInt8.ofNat b) from Bool.beq_comm ..,hc,hd,Bool.and_true]
  simp
def numR (l:List Int):Int:=l.foldl (fun v c=>if v≤2147483648 then 10 * v+(c - 48) else v) 0
theorem num_step:∀(l:List Int) (v r:Int),(∀c ∈ l,iD c=true)→((v=r∧v≤2147483648∧0≤v)∨(v=2147483649∧2147483648<r)) →
  let V:=l.foldl (fun v c=>min (10 * v+(c - 48)) 2147483649) v
  let R:=l.foldl (fun v c=>if v≤2147483648 then 10 * v+(c - 48) else v) r
  (V=R∧V≤2147483648∧0≤V)∨(V=2147483649∧2147483648<R)
 | [],v,r,_,h=>h
 | c :: l,v,r,hl,h=>by
  have hc:=hl c (List.mem_cons_self ..)
  simp only [iD,Bool.and_eq_true,decide_eq_true_iff] at hc
  simp only [List.foldl_cons]
  refine num_step l _ _ (fun x hx=>hl x (List.mem_cons_of_mem _ hx)) ?_
  split <;> omega
theorem num_eq {l:List Int} (hl:∀c ∈ l,iD c=true):(numOf l=numR l∧numOf l≤2147483648∧0≤numOf l)∨(numOf l=2147483649∧2147483648<numR l) :=
 num_step l 0 0 hl (Or.inl ⟨rfl,by omega,by omega⟩)
theorem runLen_all (f:Int→Bool):∀(l:List Int),∀c ∈ l.take (rL f l),f c=true
 | [],c,h=>by simp at h
 | d :: l,c,h=>by
  rw [runLen_cons] at h
  split at h
  ·rename_i hd
   rw [List.take_succ_cons] at h
   rcases List.mem_cons.mp h with rfl | h
   ·exact hd
   ·exact runLen_all f l c h
  ·simp at h
theorem drop_at {xs:List Int} {i:Nat} (h:i<xs.length):xs.drop i=xs.getD i 0 :: xs.drop (i+1):=by
 rw [List.drop_eq_getElem_cons h];simp [List.getD,h]
end Go.Proofs.YtgaoapnaplgaiaaGreatDoor.Sc
