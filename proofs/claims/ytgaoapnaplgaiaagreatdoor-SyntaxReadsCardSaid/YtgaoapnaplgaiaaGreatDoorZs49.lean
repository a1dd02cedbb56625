/- This claim's own texts, joined, with only what the claim uses: RfC, RfA, RfB, RfD, RfE, RfF, RfG, RfH, BlkY, ReaA. -/
import Derived.Test.YtgaoapnaplgaiaaGreatDoorZs45
import Derived.Test.YtgaoapnaplgaiaaGreatDoorZs0
import Derived.Test.YtgaoapnaplgaiaaGreatDoorZs5
import Derived.Test.YtgaoapnaplgaiaaGreatDoorZs7
import Derived.Test.YtgaoapnaplgaiaaGreatDoorZs8
import Derived.Test.YtgaoapnaplgaiaaGreatDoorZs47
import Derived.Test.YtgaoapnaplgaiaaGreatDoorZs36
import Derived.Test.YtgaoapnaplgaiaaGreatDoorZs44
import Derived.Test.YtgaoapnaplgaiaaGreatDoorZs48
namespace Go.Proofs.YtgaoapnaplgaiaaGreatDoor.Sc
set_option maxRecDepth 100000
open Go.RowKit Tk Go.Proofs.YtgaoapnaplgaiaaGreatDoor.Wd
theorem strs_cell (k:Nat) (h:k<50):(((Wds.take 25).map Value.string).toArray.toList++strs (Wds.drop 25))[k]?=some (.string (Wds[k]'(by simpa [Wds_len] using h))):=by
 have e:((Wds.take 25).map Value.string).toArray.toList++strs (Wds.drop 25)=Wds.map Value.string:=by
  unfold strs
  rw [List.toList_toArray,←List.map_append,List.take_append_drop]
 rw [e,List.getElem?_map,List.getElem?_eq_getElem (by simpa [Wds_len] using h)];rfl
set_option maxHeartbeats 2000000 in
theorem kind3_call (s:ByteArray) (W:World):Calls Tryz.prog 103 #[.string s] W fun e w=>e=.returned (.int .i64 (kindOf s))∧Below W.heap.size W w:=by
 have WC:=words_call W
 have MC:=fun W=>marks_call W
 have hA:=A0.mk (World.ownsRow_lit (e:=9) (base:=W.heap.size) (size:=1) W ((Wds.take 25).map Value.string).toArray 25 (Nat.le_refl _) (by decide) rfl)
 have hA2:=A0.mk (hA.out.alloc (.cells ((Wds.drop 25).map Value.string).toArray 9))
 have hinfo:(Tryz.prog.info? 9).map (fun i=>(i.zero,i.size,i.bytes))=some (some (.string ⟨#[]⟩),1,16):=by kernel_rfl
 obtain ⟨i9,hi9,hz0,hz1,hz2⟩:∃i,Tryz.prog.info? 9=some i∧i.zero=some (.string ⟨#[]⟩)∧i.size=1∧i.bytes=16:=by
  cases h:Tryz.prog.info? 9 with
  | none=>rw [h] at hinfo;cases hinfo
  | some i =>
   rw [h] at hinfo
   simp only [Option.map_some,Option.some.injEq,Prod.mk.injEq] at hinfo
   exact ⟨i,rfl,hinfo.1,hinfo.2.1,hinfo.2.2⟩
 have hM:=A0.mk (bN (W.alloc (.cells ((Wds.take 25).map Value.string).toArray 9)) (.cells ((Wds.drop 25).map Value.string).toArray 9))
 have hsz:(W.alloc (.cells ((Wds.take 25).map Value.string).toArray 9)).heap.size=W.heap.size+1:=by simp
 generalize hg1:(.cells ((Wds.take 25).map Value.string).toArray 9:Obj)=o1 at WC hA hA2 hM hsz
 generalize hg2:(.cells ((Wds.drop 25).map Value.string).toArray 9:Obj)=o2 at MC hA2 hM
 replace hg1:=A0.mk hg1
 replace hg2:=A0.mk hg2
 have hb2:=A0.mk ((bA W o1).alloc (by simp) o2)
 rw [hsz] at hM
 have HC:∀(j:Nat) u,(strs (Wds.drop 25))[j]?=some u→((W.alloc o1).alloc o2).cell? ((⟨W.heap.size+1,0,none⟩:Addr).add j)=some u:=by
  intro j u hu
  have h:=hM.out
  rw [←hg2.out] at h
  have e:(⟨W.heap.size+1,0,none⟩:Addr).add j=⟨W.heap.size+1,j,none⟩:=by unfold Addr.add;split <;> simp_all
  rw [e,←hg2.out,bC h j,←hu]
  simp [strs]
 have H1:∀u ∈ strs (Wds.drop 25),u.oneCell'=true:=by intro u hu;obtain ⟨s,_,rfl⟩:=List.mem_map.1 hu;rfl
 have H2:W.heap.size≤((W.alloc o1).alloc o2).heap.size:=by simp;omega
 clear hinfo hA
 obtain ⟨T,hT⟩:∃T,A0 (kindOf s=T):=⟨_,⟨rfl⟩⟩
 rw [hT.out]
 go_enter Tryz.func103,Tryz.ntmps103
 go_upto_region 2 with (first|(go_at_call 136;with_reducible refine WC.mono ?_;rintro e w2 ⟨rfl,rfl⟩)|(go_at_call 137;with_reducible refine (MC _).mono ?_;rintro e w3 ⟨rfl,rfl⟩)|(at_builtin;refine wpList_append_own _ rfl (.tmp 5) (.tmp 6) 156 rfl W.heap.size 9 i9 (.string ⟨#[]⟩) 1 16 Tryz.underlying156 hi9 hz0 hz1 hz2 rfl (by decide) _ _ _ rfl hA2.out ⟨W.heap.size+1,0,none⟩ 25 25 (strs (Wds.drop 25)) rfl rfl HC H1 (by decide) (by decide) H2 ?_;intro v w4 hown hg hif;clear hif))
 have hb4:Below W.heap.size W w4:=hb2.out.trans ⟨hg.os,hg.tape,hg.output,hg.size,fun j hj=>hg.block j (by have:=hb2.out.size;omega) (fun e=>by have:=(hA2.out.lt j e.symm).1;omega)⟩
 obtain ⟨g,cap,rfl⟩:∃g cap,v=.slice (some ⟨g,0,none⟩) 50 cap:=by
  rcases hown.2 with ⟨_,h0⟩|⟨g,cap,cur,rfl,_⟩
  ·omega
  ·exact ⟨g,cap,rfl⟩
 have hcl:=A0.mk (fun j u h=>hown.cells (g:=g) rfl j u h)
 replace hb4:=A0.mk hb4
 clear hA2 hM hb2 WC MC hg hown hsz hi9 hz0 hz1 hz2 HC H1 H2
 go_wp2
 go_loopg [4] 50 (fun m v X=>∃k:Nat,v=.int .i64 (k:Int)∧k+m=50∧X=w4∧A0 (T=kindIn (Wds.drop k) s (3+(k:Int))))
 case atStart=>exact ⟨0,rfl,by omega,rfl,⟨hT.out.symm⟩⟩
 case round =>
  obtain ⟨k,rfl,hk,rfl,hs⟩:=hrel
  clear hT
  have hkd:=hs.out
  rw [kindIn_drop] at hkd
  have k0:(0:Int)≤(k:Int):=by omega
  by_cases h50:k<50
  ·rw [dif_pos h50] at hkd
   have k1:(k:Int)<50:=by omega
   obtain ⟨m,rfl⟩:∃m,gk=m+1:=⟨gk - 1,by omega⟩
   have hc:=hcl.out k (.string (Wds[k]'(by simpa [Wds_len] using h50))) (strs_cell k h50)
   rw [show (⟨g,0,none⟩:Addr).add k=⟨g,k,none⟩ by unfold Addr.add;split <;> simp_all] at hc
   obtain ⟨z,hz⟩:∃z,z=Wds[k]'(by simpa [Wds_len] using h50):=⟨_,rfl⟩
   rw [←hz] at hc hkd
   clear hz
   replace hkd:=A0.mk hkd
   by_cases he:z.toList=s.toList
   ·have heb:(z.toList==s.toList)=true:=beq_iff_eq.mpr he
    have hTv:A0 (T=3+(k:Int)):=⟨by rw [hkd.out,if_pos he]⟩
    clear hkd hs he
    go_wp2
    go_ret
    exact ⟨by rw [hTv.out];rfl,hb4.out⟩
   ·have heb:(z.toList==s.toList)=false:=beq_eq_false_iff_ne.mpr he
    have hTv:A0 (T=kindIn (Wds.drop (k+1)) s (3+((k+1:Nat):Int))):=⟨by rw [hkd.out,if_neg he];congr 1⟩
    clear hkd hs he
    go_wp2
    go_roundg m
    case rel=>exact ⟨k+1,rfl,by omega,rfl,hTv⟩
    case measure=>omega
  ·rw [dif_neg h50] at hkd
   have hge:¬ (k:Int)<50:=by omega
   replace hkd:=A0.mk hkd
   clear hs
   go_wp2
   go_ret
   exact ⟨by rw [hkd.out];rfl,hb4.out⟩
theorem rblank_call (c:Int) (w:World):Calls Tryz.prog 61 #[.int .u8 c] w fun e w'=>e=.returned (.bool (isBlank c))∧w'=w:=by
 unfold isBlank
 by_cases h1:c=32
 ·subst h1;go_enter Tryz.func61,Tryz.ntmps61;go_wp2;go_ret;exact ⟨rfl,rfl⟩
 by_cases h2:c=9
 ·subst h2;go_enter Tryz.func61,Tryz.ntmps61;go_wp2;go_ret;exact ⟨rfl,rfl⟩
 by_cases h3:c=13
 ·subst h3;go_enter Tryz.func61,Tryz.ntmps61;go_wp2;go_ret;exact ⟨rfl,rfl⟩
 by_cases h4:c=10
 ·subst h4;go_enter Tryz.func61,Tryz.ntmps61;go_wp2;go_ret;exact ⟨rfl,rfl⟩
 have e1:(c==32)=false:=beq_eq_false_iff_ne.mpr h1
 have e2:(c==9)=false:=beq_eq_false_iff_ne.mpr h2
 have e3:(c==13)=false:=beq_eq_false_iff_ne.mpr h3
 have e4:(c==10)=false:=beq_eq_false_iff_ne.mpr h4
 rw [e1,e2,e3,e4]
 go_enter Tryz.func61,Tryz.ntmps61
 go_wp2
 go_ret
 exact ⟨rfl,rfl⟩
theorem rdigit_call (c:Int) (w:World):Calls Tryz.prog 102 #[.int .u8 c] w fun e w'=>e=.returned (.bool (iD c))∧w'=w:=by
 unfold iD
 by_cases h1:48≤c
 ·by_cases h2:c≤57
  ·rw [decide_eq_true h1,decide_eq_true h2]
   go_enter Tryz.func102,Tryz.ntmps102;go_wp2;go_ret;exact ⟨rfl,rfl⟩
  ·rw [decide_eq_true h1,decide_eq_false h2]
   go_enter Tryz.func102,Tryz.ntmps102;go_wp2;go_ret;exact ⟨rfl,rfl⟩
 ·rw [decide_eq_false h1]
  go_enter Tryz.func102,Tryz.ntmps102;go_wp2;go_ret;exact ⟨rfl,rfl⟩
theorem rletter_call (c:Int) (w:World):Calls Tryz.prog 101 #[.int .u8 c] w fun e w'=>e=.returned (.bool (iL c))∧w'=w:=by
 obtain ⟨b,hb⟩:∃b,A0 (iL c=b):=⟨_,⟨rfl⟩⟩
 rw [hb.out]
 have key:∀b',iL c=b'→b=b':=fun b' h=>by rw [←hb.out,h]
 by_cases h1:97≤c
 ·by_cases h2:c≤122
  ·rw [key true (by unfold iL;simp [h1,h2])]
   clear key
   go_enter Tryz.func101,Tryz.ntmps101;go_wp2;go_ret;exact ⟨rfl,rfl⟩
  ·have h3:65≤c:=by omega
   have h4:¬ c≤90:=by omega
   have h5:¬ c=95:=by omega
   have e5:(c==95)=false:=beq_eq_false_iff_ne.mpr h5
   rw [key false (by unfold iL;simp [h1,h2,h3,h4,h5])]
   clear key
   go_enter Tryz.func101,Tryz.ntmps101;go_wp2;go_ret;exact ⟨rfl,rfl⟩
 ·by_cases h3:65≤c
  ·by_cases h4:c≤90
   ·rw [key true (by unfold iL;simp [h3,h4])]
    clear key
    go_enter Tryz.func101,Tryz.ntmps101;go_wp2;go_ret;exact ⟨rfl,rfl⟩
   ·by_cases h5:c=95
    ·subst h5
     rw [key true rfl]
     clear key
     go_enter Tryz.func101,Tryz.ntmps101;go_wp2;go_ret;exact ⟨rfl,rfl⟩
    ·have e5:(c==95)=false:=beq_eq_false_iff_ne.mpr h5
     rw [key false (by unfold iL;simp [h1,h3,h4,h5])]
     clear key
     go_enter Tryz.func101,Tryz.ntmps101;go_wp2;go_ret;exact ⟨rfl,rfl⟩
  ·have h5:¬ c=95:=by omega
   have e5:(c==95)=false:=beq_eq_false_iff_ne.mpr h5
   rw [key false (by unfold iL;simp [h1,h3,h5])]
   clear key
   go_enter Tryz.func101,Tryz.ntmps101;go_wp2;go_ret;exact ⟨rfl,rfl⟩
theorem drop_nth {l:List Int} {j:Nat} (h:j<l.length):l.drop j=l.getD j 0 :: l.drop (j+1):=by
 rw [List.drop_eq_getElem_cons h];simp [List.getD,h]
theorem runLen_at {f:Int→Bool} {l:List Int} {j:Nat} (h:j<l.length):rL f (l.drop j)=if f (l.getD j 0) then rL f (l.drop (j+1))+1 else 0:=by
 rw [drop_nth h,runLen_cons]
def blkEnd (l:List Int) (k:Nat):Int:=match closeAt (l.drop k) with | some m=>((k+m+2:Nat):Int) | none=>-1
theorem blkEnd_end {l:List Int} {k:Nat} (h:¬ k+1<l.length):blkEnd l k=-1:=by
 unfold blkEnd
 rcases Nat.lt_or_ge k l.length with h1 | h1
 ·rw [drop_nth h1,List.drop_eq_nil_of_le (by omega)];rfl
 ·rw [List.drop_eq_nil_of_le h1];rfl
theorem blkEnd_yes {l:List Int} {k:Nat} (h:k+1<l.length) (h1:l.getD k 0=42) (h2:l.getD (k+1) 0=47):blkEnd l k=((k+2:Nat):Int):=by
 unfold blkEnd
 rw [drop_nth (show k<l.length by omega),drop_nth h,h1,h2]
 simp [closeAt]
theorem blkEnd_no {l:List Int} {k:Nat} (h:k+1<l.length) (h1:¬ (l.getD k 0=42∧l.getD (k+1) 0=47)):blkEnd l k=blkEnd l (k+1):=by
 unfold blkEnd
 rw [drop_nth (show k<l.length by omega),drop_nth h,closeAt,if_neg h1]
 cases closeAt (l.getD (k+1) 0 :: l.drop (k+1+1)) with
 | none=>rfl
 | some m=>show (((k+(m+1)+2:Nat)):Int)=_;congr 1;omega
def comS (l:List Int) (p:Nat):Int :=
 if p+1<l.length∧l.getD p 0=47∧l.getD (p+1) 0=47 then ((p+rL (fun c=>c != 10) (l.drop p):Nat):Int)
 else if p+1<l.length∧l.getD p 0=47∧l.getD (p+1) 0=42 then blkEnd l (p+2) else (p:Int)
set_option maxHeartbeats 4000000 in
theorem rcomment_call {A:Option Addr} {n cap:Nat} {xs:List Int} (hx:xs.length=n) (hn:n≤65536) (w:World) (hL:Lies w A n xs) (p:Nat) (hp:p<n) :
  Calls Tryz.prog 62 #[.slice A n cap,.int .i64 (p:Int)] w fun e w'=>e=.returned (.int .i64 (comS xs p))∧w'=w:=by
 obtain ⟨S,hS⟩:∃S,A0 (comS xs p=S):=⟨_,⟨rfl⟩⟩
 rw [hS.out]
 have hkey:=hS.out
 unfold comS at hkey
 rw [hx] at hkey
 replace hL:=A0.mk hL
 replace hx:=A0.mk hx
 obtain ⟨m1,hm1⟩:∃m1,p+1=m1:=⟨_,rfl⟩
 rw [hm1] at hkey
 have cm:(p:Int)+1=(m1:Int):=by omega
 have w2:IntKind.i64.wrap ((p:Int)+2)=((p+2:Nat):Int):=by rw [IntWalk.i64_in _ (by omega)];rfl
 have p0:(0:Int)≤(p:Int):=by omega
 have p1:(p:Int)< (n:Int):=by omega
 replace hkey:=A0.mk hkey
 obtain ⟨a,rfl,a0⟩:=hL.out p hp
 obtain ⟨b,hb⟩:∃b,A0 (xs.getD p 0=b):=⟨_,⟨rfl⟩⟩
 rw [hb.out] at a0 hkey
 replace hm1:=A0.mk hm1
 by_cases h1:m1<n
 case neg =>
  have hSv:A0 (S=(p:Int)):=⟨by rw [←hkey.out,if_neg (fun h=>h1 h.1),if_neg (fun h=>h1 h.1)]⟩
  have h1':n≤m1:=by omega
  clear hS hkey
  go_enter Tryz.func62,Tryz.ntmps62
  go_wp2
  go_ret
  exact ⟨by rw [hSv.out];rfl,rfl⟩
 have h1':¬ n≤m1:=by omega
 have q0:(0:Int)≤(m1:Int):=by omega
 have q1:(m1:Int)< (n:Int):=by omega
 by_cases h2:b=47
 case neg =>
  have hSv:A0 (S=(p:Int)):=⟨by rw [←hkey.out,if_neg (fun h=>h2 h.2.1),if_neg (fun h=>h2 h.2.1)]⟩
  have e2:(b != 47)=true:=bne_iff_ne.mpr h2
  have e2':(b==47)=false:=beq_eq_false_iff_ne.mpr h2
  clear hS hkey h1
  go_enter Tryz.func62,Tryz.ntmps62
  go_wp2
  go_ret
  exact ⟨by rw [hSv.out];rfl,rfl⟩
 subst h2
 obtain ⟨a',e,a1⟩:=hL.out m1 h1
 cases e
 obtain ⟨d,hd⟩:∃d,A0 (xs.getD m1 0=d):=⟨_,⟨rfl⟩⟩
 rw [hd.out] at a1 hkey
 by_cases h3:d=47
 ·subst h3
  have hSv:A0 (S=((p+rL (fun c=>c != 10) (xs.drop p):Nat):Int)):=⟨by rw [←hkey.out,if_pos ⟨h1,rfl,rfl⟩]⟩
  clear hS hkey
  go_enter Tryz.func62,Tryz.ntmps62
  go_wp2
  go_loopg [1] (n - p) (fun m v X=>∃j:Nat,v=.int .i64 (j:Int)∧j+m=n∧X=w∧A0 (S=((j+rL (fun c=>c != 10) (xs.drop j):Nat):Int)))
  case atStart=>exact ⟨p,rfl,by omega,rfl,hSv⟩
  case round =>
   obtain ⟨j,rfl,hj,rfl,hSj⟩:=hrel
   clear hSv
   have j0:(0:Int)≤(j:Int):=by omega
   by_cases hjn:j<n
   ·have j1:(j:Int)< (n:Int):=by omega
    obtain ⟨m,rfl⟩:∃m,gk=m+1:=⟨gk - 1,by omega⟩
    obtain ⟨a',e,c0⟩:=hL.out j hjn
    cases e
    have hrl:=A0.mk (runLen_at (f:=fun c=>c != 10) (l:=xs) (j:=j) (by rw [hx.out];exact hjn))
    obtain ⟨z,hz⟩:∃z,A0 (xs.getD j 0=z):=⟨_,⟨rfl⟩⟩
    rw [hz.out] at c0 hrl
    by_cases h4:z=10
    ·subst h4
     have hSf:A0 (S=(j:Int)):=⟨by rw [hSj.out,hrl.out];simp⟩
     clear hSj hrl
     go_wp2
     go_ret
     exact ⟨by rw [hSf.out];rfl,rfl⟩
    ·have e4:(z != 10)=true:=bne_iff_ne.mpr h4
     have e4':(z==10)=false:=beq_eq_false_iff_ne.mpr h4
     have wj:IntKind.i64.wrap ((j:Int)+1)=((j+1:Nat):Int):=by rw [IntWalk.i64_in _ (by omega)];rfl
     replace wj:=A0.mk wj
     have hSn:A0 (S=((j+1+rL (fun c=>c != 10) (xs.drop (j+1)):Nat):Int)):=⟨by rw [hSj.out,hrl.out,if_pos e4];congr 1;omega⟩
     clear hSj hrl
     go_wp2
     go_roundg m
     case rel=>exact ⟨j+1,rfl,by omega,rfl,hSn⟩
     case measure=>omega
   ·have hSf:A0 (S=(j:Int)):=⟨by rw [hSj.out,List.drop_eq_nil_of_le (by rw [hx.out];omega)];simp [rL]⟩
    clear hSj
    go_wp2
    go_ret
    exact ⟨by rw [hSf.out];rfl,rfl⟩
 have e3:(d != 47)=true:=bne_iff_ne.mpr h3
 have e3':(d==47)=false:=beq_eq_false_iff_ne.mpr h3
 by_cases h4:d=42
 ·subst h4
  have hSv:A0 (S=blkEnd xs (p+2)):=⟨by rw [←hkey.out,if_neg (fun h=>h3 h.2.2),if_pos ⟨h1,rfl,rfl⟩]⟩
  clear hS hkey
  go_enter Tryz.func62,Tryz.ntmps62
  go_wp2
  go_loopg [5] (n - p) (fun m v X=>∃k:Nat,v=.int .i64 (k:Int)∧k+m=n+2∧X=w∧A0 (S=blkEnd xs k))
  case atStart=>exact ⟨p+2,rfl,by omega,rfl,hSv⟩
  case round =>
   obtain ⟨k,rfl,hk,rfl,hSk⟩:=hrel
   clear hSv
   have k0:(0:Int)≤(k:Int):=by omega
   obtain ⟨k',hk'⟩:∃z,k+1=z:=⟨_,rfl⟩
   have ck:(k:Int)+1=(k':Int):=by omega
   have hE1:=fun h=>blkEnd_end (l:=xs) (k:=k) h
   have hy1:=fun h h1 h2=>blkEnd_yes (l:=xs) (k:=k) h h1 h2
   have hn1:=fun h h1=>blkEnd_no (l:=xs) (k:=k) h h1
   rw [hk',hx.out] at hE1 hy1 hn1
   replace hk':=A0.mk hk'
   replace hE1:=A0.mk hE1;replace hy1:=A0.mk hy1;replace hn1:=A0.mk hn1
   have wk2:IntKind.i64.wrap ((k:Int)+2)=((k+2:Nat):Int):=by rw [IntWalk.i64_in _ (by omega)];rfl
   by_cases hkn:k'<n
   ·have k1:(k:Int)< (n:Int):=by have:=hk'.out;omega
    have k2:(0:Int)≤(k':Int):=by omega
    have k3:(k':Int)< (n:Int):=by omega
    obtain ⟨m,rfl⟩:∃m,gk=m+1:=⟨gk - 1,by have:=hk'.out;omega⟩
    obtain ⟨a',e,c0⟩:=hL.out k (by have:=hk'.out;omega)
    cases e
    obtain ⟨a',e,c1⟩:=hL.out k' hkn
    cases e
    have hyes:=hy1.out hkn
    have hno:=hn1.out hkn
    obtain ⟨y,hy⟩:∃z,A0 (xs.getD k 0=z):=⟨_,⟨rfl⟩⟩
    obtain ⟨z,hz⟩:∃z,A0 (xs.getD k' 0=z):=⟨_,⟨rfl⟩⟩
    rw [hy.out] at c0 hyes hno
    rw [hz.out] at c1 hyes hno
    by_cases h5:y=42
    ·subst h5
     by_cases h6:z=47
     ·subst h6
      have hSf:A0 (S=((k+2:Nat):Int)):=⟨by rw [hSk.out];exact hyes rfl rfl⟩
      clear hSk hyes hno
      go_wp2
      go_ret
      exact ⟨by rw [hSf.out];rfl,rfl⟩
     ·have e6:(z==47)=false:=beq_eq_false_iff_ne.mpr h6
      have hSn:A0 (S=blkEnd xs k'):=⟨by rw [hSk.out];exact hno fun h=>h6 h.2⟩
      clear hSk hyes hno
      go_wp2
      go_roundg m
      case rel=>exact ⟨k',rfl,by have:=hk'.out;omega,rfl,hSn⟩
      case measure=>omega
    ·have e5:(y==42)=false:=beq_eq_false_iff_ne.mpr h5
     have hSn:A0 (S=blkEnd xs k'):=⟨by rw [hSk.out];exact hno fun h=>h5 h.1⟩
     clear hSk hyes hno
     go_wp2
     go_roundg m
     case rel=>exact ⟨k',rfl,by have:=hk'.out;omega,rfl,hSn⟩
     case measure=>omega
   ·have hSf:A0 (S=-1):=⟨by rw [hSk.out];exact hE1.out hkn⟩
    clear hSk
    go_wp2
    go_ret
    exact ⟨by rw [hSf.out];rfl,rfl⟩
 have e4:(d != 42)=true:=bne_iff_ne.mpr h4
 have e4':(d==42)=false:=beq_eq_false_iff_ne.mpr h4
 have hSv:A0 (S=(p:Int)):=⟨by rw [←hkey.out,if_neg (fun h=>h3 h.2.2),if_neg (fun h=>h4 h.2.2)]⟩
 clear hS hkey
 go_enter Tryz.func62,Tryz.ntmps62
 go_wp2
 go_ret
 exact ⟨by rw [hSv.out];rfl,rfl⟩
theorem rletter_c {c:Int} {b:Bool} (h:iL c=b) (W:World):Calls Tryz.prog 101 #[.int .u8 c] W fun e w'=>e=.returned (.bool b)∧∃q,w'=W.drewN q:=(rletter_call c W).mono fun e w' ⟨h1,h2⟩=>⟨by rw [h1,h],0,h2⟩
theorem rdigit_c {c:Int} {b:Bool} (h:iD c=b) (W:World):Calls Tryz.prog 102 #[.int .u8 c] W fun e w'=>e=.returned (.bool b)∧∃q,w'=W.drewN q:=(rdigit_call c W).mono fun e w' ⟨h1,h2⟩=>⟨by rw [h1,h],0,h2⟩
theorem kind3_c {s:ByteArray} {K:Int} (h:kindOf s=K) (W:World):Calls Tryz.prog 103 #[.string s] W fun e w'=>e=.returned (.int .i64 K)∧Below W.heap.size W w':=(kind3_call s W).mono fun e w' ⟨h1,h2⟩=>⟨by rw [h1,h],h2⟩
def endOf4 (g:Nat) (W:World):Nat:=match W.cell? ⟨g,2,none⟩ with | some (.int _ v)=>v.toNat | _=>0
abbrev Zt4:Obj:=.cells #[.int .i64 0,.int .i64 0,.int .i64 0,.int .i64 0] 44
abbrev Bt4 (k p e v:Int):Obj:=.cells #[.int .i64 k,.int .i64 p,.int .i64 e,.int .i64 v] 44
theorem runLen_stop (f:Int→Bool):∀(l:List Int),rL f l<l.length→f (l.getD (rL f l) 0)=false
 | [],h=>by simp at h
 | c :: l,h=>by
  rw [runLen_cons] at h ⊢
  by_cases hc:f c=true
  ·rw [if_pos hc] at h ⊢
   simp only [List.length_cons] at h
   have:=runLen_stop f l (by omega)
   simpa using this
  ·rw [if_neg hc]
   simpa using hc
structure Bx4 (w W:World) (k p e v:Int):Prop where
 bel:Below w.heap.size w W
 c0:W.cell? ⟨w.heap.size+1,0,none⟩=some (.int .i64 k)
 c1:W.cell? ⟨w.heap.size+1,1,none⟩=some (.int .i64 p)
 c2:W.cell? ⟨w.heap.size+1,2,none⟩=some (.int .i64 e)
 c3:W.cell? ⟨w.heap.size+1,3,none⟩=some (.int .i64 v)
 f0:W.frozen? ⟨w.heap.size+1,0,none⟩=false
 f1:W.frozen? ⟨w.heap.size+1,1,none⟩=false
 f2:W.frozen? ⟨w.heap.size+1,2,none⟩=false
 f3:W.frozen? ⟨w.heap.size+1,3,none⟩=false
 z0:W.cell? ⟨w.heap.size,0,none⟩=some (.int .i64 0)
 z1:W.cell? ⟨w.heap.size,1,none⟩=some (.int .i64 0)
 z2:W.cell? ⟨w.heap.size,2,none⟩=some (.int .i64 0)
 z3:W.cell? ⟨w.heap.size,3,none⟩=some (.int .i64 0)
 y0:W.frozen? ⟨w.heap.size,0,none⟩=false
 y1:W.frozen? ⟨w.heap.size,1,none⟩=false
 y2:W.frozen? ⟨w.heap.size,2,none⟩=false
 y3:W.frozen? ⟨w.heap.size,3,none⟩=false
 hG:A0 (W.heap[w.heap.size]?=some (.cells #[.int .i64 0,.int .i64 0,.int .i64 0,.int .i64 0] 44 (0,0)))
theorem bx4_lit (w:World) (k p e v:Int) (q:Nat):Bx4 w (((w.alloc Zt4).alloc (Bt4 k p e v)).drewN q) k p e v where
 bel:=bel2 _ _ _ _
 c0:=by go_simp
 c1:=by go_simp
 c2:=by go_simp
 c3:=by go_simp
 f0:=by go_simp
 f1:=by go_simp
 f2:=by go_simp
 f3:=by go_simp
 z0:=by go_simp
 z1:=by go_simp
 z2:=by go_simp
 z3:=by go_simp
 y0:=by go_simp
 y1:=by go_simp
 y2:=by go_simp
 y3:=by go_simp
 hG:=⟨((bA _ (Bt4 k p e v)).block w.heap.size (by simp)).trans (bN w Zt4)⟩
theorem Bx4.below {w W W':World} {k p e v:Int} (h:Bx4 w W k p e v) (hb:Below W.heap.size W W'):Bx4 w W' k p e v :=
 ⟨h.bel.trans (hb.mono h.bel.size),(hb.cell (World.block_lt_of_cell? W _ h.c0)).trans h.c0,(hb.cell (World.block_lt_of_cell? W _ h.c1)).trans h.c1,(hb.cell (World.block_lt_of_cell? W _ h.c2)).trans h.c2,(hb.cell (World.block_lt_of_cell? W _ h.c3)).trans h.c3,
  (hb.frozen (p:=⟨w.heap.size+1,0,none⟩) (World.block_lt_of_cell? W _ h.c0)).trans h.f0,(hb.frozen (p:=⟨w.heap.size+1,1,none⟩) (World.block_lt_of_cell? W _ h.c1)).trans h.f1,(hb.frozen (p:=⟨w.heap.size+1,2,none⟩) (World.block_lt_of_cell? W _ h.c2)).trans h.f2,(hb.frozen (p:=⟨w.heap.size+1,3,none⟩) (World.block_lt_of_cell? W _ h.c3)).trans h.f3,
  (hb.cell (World.block_lt_of_cell? W _ h.z0)).trans h.z0,(hb.cell (World.block_lt_of_cell? W _ h.z1)).trans h.z1,(hb.cell (World.block_lt_of_cell? W _ h.z2)).trans h.z2,(hb.cell (World.block_lt_of_cell? W _ h.z3)).trans h.z3,
  (hb.frozen (p:=⟨w.heap.size,0,none⟩) (World.block_lt_of_cell? W _ h.z0)).trans h.y0,(hb.frozen (p:=⟨w.heap.size,1,none⟩) (World.block_lt_of_cell? W _ h.z1)).trans h.y1,(hb.frozen (p:=⟨w.heap.size,2,none⟩) (World.block_lt_of_cell? W _ h.z2)).trans h.y2,(hb.frozen (p:=⟨w.heap.size,3,none⟩) (World.block_lt_of_cell? W _ h.z3)).trans h.y3,⟨bB h.hG.out hb⟩⟩
theorem ret_box4 {tmps:Array Value} {X:World} {g:Nat} {k p e v err:Int} (hg:X.heap[g]?=some (.cells #[.int .i64 0,.int .i64 0,.int .i64 0,.int .i64 0] 44 (0,0)))
  (hp:tmps.getD 4 undef=.pointer (some ⟨g,0,none⟩)) (he:tmps.getD 5 undef=.int .i64 err) :
  (results Tryz.f63 tmps).run Tryz.prog ((((X.setCell ⟨g,0,none⟩ (.int .i64 k)).setCell ⟨g,1,none⟩ (.int .i64 p)).setCell ⟨g,2,none⟩ (.int .i64 e)).setCell ⟨g,3,none⟩ (.int .i64 v)) =
   .ok (.tuple #[tok4 k p e v,.int .i64 err]) ((((X.setCell ⟨g,0,none⟩ (.int .i64 k)).setCell ⟨g,1,none⟩ (.int .i64 p)).setCell ⟨g,2,none⟩ (.int .i64 e)).setCell ⟨g,3,none⟩ (.int .i64 v)):=by
 have e0:=run_loadVar_row (P:=Tryz.prog) ((((X.setCell ⟨g,0,none⟩ (.int .i64 k)).setCell ⟨g,1,none⟩ (.int .i64 p)).setCell ⟨g,2,none⟩ (.int .i64 e)).setCell ⟨g,3,none⟩ (.int .i64 v)) g 44 44 #[.int .i64 k,.int .i64 p,.int .i64 e,.int .i64 v] (0,0) _
  (bP (bP (bP (bP hg 0 (.int .i64 k) rfl) 1 (.int .i64 p) rfl) 2 (.int .i64 e) rfl) 3 (.int .i64 v) rfl) Tryz.underlying44 rfl (by kernel_rfl)
 have h2':tmps[4]?.getD undef=.pointer (some ⟨g,0,none⟩):=by simpa using hp
 have h3':tmps[5]?.getD undef=.int .i64 err:=by simpa using he
 simp [results,Tryz.results63,asAddr,h2',h3',e0,tok4]
set_option maxRecDepth 100000 in
set_option maxHeartbeats 4000000 in
theorem ref_letter {A:Option Addr} {n cap:Nat} {xs:List Int} (w:World) (hn:n≤65536) (hcap:n≤cap) (hx:xs.length=n)
  (p:Nat) (hp:p<n) (hL:Lies w A n xs) (hz:iL (xs.getD p 0)=true) (m:Nat) (hm:rL isWord (xs.drop p)=m) (hm2:p+m≤n) (K:Int) (hK:KB ((xs.drop p).take m)=K)
  (R:Value) (hR:A0 (R=if K=0 then (.tuple #[tok4 1 p ((p+m:Nat):Int) 0,.int .i64 (if 32<m then 33 else 0)]) else (.tuple #[tok4 K p ((p+m:Nat):Int) 0,.int .i64 0]))) :
  Calls Tryz.prog 63 #[.slice A n cap,.int .i64 p] w fun e w'=>Below w.heap.size w w' ∧
   e=.returned R:=by
 have hLL:=hL
 obtain ⟨a0,rfl,hcell⟩:=hL p hp
 have kz:∀o o2,((w.alloc o).alloc o2).cell? (a0.add p)=some (.int .u8 (xs.getD p 0)):=fun o o2=>cells2 hcell o o2
 have kzz:∀o o2 i,i<n→((w.alloc o).alloc o2).cell? (a0.add i)=some (.int .u8 (xs.getD i 0)):=fun o o2 i hi=>cells2 (hL.at i hi) o o2
 have hw:∀j,j<m→isWord (xs.getD (p+j) 0)=true:=fun j hj=>by
  have h1:=runLen_all isWord (xs.drop p) ((xs.drop p).getD j 0)
  rw [hm] at h1
  have hl:j< ((xs.drop p).take m).length:=by simp;omega
  have h2:=h1 (by have:=List.getElem_mem hl;rw [List.getElem_take] at this;have hl2:j< (xs.drop p).length:=by simp;omega
                  rw [List.getD_eq_getElem?_getD,List.getElem?_eq_getElem hl2];exact this)
  rw [←h2];simp [List.getD]
 have hend:p+m<n→isWord (xs.getD (p+m) 0)=false:=fun hlt=>by
  have:=runLen_stop isWord (xs.drop p) (by rw [hm];simp;omega)
  rw [hm] at this
  rw [←this];simp [List.getD]
 have hlz:iL (xs.getD p 0)=true:=by rw [hz]
 have kc:=A0.mk kzz
 have hL:=A0.mk hL
 have hLL:=A0.mk hLL
 clear kzz
 generalize xs.getD p 0=z at kz hlz hcell hz
 have g0:(0:Int)≤(p:Int):=by omega
 have g1:(p:Int)< (n:Int):=by omega
 have sd:∀(W:World) (j:Nat) (x:Addr) (v:Value),(W.drewN j).setCell x v=(W.setCell x v).drewN j:=fun _ _ _ _=>rfl
 have dd:∀(W:World) (j:Nat),(W.drewN j).drew=W.drewN (j+1):=fun _ _=>rfl
 go_enter Tryz.func63,Tryz.ntmps63
 go_wp2_with (first|(go_at_call 101;with_reducible refine (rletter_c hlz _).mono ?_;rintro e w' ⟨rfl,⟨nd,rfl⟩⟩))
 go_loopw [] (fun W=>∃j q:Nat,j≤m∧W=((w.alloc Zt4).alloc (Bt4 0 p ((p+j:Nat):Int) 0)).drewN q) (fun W=>m+p - endOf4 (w.heap.size+1) W)
 case atStart=>exact ⟨0,nd,by omega,rfl⟩
 case round =>
  obtain ⟨j,q,hj,rfl⟩:=hrel
  obtain ⟨i,hi⟩:∃i,p+j=i:=⟨_,rfl⟩
  rw [hi]
  have kci:=fun o o2=>kc.out o o2 i
  have hen:∀(o:Obj) (a b c d:Int) (q:Nat),endOf4 (w.heap.size+1) (((w.alloc o).alloc (Bt4 a b c d)).drewN q)=c.toNat:=fun o a b c d q=>by
   have:(((w.alloc o).alloc (Bt4 a b c d)).drewN q).cell? ⟨w.heap.size+1,2,none⟩=some (.int .i64 c):=by go_simp
   unfold endOf4
   rw [this]
  have i0:(0:Int)≤(i:Int):=by omega
  have wi:IntKind.i64.wrap ((i:Int)+1)=(i:Int)+1:=IntWalk.i64_in _ (by omega)
  by_cases hjm:j<m
  ·have hwi:=hw j hjm
   rw [hi] at hwi
   have kcj:=fun o o2=>kci o o2 (by omega)
   clear kci
   generalize xs.getD i 0=y at kcj hwi
   have i1:(i:Int)< (n:Int):=by omega
   cases hly:iL y with
   | true =>
    have hf:iL y=true:=by rw [hly]
    go_wp2_with (first|(go_at_call 101;with_reducible refine (rletter_c hf _).mono ?_;rintro e w' ⟨rfl,⟨nd,rfl⟩⟩))
    exact ⟨⟨j+1,q+nd,by omega,by rw [show ((p+(j+1):Nat):Int)=(i:Int)+1 by omega]⟩,by rw [hen,hen];omega⟩
   | false =>
    have hf:iL y=false:=by rw [hly]
    have hd:iD y=true:=by
     unfold isWord at hwi
     rw [hly] at hwi
     exact hwi
    go_wp2_with (first|(go_at_call 101;with_reducible refine (rletter_c hf _).mono ?_;rintro e w' ⟨rfl,⟨nd,rfl⟩⟩)|(go_at_call 102;with_reducible refine (rdigit_c hd _).mono ?_;rintro e w' ⟨rfl,⟨nd2,rfl⟩⟩))
    exact ⟨⟨j+1,q+nd+nd2,by omega,by rw [show ((p+(j+1):Nat):Int)=(i:Int)+1 by omega]⟩,by rw [hen,hen];omega⟩
  ·obtain rfl:j=m:=by omega
   have hsm:∀w,(Instr.sliceAt 22 (.slice (some a0) n cap) (some (.int .i64 (p:Int))) (some (.int .i64 (i:Int))) none).run Tryz.prog w=.ok (.slice (tl (some a0) cap p) j (cap - p)) w:=fun w=>by
    have:=slice_mid w (some a0) n cap p i (by omega) (by omega)
    rwa [show i - p=j by omega] at this
   have CV:=conv2 (m:=j) hx hcap (by omega) hLL.out
   have hKf:kindOf (strOfNums ((xs.drop p).take j))=K:=by rw [←hK];rfl
   have w2:IntKind.i64.wrap ((i:Int) - (p:Int))=(j:Int):=by (rw [IntWalk.i64_in _ (by omega)];omega)
   rw [hi] at hR
   by_cases hin:i<n
   ·have i1:decide ((i:Int)< (n:Int))=true:=decide_eq_true (by omega)
    have kcj:=fun o o2=>kci o o2 hin
    have hwi:=hend (by omega)
    rw [hi] at hwi
    clear kci
    generalize xs.getD i 0=y at kcj hwi
    unfold isWord at hwi
    have hf:iL y=false:=by cases h:iL y <;> simp [h] at hwi ⊢
    have hd:iD y=false:=by cases h:iD y <;> simp [h] at hwi ⊢
    by_cases hk0:K=0
    ·subst hk0
     by_cases h32:32<j
     ·have d32:decide ((32:Int)< (j:Int))=true:=decide_eq_true (by omega)
      go_wp2_with (first|(go_at_call 101;with_reducible refine (rletter_c hf _).mono ?_;rintro e w' ⟨rfl,⟨nd,rfl⟩⟩)|(go_at_call 102;with_reducible refine (rdigit_c hd _).mono ?_;rintro e w' ⟨rfl,⟨nd2,rfl⟩⟩)|(go_at_call 103;with_reducible refine (kind3_c hKf _).mono ?_;rintro e w3 ⟨rfl,hb3⟩;obtain ⟨hbel,c0,c1,c2,c3,f0,f1,f2,f3,z0,z1,z2,z3,y0,y1,y2,y3,hG⟩:=(bx4_lit w 0 p i 0 _).below hb3;clear hb3))
      exact bodyPost_ret (ret_box4 (by repeat (first | with_reducible exact hG.out | refine Q5 ?_ (by dsimp only;omega) _)) rfl rfl) rfl ⟨by repeat (first | with_reducible exact hbel | refine Below.setCell ?_ (by dsimp only;omega) _),by rw [hR.out,if_pos trivial,if_pos h32]⟩
     ·have d32:decide ((32:Int)< (j:Int))=false:=decide_eq_false (by omega)
      go_wp2_with (first|(go_at_call 101;with_reducible refine (rletter_c hf _).mono ?_;rintro e w' ⟨rfl,⟨nd,rfl⟩⟩)|(go_at_call 102;with_reducible refine (rdigit_c hd _).mono ?_;rintro e w' ⟨rfl,⟨nd2,rfl⟩⟩)|(go_at_call 103;with_reducible refine (kind3_c hKf _).mono ?_;rintro e w3 ⟨rfl,hb3⟩;obtain ⟨hbel,c0,c1,c2,c3,f0,f1,f2,f3,z0,z1,z2,z3,y0,y1,y2,y3,hG⟩:=(bx4_lit w 0 p i 0 _).below hb3;clear hb3))
      exact bodyPost_ret (ret_box4 (by repeat (first | with_reducible exact hG.out | refine Q5 ?_ (by dsimp only;omega) _)) rfl rfl) rfl ⟨by repeat (first | with_reducible exact hbel | refine Below.setCell ?_ (by dsimp only;omega) _),by rw [hR.out,if_pos trivial,if_neg h32]⟩
    ·have hkb:(K==0)=false:=beq_eq_false_iff_ne.mpr hk0
     go_wp2_with (first|(go_at_call 101;with_reducible refine (rletter_c hf _).mono ?_;rintro e w' ⟨rfl,⟨nd,rfl⟩⟩)|(go_at_call 102;with_reducible refine (rdigit_c hd _).mono ?_;rintro e w' ⟨rfl,⟨nd2,rfl⟩⟩)|(go_at_call 103;with_reducible refine (kind3_c hKf _).mono ?_;rintro e w3 ⟨rfl,hb3⟩;obtain ⟨hbel,c0,c1,c2,c3,f0,f1,f2,f3,z0,z1,z2,z3,y0,y1,y2,y3,hG⟩:=(bx4_lit w 0 p i 0 _).below hb3;clear hb3))
     exact bodyPost_ret (ret_box4 (by repeat (first | with_reducible exact hG.out | refine Q5 ?_ (by dsimp only;omega) _)) rfl rfl) rfl ⟨by repeat (first | with_reducible exact hbel | refine Below.setCell ?_ (by dsimp only;omega) _),by rw [hR.out,if_neg hk0]⟩
   ·have i1:decide ((i:Int)< (n:Int))=false:=decide_eq_false (by omega)
    by_cases hk0:K=0
    ·subst hk0
     by_cases h32:32<j
     ·have d32:decide ((32:Int)< (j:Int))=true:=decide_eq_true (by omega)
      go_wp2_with (first|(go_at_call 103;with_reducible refine (kind3_c hKf _).mono ?_;rintro e w3 ⟨rfl,hb3⟩;obtain ⟨hbel,c0,c1,c2,c3,f0,f1,f2,f3,z0,z1,z2,z3,y0,y1,y2,y3,hG⟩:=(bx4_lit w 0 p i 0 _).below hb3;clear hb3))
      exact bodyPost_ret (ret_box4 (by repeat (first | with_reducible exact hG.out | refine Q5 ?_ (by dsimp only;omega) _)) rfl rfl) rfl ⟨by repeat (first | with_reducible exact hbel | refine Below.setCell ?_ (by dsimp only;omega) _),by rw [hR.out,if_pos trivial,if_pos h32]⟩
     ·have d32:decide ((32:Int)< (j:Int))=false:=decide_eq_false (by omega)
      go_wp2_with (first|(go_at_call 103;with_reducible refine (kind3_c hKf _).mono ?_;rintro e w3 ⟨rfl,hb3⟩;obtain ⟨hbel,c0,c1,c2,c3,f0,f1,f2,f3,z0,z1,z2,z3,y0,y1,y2,y3,hG⟩:=(bx4_lit w 0 p i 0 _).below hb3;clear hb3))
      exact bodyPost_ret (ret_box4 (by repeat (first | with_reducible exact hG.out | refine Q5 ?_ (by dsimp only;omega) _)) rfl rfl) rfl ⟨by repeat (first | with_reducible exact hbel | refine Below.setCell ?_ (by dsimp only;omega) _),by rw [hR.out,if_pos trivial,if_neg h32]⟩
    ·have hkb:(K==0)=false:=beq_eq_false_iff_ne.mpr hk0
     go_wp2_with (first|(go_at_call 103;with_reducible refine (kind3_c hKf _).mono ?_;rintro e w3 ⟨rfl,hb3⟩;obtain ⟨hbel,c0,c1,c2,c3,f0,f1,f2,f3,z0,z1,z2,z3,y0,y1,y2,y3,hG⟩:=(bx4_lit w 0 p i 0 _).below hb3;clear hb3))
     exact bodyPost_ret (ret_box4 (by repeat (first | with_reducible exact hG.out | refine Q5 ?_ (by dsimp only;omega) _)) rfl rfl) rfl ⟨by repeat (first | with_reducible exact hbel | refine Below.setCell ?_ (by dsimp only;omega) _),by rw [hR.out,if_neg hk0]⟩
def numF (v:Int) (l:List Int):Int:=l.foldl (fun v c=>if v≤2147483648 then 10 * v+(c - 48) else v) v
theorem ret_lit4 {tmps:Array Value} {w:World} {k p e v err:Int} {o2:Obj} {q:Nat} (hp:tmps.getD 4 undef=.pointer (some ⟨w.heap.size,0,none⟩)) (he:tmps.getD 5 undef=.int .i64 err) :
  (results Tryz.f63 tmps).run Tryz.prog (((w.alloc (Bt4 k p e v)).alloc o2).drewN q)=.ok (.tuple #[tok4 k p e v,.int .i64 err]) (((w.alloc (Bt4 k p e v)).alloc o2).drewN q):=by
 have e0:=run_loadVar_row (P:=Tryz.prog) (((w.alloc (Bt4 k p e v)).alloc o2).drewN q) w.heap.size 44 44 #[.int .i64 k,.int .i64 p,.int .i64 e,.int .i64 v] (0,0) _
  (((bA _ o2).block w.heap.size (by simp)).trans (bN w (Bt4 k p e v))) Tryz.underlying44 rfl (by kernel_rfl)
 have h2':tmps[4]?.getD undef=.pointer (some ⟨w.heap.size,0,none⟩):=by simpa using hp
 have h3':tmps[5]?.getD undef=.int .i64 err:=by simpa using he
 simp [results,Tryz.results63,asAddr,h2',h3',e0,tok4]
theorem getDx {l:List Int} {k:Nat} (h:k<l.length):l.getD k 0=l[k]:=by simp [List.getD,h]
set_option maxRecDepth 100000 in
set_option maxHeartbeats 4000000 in
theorem ref_digit {A:Option Addr} {n cap:Nat} {xs:List Int} (w:World) (hn:n≤65536) (_hcap:n≤cap) (hx:xs.length=n)
  (p:Nat) (hp:p<n) (hL:Lies w A n xs) (hz:iL (xs.getD p 0)=false) (hzd:iD (xs.getD p 0)=true) (m:Nat) (hm:rL iD (xs.drop p)=m) (hm2:p+m≤n) (hm1:1≤m)
  (V:Int) (hV:numF 0 ((xs.drop p).take m)=V)
  (R:Value) (hR:A0 (R=.tuple #[tok4 2 p ((p+m:Nat):Int) V,.int .i64 (if 2147483648<V∨(xs.getD p 0=48∧1<m) then 34 else 0)])) :
  Calls Tryz.prog 63 #[.slice A n cap,.int .i64 p] w fun e w'=>Below w.heap.size w w' ∧
   e=.returned R:=by
 have hLL:=hL
 obtain ⟨a0,rfl,hcell⟩:=hL p hp
 have kz:∀o o2,((w.alloc o).alloc o2).cell? (a0.add p)=some (.int .u8 (xs.getD p 0)):=fun o o2=>cells2 hcell o o2
 have kzz:∀o o2 i,i<n→((w.alloc o).alloc o2).cell? (a0.add i)=some (.int .u8 (xs.getD i 0)):=fun o o2 i hi=>cells2 (hL.at i hi) o o2
 have hw:∀j,j<m→iD (xs.getD (p+j) 0)=true:=fun j hj=>by
  have h1:=runLen_all iD (xs.drop p) ((xs.drop p).getD j 0)
  rw [hm] at h1
  have hl:j< ((xs.drop p).take m).length:=by simp;omega
  have h2:=h1 (by have:=List.getElem_mem hl;rw [List.getElem_take] at this;have hl2:j< (xs.drop p).length:=by simp;omega
                  rw [List.getD_eq_getElem?_getD,List.getElem?_eq_getElem hl2];exact this)
  rw [←h2];simp [List.getD]
 have hend:p+m<n→iD (xs.getD (p+m) 0)=false:=fun hlt=>by
  have:=runLen_stop iD (xs.drop p) (by rw [hm];simp;omega)
  rw [hm] at this
  rw [←this];simp [List.getD]
 have hnum:∀j,j<m→numF 0 ((xs.drop p).take (j+1))=if numF 0 ((xs.drop p).take j)≤2147483648 then 10 * numF 0 ((xs.drop p).take j)+(xs.getD (p+j) 0 - 48) else numF 0 ((xs.drop p).take j):=fun j hj=>by
  have hl2:j< (xs.drop p).length:=by simp;omega
  have hl3:p+j<xs.length:=by omega
  unfold numF
  rw [getDx hl3,List.take_succ_eq_append_getElem hl2,List.foldl_append]
  simp
 have hnb:∀j,j≤m→0≤numF 0 ((xs.drop p).take j)∧numF 0 ((xs.drop p).take j)≤21474836489:=fun j=>by
  induction j with
  | zero=>intro _;simp [numF]
  | succ j ih =>
   intro hj
   have:=ih (by omega)
   have hd:=hw j (by omega)
   unfold iD at hd
   simp only [Bool.and_eq_true,decide_eq_true_iff] at hd
   rw [hnum j (by omega)]
   split <;> omega
 have hlz:iL (xs.getD p 0)=false:=by rw [hz]
 have hdz:iD (xs.getD p 0)=true:=by rw [hzd]
 have kc:=A0.mk kzz
 have hL:=A0.mk hL
 have hLL:=A0.mk hLL
 have hnum:=A0.mk hnum
 have hnb:=A0.mk hnb
 have hw:=A0.mk hw
 have hend:=A0.mk hend
 have hV:=A0.mk hV
 clear kzz
 generalize xs.getD p 0=z at kz hlz hdz hcell hz hzd hR
 have g0:(0:Int)≤(p:Int):=by omega
 have g1:(p:Int)< (n:Int):=by omega
 have sd:∀(W:World) (j:Nat) (x:Addr) (v:Value),(W.drewN j).setCell x v=(W.setCell x v).drewN j:=fun _ _ _ _=>rfl
 have dd:∀(W:World) (j:Nat),(W.drewN j).drew=W.drewN (j+1):=fun _ _=>rfl
 clear hm
 go_enter Tryz.func63,Tryz.ntmps63
 go_wp2_with (first|(go_at_call 101;with_reducible refine (rletter_c hlz _).mono ?_;rintro e w' ⟨rfl,⟨nd,rfl⟩⟩)|(go_at_call 102;with_reducible refine (rdigit_c hdz _).mono ?_;rintro e w' ⟨rfl,⟨nd2,rfl⟩⟩))
 go_loopw [] (fun W=>∃j q:Nat,j≤m∧W=((w.alloc Zt4).alloc (Bt4 0 p ((p+j:Nat):Int) (numF 0 ((xs.drop p).take j)))).drewN q) (fun W=>m+p - endOf4 (w.heap.size+1) W)
 case atStart=>exact ⟨0,_,by omega,rfl⟩
 case round =>
  obtain ⟨j,q,hj,rfl⟩:=hrel
  obtain ⟨i,hi⟩:∃i,p+j=i:=⟨_,rfl⟩
  rw [hi]
  have kci:=fun o o2=>kc.out o o2 i
  have hen:∀(o:Obj) (a b c d:Int) (q:Nat),endOf4 (w.heap.size+1) (((w.alloc o).alloc (Bt4 a b c d)).drewN q)=c.toNat:=fun o a b c d q=>by
   have:(((w.alloc o).alloc (Bt4 a b c d)).drewN q).cell? ⟨w.heap.size+1,2,none⟩=some (.int .i64 c):=by go_simp
   unfold endOf4
   rw [this]
  have i0:(0:Int)≤(i:Int):=by omega
  have wi:IntKind.i64.wrap ((i:Int)+1)=(i:Int)+1:=IntWalk.i64_in _ (by omega)
  have hbk:=hnb.out j hj
  by_cases hjm:j<m
  ·have hwi:=hw.out j hjm
   have hnj:=hnum.out j hjm
   rw [hi] at hwi hnj
   have kcj:=fun o o2=>kci o o2 (by omega)
   clear kci
   generalize xs.getD i 0=y at kcj hwi hnj
   generalize hv:numF 0 ((xs.drop p).take j)=v at hnj hbk ⊢
   have i1:(i:Int)< (n:Int):=by omega
   have hd:iD y=true:=by rw [hwi]
   unfold iD at hwi
   simp only [Bool.and_eq_true,decide_eq_true_iff] at hwi
   by_cases hv:v≤2147483648
   ·rw [if_pos hv] at hnj
    have dv:decide (v≤2147483648)=true:=decide_eq_true hv
    have wa:IntKind.i64.wrap (10 * v)=10 * v:=IntWalk.i64_in _ (by omega)
    have wb:IntKind.u8.wrap (y - 48)=y - 48:=by rw [IntKind.wrap_u8];omega
    have wc:IntKind.i64.wrap (y - 48)=y - 48:=IntWalk.i64_in _ (by omega)
    have we:IntKind.i64.wrap (10 * v+(y - 48))=10 * v+(y - 48):=IntWalk.i64_in _ (by omega)
    have hnj:=A0.mk hnj
    go_wp2_with (first|(go_at_call 102;with_reducible refine (rdigit_c hd _).mono ?_;rintro e w' ⟨rfl,⟨nd2,rfl⟩⟩))
    go_region
    go_wp2
    exact ⟨⟨j+1,_,by omega,by rw [show ((p+(j+1):Nat):Int)=(i:Int)+1 by omega,hnj.out]⟩,by rw [hen,hen];omega⟩
   ·rw [if_neg hv] at hnj
    have dv:decide (v≤2147483648)=false:=decide_eq_false hv
    have hnj:=A0.mk hnj
    go_wp2_with (first|(go_at_call 102;with_reducible refine (rdigit_c hd _).mono ?_;rintro e w' ⟨rfl,⟨nd2,rfl⟩⟩))
    exact ⟨⟨j+1,_,by omega,by rw [show ((p+(j+1):Nat):Int)=(i:Int)+1 by omega,hnj.out]⟩,by rw [hen,hen];omega⟩
  ·obtain rfl:j=m:=by omega
   rw [hV.out]
   rw [hV.out] at hbk
   rw [hi] at hR
   have w2:IntKind.i64.wrap ((i:Int) - (p:Int))=(j:Int):=by (rw [IntWalk.i64_in _ (by omega)];omega)
   clear hV hnum hnb hw
   by_cases hin:i<n
   ·have i1:decide ((i:Int)< (n:Int))=true:=decide_eq_true (by omega)
    have kcj:=fun o o2=>kci o o2 hin
    have hwi:=hend.out (by omega)
    rw [hi] at hwi
    clear kci hend
    generalize xs.getD i 0=y at kcj hwi
    have hd:iD y=false:=by rw [hwi]
    by_cases hv:2147483648<V
    ·have dv:decide (2147483648<V)=true:=decide_eq_true hv
     go_wp2_with (first|(go_at_call 102;with_reducible refine (rdigit_c hd _).mono ?_;rintro e w' ⟨rfl,⟨nd2,rfl⟩⟩))
     exact bodyPost_ret (ret_lit4 rfl rfl) rfl ⟨bel2 _ _ _ _,by rw [hR.out,if_pos (Or.inl hv)]⟩
    ·have dv:decide (2147483648<V)=false:=decide_eq_false hv
     by_cases h48:z=48
     ·subst h48
      by_cases hj1:1<j
      ·have dj:decide ((1:Int)< (j:Int))=true:=decide_eq_true (by omega)
       go_wp2_with (first|(go_at_call 102;with_reducible refine (rdigit_c hd _).mono ?_;rintro e w' ⟨rfl,⟨nd2,rfl⟩⟩))
       exact bodyPost_ret (ret_lit4 rfl rfl) rfl ⟨bel2 _ _ _ _,by rw [hR.out,if_pos (Or.inr ⟨trivial,hj1⟩)]⟩
      ·have dj:decide ((1:Int)< (j:Int))=false:=decide_eq_false (by omega)
       go_wp2_with (first|(go_at_call 102;with_reducible refine (rdigit_c hd _).mono ?_;rintro e w' ⟨rfl,⟨nd2,rfl⟩⟩))
       exact bodyPost_ret (ret_lit4 rfl rfl) rfl ⟨bel2 _ _ _ _,by rw [hR.out,if_neg (fun h=>h.elim (Int.not_lt.mpr hv) (fun h=>hj1 h.2))]⟩
     ·have h48b:(z==48)=false:=beq_eq_false_iff_ne.mpr h48
      go_wp2_with (first|(go_at_call 102;with_reducible refine (rdigit_c hd _).mono ?_;rintro e w' ⟨rfl,⟨nd2,rfl⟩⟩))
      exact bodyPost_ret (ret_lit4 rfl rfl) rfl ⟨bel2 _ _ _ _,by rw [hR.out,if_neg (fun h=>h.elim (Int.not_lt.mpr hv) (fun h=>h48 h.1))]⟩
   ·have i1:decide ((i:Int)< (n:Int))=false:=decide_eq_false (by omega)
    by_cases hv:2147483648<V
    ·have dv:decide (2147483648<V)=true:=decide_eq_true hv
     go_wp2
     exact bodyPost_ret (ret_lit4 rfl rfl) rfl ⟨bel2 _ _ _ _,by rw [hR.out,if_pos (Or.inl hv)]⟩
    ·have dv:decide (2147483648<V)=false:=decide_eq_false hv
     by_cases h48:z=48
     ·subst h48
      by_cases hj1:1<j
      ·have dj:decide ((1:Int)< (j:Int))=true:=decide_eq_true (by omega)
       go_wp2
       exact bodyPost_ret (ret_lit4 rfl rfl) rfl ⟨bel2 _ _ _ _,by rw [hR.out,if_pos (Or.inr ⟨trivial,hj1⟩)]⟩
      ·have dj:decide ((1:Int)< (j:Int))=false:=decide_eq_false (by omega)
       go_wp2
       exact bodyPost_ret (ret_lit4 rfl rfl) rfl ⟨bel2 _ _ _ _,by rw [hR.out,if_neg (fun h=>h.elim (Int.not_lt.mpr hv) (fun h=>hj1 h.2))]⟩
     ·have h48b:(z==48)=false:=beq_eq_false_iff_ne.mpr h48
      go_wp2
      exact bodyPost_ret (ret_lit4 rfl rfl) rfl ⟨bel2 _ _ _ _,by rw [hR.out,if_neg (fun h=>h.elim (Int.not_lt.mpr hv) (fun h=>h48 h.1))]⟩
end Go.Proofs.YtgaoapnaplgaiaaGreatDoor.Sc
namespace Go.Proofs.YtgaoapnaplgaiaaGreatDoor.Sc
open Go.RowKit Tk Go.Proofs.YtgaoapnaplgaiaaGreatDoor.Wd
set_option maxRecDepth 100000
set_option maxRecDepth 100000 in
set_option maxHeartbeats 4000000 in
theorem ref_other {A:Option Addr} {n cap:Nat} {xs:List Int} (w:World) (hn:n≤65536) (hcap:n≤cap) (hx:xs.length=n)
  (p:Nat) (hp:p<n) (hL:Lies w A n xs) (hz:iL (xs.getD p 0)=false) (hzd:iD (xs.getD p 0)=false) (K2 K1:Int) (hK2:KB ((xs.drop p).take 2)=K2) (hK1:KB ((xs.drop p).take 1)=K1) (b2:0≤K2) (b1:0≤K1)
  (R:Value) (hR:A0 (R=if p+2≤n∧K2≠0 then .tuple #[tok4 K2 p ((p+2:Nat):Int) 0,.int .i64 0] else if K1≠0 then .tuple #[tok4 K1 p ((p+1:Nat):Int) 0,.int .i64 0] else .tuple #[tok4 0 p p 0,.int .i64 31])) :
  Calls Tryz.prog 63 #[.slice A n cap,.int .i64 p] w fun e w'=>Below w.heap.size w w' ∧
   e=.returned R:=by
 have hLL:=hL
 obtain ⟨a0,rfl,hcell⟩:=hL p hp
 have kz:∀o o2,((w.alloc o).alloc o2).cell? (a0.add p)=some (.int .u8 (xs.getD p 0)):=fun o o2=>cells2 hcell o o2
 have hlz:iL (xs.getD p 0)=false:=by rw [hz]
 have hdz:iD (xs.getD p 0)=false:=by rw [hzd]
 have hsm:∀(w:World) (i j:Nat),p+j=i→i≤n→(Instr.sliceAt 22 (.slice (some a0) n cap) (some (.int .i64 (p:Int))) (some (.int .i64 (i:Int))) none).run Tryz.prog w=.ok (.slice (tl (some a0) cap p) j (cap - p)) w:=fun w i j hi hin=>by
  have:=slice_mid w (some a0) n cap p i (by omega) (by omega)
  rwa [show i - p=j by omega] at this
 have CV:∀(W:World) (j:Nat),p+j≤n→Below w.heap.size w W→(convert 22 9 (.slice (tl (some a0) cap p) j (cap - p))).run Tryz.prog W=.ok (.string (strOfNums ((xs.drop p).take j))) W:=fun W j hj hb =>
  ((hLL.below hb).mid hcap hj).bytes.convert (by simp;omega) _ 22 5 9 Tryz.underlying22 Tryz.underlying5 Tryz.underlying9
 have hL:=A0.mk hL
 have hLL:=A0.mk hLL
 generalize xs.getD p 0=z at kz hlz hdz hcell hz hzd
 have g0:(0:Int)≤(p:Int):=by omega
 have g1:(p:Int)< (n:Int):=by omega
 have sd:∀(W:World) (j:Nat) (x:Addr) (v:Value),(W.drewN j).setCell x v=(W.setCell x v).drewN j:=fun _ _ _ _=>rfl
 have dd:∀(W:World) (j:Nat),(W.drewN j).drew=W.drewN (j+1):=fun _ _=>rfl
 obtain ⟨p2,hp2⟩:∃i,p+2=i:=⟨_,rfl⟩
 obtain ⟨p1,hp1⟩:∃i,p+1=i:=⟨_,rfl⟩
 rw [hp1,hp2] at hR
 have w2:IntKind.i64.wrap ((p:Int)+2)=(p2:Int):=by (rw [IntWalk.i64_in _ (by omega)];omega)
 have w1:IntKind.i64.wrap ((p:Int)+1)=(p1:Int):=by (rw [IntWalk.i64_in _ (by omega)];omega)
 have s2:=fun w=>hsm w p2 2 hp2
 have s1:=fun w=>hsm w p1 1 hp1 (by omega)
 have cv2:=fun W=>CV W 2
 have cv1:=fun W=>CV W 1 (by omega)
 have k2:kindOf (strOfNums ((xs.drop p).take 2))=K2:=by rw [←hK2];rfl
 have k1:kindOf (strOfNums ((xs.drop p).take 1))=K1:=by rw [←hK1];rfl
 generalize strOfNums ((xs.drop p).take 2)=S2 at cv2 k2
 generalize strOfNums ((xs.drop p).take 1)=S1 at cv1 k1
 clear hsm CV hK2 hK1
 -- behind the loop's two rounds
 go_enter Tryz.func63,Tryz.ntmps63
 go_wp2_with (first|(go_at_call 101;with_reducible refine (rletter_c hlz _).mono ?_;rintro e w' ⟨rfl,⟨nd,rfl⟩⟩)|(go_at_call 102;with_reducible refine (rdigit_c hdz _).mono ?_;rintro e w' ⟨rfl,⟨nd2,rfl⟩⟩))
 go_loopw [7] (fun v W=>∃j:Nat,v=.int .i64 j∧A0 (Bx4 w W 0 p p 0)∧(j=2∨(j≤1∧¬ (p2≤n∧K2≠0))∧(j=1∨K1=0))) (fun v _=>(intOf v).toNat)
 case atStart=>exact ⟨2,rfl,⟨bx4_lit _ _ _ _ _ _⟩,Or.inl rfl⟩
 case round =>
  obtain ⟨j,rfl,hB,hj⟩:=hrel
  obtain ⟨hbel,c0,c1,c2,c3,f0,f1,f2,f3,z0,z1,z2,z3,y0,y1,y2,y3,hG⟩:=id hB.out
  have hj':j=2∨j=1∨j=0:=by omega
  rcases hj' with rfl | rfl | rfl
  ·by_cases h2:p2≤n
   ·have d2:decide ((p2:Int)≤(n:Int))=true:=decide_eq_true (by omega)
    have i2:(p2:Int)≤(n:Int):=by omega
    have s2':=fun w=>s2 w h2
    have cv2':=cv2 wr (by omega) hbel
    by_cases hk:K2=0
    ·subst hk
     go_wp2_with (first|(go_at_call 103;with_reducible refine (kind3_c k2 _).mono ?_;rintro e w3 ⟨rfl,hb3⟩))
     exact ⟨⟨1,rfl,⟨hB.out.below hb3⟩,Or.inr ⟨⟨by omega,fun h=>h.2 rfl⟩,Or.inl rfl⟩⟩,by simp [intOf]⟩
    ·have kp:(0:Int)<K2:=by omega
     go_wp2_with (first|(go_at_call 103;with_reducible refine (kind3_c k2 _).mono ?_;rintro e w3 ⟨rfl,hb3⟩;clear c0 c1 c2 c3 f0 f1 f2 f3 z0 z1 z2 z3 y0 y1 y2 y3 hG hbel;obtain ⟨hbel,c0,c1,c2,c3,f0,f1,f2,f3,z0,z1,z2,z3,y0,y1,y2,y3,hG⟩:=hB.out.below hb3;clear hb3))
     exact bodyPost_ret (ret_box4 (by repeat (first | with_reducible exact hG.out | refine Q5 ?_ (by dsimp only;omega) _)) rfl rfl) rfl ⟨by repeat (first | with_reducible exact hbel | refine Below.setCell ?_ (by dsimp only;omega) _),by rw [hR.out,if_pos ⟨h2,hk⟩]⟩
   ·have d2:decide ((p2:Int)≤(n:Int))=false:=decide_eq_false (by omega)
    go_wp2
    exact ⟨⟨1,rfl,hB,Or.inr ⟨⟨by omega,fun h=>h2 h.1⟩,Or.inl rfl⟩⟩,by simp [intOf]⟩
  ·have hne:¬ (p2≤n∧K2≠0):=by
    rcases hj with h | ⟨h,_⟩
    ·omega
    ·exact h.2
   have hne:=A0.mk hne
   clear hj
   have d1:decide ((p1:Int)≤(n:Int))=true:=decide_eq_true (by omega)
   have i1:(p1:Int)≤(n:Int):=by omega
   have cv1':=cv1 wr hbel
   by_cases hk:K1=0
   ·subst hk
    go_wp2_with (first|(go_at_call 103;with_reducible refine (kind3_c k1 _).mono ?_;rintro e w3 ⟨rfl,hb3⟩))
    exact ⟨⟨0,rfl,⟨hB.out.below hb3⟩,Or.inr ⟨⟨by omega,hne.out⟩,Or.inr (by trivial)⟩⟩,by simp [intOf]⟩
   ·have kp:(0:Int)<K1:=by omega
    go_wp2_with (first|(go_at_call 103;with_reducible refine (kind3_c k1 _).mono ?_;rintro e w3 ⟨rfl,hb3⟩;clear c0 c1 c2 c3 f0 f1 f2 f3 z0 z1 z2 z3 y0 y1 y2 y3 hG hbel;obtain ⟨hbel,c0,c1,c2,c3,f0,f1,f2,f3,z0,z1,z2,z3,y0,y1,y2,y3,hG⟩:=hB.out.below hb3;clear hb3))
    exact bodyPost_ret (ret_box4 (by repeat (first | with_reducible exact hG.out | refine Q5 ?_ (by dsimp only;omega) _)) rfl rfl) rfl ⟨by repeat (first | with_reducible exact hbel | refine Below.setCell ?_ (by dsimp only;omega) _),by rw [hR.out,if_neg hne.out,if_pos hk]⟩
  ·have hne:(¬ (p2≤n∧K2≠0))∧K1=0:=by
    rcases hj with h | ⟨h,h3⟩
    ·omega
    ·exact ⟨h.2,h3.resolve_left (by omega)⟩
   have hne:=A0.mk hne
   clear hj
   go_wp2
   exact bodyPost_ret (ret_box4 (by repeat (first | with_reducible exact hG.out | refine Q5 ?_ (by dsimp only;omega) _)) rfl rfl) rfl ⟨by repeat (first | with_reducible exact hbel | refine Below.setCell ?_ (by dsimp only;omega) _),by rw [hR.out,if_neg hne.out.1,if_neg (fun h=>h hne.out.2)]⟩
end Go.Proofs.YtgaoapnaplgaiaaGreatDoor.Sc
namespace Go.Proofs.YtgaoapnaplgaiaaGreatDoor.Sc
set_option maxRecDepth 100000
open Go.RowKit Tk Go.Proofs.YtgaoapnaplgaiaaGreatDoor.Wd
def OneIs (p:Nat):Except Int (Int × Nat × Int)→Ending→Prop
 | .ok (k,m,v),e=>e=.returned (.tuple #[.agg #[.int .i64 k,.int .i64 p,.int .i64 ((p+m:Nat):Int),.int .i64 v],.int .i64 0])
 | .error er,e=>∃a b c d:Int,e=.returned (.tuple #[.agg #[.int .i64 a,.int .i64 b,.int .i64 c,.int .i64 d],.int .i64 er])
theorem rone_call {A:Option Addr} {n cap:Nat} {xs:List Int} (w:World) (hn:n≤65536) (hcap:n≤cap) (hx:xs.length=n) (p:Nat) (hp:p<n) (hL:Lies w A n xs) :
  Calls Tryz.prog 63 #[.slice A n cap,.int .i64 p] w fun e w'=>Below w.heap.size w w'∧OneIs p (one KB (xs.drop p)) e:=by
 have hd:xs.drop p=xs.getD p 0 :: xs.drop (p+1):=drop_nth (by omega)
 by_cases h1:iL (xs.getD p 0)=true
 ·have ho:one KB (xs.drop p)=if KB ((xs.drop p).take (rL isWord (xs.drop p)))=0 then (if 32<rL isWord (xs.drop p) then .error 33 else .ok (1,rL isWord (xs.drop p),0)) else .ok (KB ((xs.drop p).take (rL isWord (xs.drop p))),rL isWord (xs.drop p),0):=by
   conv=>lhs;rw [hd]
   unfold one
   simp only
   rw [if_pos h1,←hd]
  have hle:=runLen_le isWord (xs.drop p)
  rw [List.length_drop] at hle
  refine (ref_letter w hn hcap hx p hp hL h1 (rL isWord (xs.drop p)) rfl (by omega) _ rfl _ ⟨rfl⟩).mono ?_
  rintro e w' ⟨hb,rfl⟩
  refine ⟨hb,?_⟩
  rw [ho]
  generalize rL isWord (xs.drop p)=m
  by_cases h0:KB ((xs.drop p).take m)=0
  ·rw [if_pos h0,if_pos h0]
   by_cases h32:32<m
   ·rw [if_pos h32,if_pos h32];exact ⟨_,_,_,_,rfl⟩
   ·rw [if_neg h32,if_neg h32];exact rfl
  ·rw [if_neg h0,if_neg h0];exact rfl
 by_cases h2:iD (xs.getD p 0)=true
 ·have ho:one KB (xs.drop p)=if 2147483648<numOf ((xs.drop p).take (rL iD (xs.drop p)))∨(xs.getD p 0=48∧1<rL iD (xs.drop p)) then .error 34 else .ok (2,rL iD (xs.drop p),numOf ((xs.drop p).take (rL iD (xs.drop p)))):=by
   conv=>lhs;rw [hd]
   unfold one
   simp only
   rw [if_neg h1,if_pos h2,←hd]
  have hle:=runLen_le iD (xs.drop p)
  rw [List.length_drop] at hle
  have h1':1≤rL iD (xs.drop p):=by rw [hd,runLen_cons,if_pos h2];omega
  refine (ref_digit w hn hcap hx p hp hL (Bool.eq_false_iff.mpr h1) h2 (rL iD (xs.drop p)) rfl (by omega) h1' _ rfl _ ⟨rfl⟩).mono ?_
  rintro e w' ⟨hb,rfl⟩
  refine ⟨hb,?_⟩
  rw [ho]
  have hnum:=num_eq (l:=(xs.drop p).take (rL iD (xs.drop p))) (runLen_all iD (xs.drop p))
  have hR:numF 0 ((xs.drop p).take (rL iD (xs.drop p)))=numR ((xs.drop p).take (rL iD (xs.drop p))):=rfl
  rw [hR]
  generalize numR ((xs.drop p).take (rL iD (xs.drop p)))=R at hnum
  generalize numOf ((xs.drop p).take (rL iD (xs.drop p)))=V at hnum
  generalize rL iD (xs.drop p)=m
  by_cases hc:2147483648<V∨(xs.getD p 0=48∧1<m)
  ·rw [if_pos hc,if_pos (show 2147483648<R∨(xs.getD p 0=48∧1<m) by omega)]
   exact ⟨_,_,_,_,rfl⟩
  ·rw [if_neg hc,if_neg (show ¬ (2147483648<R∨(xs.getD p 0=48∧1<m)) by omega),show R=V by omega]
   exact rfl
 have ho:one KB (xs.drop p)=if 2≤(xs.drop p).length∧KB ((xs.drop p).take 2)≠0 then .ok (KB ((xs.drop p).take 2),2,0) else if KB ((xs.drop p).take 1)≠0 then .ok (KB ((xs.drop p).take 1),1,0) else .error 31:=by
  conv=>lhs;rw [hd]
  unfold one
  simp only
  rw [if_neg h1,if_neg h2,←hd]
 have p2:=KB_range ((xs.drop p).take 2)
 have p1:=KB_range ((xs.drop p).take 1)
 refine (ref_other w hn hcap hx p hp hL (Bool.eq_false_iff.mpr h1) (Bool.eq_false_iff.mpr h2) _ _ rfl rfl p2.1 p1.1 _ ⟨rfl⟩).mono ?_
 rintro e w' ⟨hb,rfl⟩
 refine ⟨hb,?_⟩
 rw [ho,List.length_drop,hx]
 by_cases a:p+2≤n∧KB ((xs.drop p).take 2)≠0
 ·rw [if_pos (show 2≤n - p∧KB ((xs.drop p).take 2)≠0 from ⟨by omega,a.2⟩),if_pos a];exact rfl
 ·rw [if_neg (show ¬ (2≤n - p∧KB ((xs.drop p).take 2)≠0) from fun h=>a ⟨by omega,h.2⟩),if_neg a]
  by_cases b:KB ((xs.drop p).take 1)≠0
  ·rw [if_pos b,if_pos b];exact rfl
  ·rw [if_neg b,if_neg b];exact ⟨_,_,_,_,rfl⟩
theorem comS_cm {l:List Int} {p:Nat} (hp:p<l.length):comS l p=match cmAt (l.drop p) with | .no=>(p:Int) | .long m=>((p+m:Nat):Int) | .opens=>-1:=by
 unfold comS
 by_cases h1:p+1<l.length
 ·rw [drop_nth hp,drop_nth h1,cmAt_two]
  by_cases h2:l.getD p 0=47∧l.getD (p+1) 0=47
  ·rw [if_pos ⟨h1,h2⟩,if_pos h2]
   simp only
   rw [runLen_cons,runLen_cons,h2.1,h2.2]
   simp
   omega
  ·rw [if_neg (fun h=>h2 h.2),if_neg h2]
   by_cases h3:l.getD p 0=47∧l.getD (p+1) 0=42
   ·rw [if_pos ⟨h1,h3⟩,if_pos h3]
    unfold blkEnd
    cases closeAt (l.drop (p+2)) with
    | none=>rfl
    | some m=>simp only;congr 1;omega
   ·rw [if_neg (fun h=>h3 h.2),if_neg h3]
 ·rw [if_neg (fun h=>h1 h.1),if_neg (fun h=>h1 h.1),drop_nth hp,List.drop_eq_nil_of_le (by omega)]
  rfl
theorem own_belowR {w w1:World} {b n s:Nat} {e:TypeId} {v:Value} {xs:List Value} (h:w.ownsRow b e s v n xs) (hb:Below w.heap.size w w1):w1.ownsRow b e s v n xs:=oF h ⟨hb.size,fun k _ hl=>hb.block k hl⟩
theorem grown_ownR {w w1:World} {base n s:Nat} {e:TypeId} {v:Value} {xs:List Value} (hg:w.grownBy w1 v.ownBlock) (h:w.ownsRow base e s v n xs) (hb:base≤w.heap.size):Below base w w1 :=
 ⟨hg.os,hg.tape,hg.output,hg.size,fun k hk=>hg.block k (by omega) (fun e=>by have:=(h.lt k e.symm).1;omega)⟩
theorem ref_errs {K:List Int→Int} {l:List Int} {e:Int} (h:one K l=.error e):e=31∨e=33∨e=34:=one_errs h
set_option maxHeartbeats 16000000 in
theorem rscan_call (A:Option Addr) (n cap:Nat) (xs:List Int) (w:World) (hcap:n≤cap) (hx:xs.length=n) (hL:Lies w A n xs) :
  Calls Tryz.prog 30 #[.slice A n cap] w (RScan n xs w):=by
 obtain ⟨Q,hQ⟩:∃Q,A0 (RScan n xs w=Q):=⟨_,⟨rfl⟩⟩
 rw [hQ.out]
 by_cases hn:n≤65536
 case neg =>
  have hgt:65536<n:=by omega
  have hgi:(65536:Int)< (n:Int):=by omega
  have hgj:¬ (n:Int)≤65536:=by omega
  go_enter Tryz.func30,Tryz.ntmps30
  go_wp2
  go_ret3
  rw [←hQ.out]
  exact .bad _ _ (Below.refl _ _) (.long hgt) (by omega)
 have hng:¬ (65536:Int)< (n:Int):=by omega
 have hni:(n:Int)≤65536:=by omega
 obtain ⟨Z,hZ⟩:∃Z,A0 (scan KB xs 0 []=Z):=⟨_,⟨rfl⟩⟩
 have hA:A0 (scanF KB n (xs.drop 0) 0 []=Z):=⟨by rw [←hZ.out,←hx];rfl⟩
 replace hL:=A0.mk hL
 replace hx:=A0.mk hx
 have hinfo:A0 ((Tryz.prog.info? 44).map (fun i=>(i.zero,i.size,i.bytes))=some (some (.agg #[.int .i64 0,.int .i64 0,.int .i64 0,.int .i64 0]),4,32)):=⟨by kernel_rfl⟩
 have hO:A0 (w.ownsRow w.heap.size 44 4 (.slice none 0 0) ([]:List Tok).length (cellsOf [])):=⟨World.ownsRow_nil _ _ _ _⟩
 go_enter Tryz.func30,Tryz.ntmps30
 go_wp2
 go_loopg [5,6,7,8,9] n (fun f v5 v6 v7 v8 v9 X=>∃(p:Nat) (acc:List Tok),v6=.int .i64 (p:Int)∧p≤n∧n≤f+p∧A0 (scanF KB f (xs.drop p) p acc=Z)∧A0 (acc.length≤16384)∧A0 (X.ownsRow w.heap.size 44 4 v5 acc.length (cellsOf acc))∧A0 (Below w.heap.size w X))
 case atStart=>exact ⟨0,[],rfl,Nat.zero_le _,by omega,hA,⟨by simp⟩,hO,⟨Below.refl _ _⟩⟩
 case round =>
  obtain ⟨p,acc,rfl,hp,hf,hs,hal,hR,hB⟩:=hrel
  clear hA hO
  have p0:(0:Int)≤(p:Int):=by omega
  by_cases hpn:p<n
  ·have p1:(p:Int)< (n:Int):=by omega
   obtain ⟨f,rfl⟩:∃f,gk=f+1:=⟨gk - 1,by omega⟩
   have hLr:=hL.out.below hB.out
   obtain ⟨a,rfl,a0⟩:=hLr p hpn
   have hs1:=hs.out
   rw [drop_nth (by rw [hx.out];exact hpn),scanF,←drop_nth (by rw [hx.out];exact hpn)] at hs1
   have CM:=fun X (hX:Below wr.heap.size wr X)=>rcomment_call (cap:=cap) hx.out hn X (hLr.below hX) p hpn
   have ON:=fun X (hX:Below wr.heap.size wr X)=>rone_call X hn hcap hx.out p hpn (hLr.below hX)
   rw [comS_cm (by rw [hx.out];exact hpn)] at CM
   have BC:=fun X=>rblank_call (xs.getD p 0) X
   obtain ⟨z,hz⟩:∃z,A0 (xs.getD p 0=z):=⟨_,⟨rfl⟩⟩
   rw [hz.out] at a0 hs1 BC
   have wp1:IntKind.i64.wrap ((p:Int)+1)=(p:Int)+1:=IntWalk.i64_in _ (by omega)
   have hbz:=hB.out.size
   replace hs1:=A0.mk hs1
   replace hLr:=A0.mk hLr
   clear hs
   cases hbl:isBlank z with
   | true =>
    rw [hbl] at BC
    have hs2:A0 (scanF KB f (xs.drop (p+1)) (p+1) acc=Z):=⟨by have:=hs1.out;rwa [if_pos hbl] at this⟩
    clear hs1 CM ON hbl
    go_wp2_with (first|(go_at_call 61;(with_reducible refine (BC _).mono ?_);rintro e w2 ⟨rfl,rfl⟩))
    go_roundg f
    case rel=>exact ⟨p+1,acc,rfl,by omega,by omega,hs2,hal,hR,hB⟩
    case measure=>omega
   | false =>
    rw [hbl] at BC
    have hs2:=hs1.out
    rw [if_neg (by rw [hbl];simp)] at hs2
    clear hs1 hbl
    cases hcm:cmAt (xs.drop p) with
    | opens =>
     rw [hcm] at CM hs2
     simp only at CM hs2
     have hs3:=A0.mk hs2
     clear hs2 hcm ON
     go_wp2_with (first|(go_at_call 61;(with_reducible refine (BC _).mono ?_);rintro e w2 ⟨rfl,rfl⟩)|(go_at_call 62;(with_reducible refine (CM _ (Below.refl _ _)).mono ?_);rintro e w3 ⟨rfl,rfl⟩))
     go_ret3
     rw [←hQ.out]
     exact .bad _ _ hB.out (.scan hn (by rw [hZ.out,←hs3.out])) (by omega)
    | long m =>
     obtain ⟨m2,ml⟩:=cmAt_long hcm
     rw [List.length_drop,hx.out] at ml
     rw [hcm] at CM hs2
     simp only at CM hs2
     rw [List.drop_drop] at hs2
     obtain ⟨pm,hpm⟩:∃pm,p+m=pm:=⟨_,rfl⟩
     rw [hpm] at CM hs2
     have d1:(p:Int)< (pm:Int):=by omega
     have d2:¬ (pm:Int)<0:=by omega
     have d3:p<pm:=by omega
     have hf2:n≤f+pm:=by omega
     have hp2:pm≤n:=by omega
     have hs3:=A0.mk hs2
     clear hs2 hcm ON hpm m2 ml
     go_wp2_with (first|(go_at_call 61;(with_reducible refine (BC _).mono ?_);rintro e w2 ⟨rfl,rfl⟩)|(go_at_call 62;(with_reducible refine (CM _ (Below.refl _ _)).mono ?_);rintro e w3 ⟨rfl,rfl⟩))
     go_roundg f
     case rel=>exact ⟨pm,acc,rfl,hp2,hf2,hs3,hal,hR,hB⟩
     case measure=>omega
    | no =>
     rw [hcm] at CM hs2
     simp only at CM hs2
     replace hs2:=A0.mk hs2
     have d2:¬ (p:Int)<0:=by omega
     clear hcm
     obtain ⟨B5,tc5,rfl,-,-,-⟩:=own_toks hR.out
     cases ho:one KB (xs.drop p) with
     | error er =>
      have hone:=ref_errs ho
      have hs3:=hs2.out
      rw [ho] at ON hs3
      simp only at hs3
      unfold OneIs at ON
      clear hs2 ho
      by_cases h31:er=31
      ·subst h31
       rw [if_pos rfl] at hs3
       replace hs3:=A0.mk hs3
       go_wp2_with (first|(go_at_call 61;(with_reducible refine (BC _).mono ?_);rintro e w2 ⟨rfl,rfl⟩)|(go_at_call 62;(with_reducible refine (CM _ (Below.refl _ _)).mono ?_);rintro e w3 ⟨rfl,rfl⟩)|(go_at_call 63;(with_reducible refine (ON _ (Below.refl _ _)).mono ?_);rintro e w4 ⟨hb4,t1,t2,t3,t4,rfl⟩))
       go_ret3
       rw [←hQ.out]
       exact .bad _ _ (hB.out.trans ((hb4.alloc hb4.size _).mono (by omega))) (.scan hn (by rw [hZ.out,←hs3.out])) (by omega)
      ·rw [if_neg h31] at hs3
       by_cases hfu:acc.length=16384
       ·have hfi:(acc.length:Int)=16384:=by omega
        rw [if_pos hfu] at hs3
        replace hs3:=A0.mk hs3
        have e31:(er==31)=false:=beq_eq_false_iff_ne.mpr h31
        go_wp2_with (first|(go_at_call 61;(with_reducible refine (BC _).mono ?_);rintro e w2 ⟨rfl,rfl⟩)|(go_at_call 62;(with_reducible refine (CM _ (Below.refl _ _)).mono ?_);rintro e w3 ⟨rfl,rfl⟩)|(go_at_call 63;(with_reducible refine (ON _ (Below.refl _ _)).mono ?_);rintro e w4 ⟨hb4,t1,t2,t3,t4,rfl⟩))
        go_ret3
        rw [←hQ.out]
        exact .bad _ _ (hB.out.trans ((hb4.alloc hb4.size _).mono (by omega))) (.scan hn (by rw [hZ.out,←hs3.out])) (by omega)
       ·have hfi:¬ (acc.length:Int)=16384:=by omega
        rw [if_neg hfu] at hs3
        replace hs3:=A0.mk hs3
        rcases hone with h | rfl | rfl
        ·exact absurd h h31
        all_goals (
         go_wp2_with (first|(go_at_call 61;(with_reducible refine (BC _).mono ?_);rintro e w2 ⟨rfl,rfl⟩)|(go_at_call 62;(with_reducible refine (CM _ (Below.refl _ _)).mono ?_);rintro e w3 ⟨rfl,rfl⟩)|(go_at_call 63;(with_reducible refine (ON _ (Below.refl _ _)).mono ?_);rintro e w4 ⟨hb4,t1,t2,t3,t4,rfl⟩))
         go_ret3
         rw [←hQ.out]
         exact .bad _ _ (hB.out.trans ((hb4.alloc hb4.size _).mono (by omega))) (.scan hn (by rw [hZ.out,←hs3.out])) (by omega))
     | ok r =>
      obtain ⟨k,m,v⟩:=r
      obtain ⟨m1,m2⟩:=one_len ho
      rw [List.length_drop,hx.out] at m2
      have hs3:=hs2.out
      rw [ho] at ON hs3
      simp only at hs3
      simp only [OneIs] at ON
      clear hs2 ho
      rw [List.drop_drop] at hs3
      obtain ⟨pm,hpm⟩:∃pm,p+m=pm:=⟨_,rfl⟩
      rw [hpm] at ON hs3
      have hf2:n≤f+pm:=by omega
      have hp2:pm≤n:=by omega
      clear hpm m1 m2
      by_cases hfu:acc.length=16384
      ·have hfi:(acc.length:Int)=16384:=by omega
       rw [if_pos hfu] at hs3
       replace hs3:=A0.mk hs3
       go_wp2_with (first|(go_at_call 61;(with_reducible refine (BC _).mono ?_);rintro e w2 ⟨rfl,rfl⟩)|(go_at_call 62;(with_reducible refine (CM _ (Below.refl _ _)).mono ?_);rintro e w3 ⟨rfl,rfl⟩)|(go_at_call 63;(with_reducible refine (ON _ (Below.refl _ _)).mono ?_);rintro e w4 ⟨hb4,rfl⟩))
       go_ret3
       rw [←hQ.out]
       exact .bad _ _ (hB.out.trans ((hb4.alloc hb4.size _).mono (by omega))) (.scan hn (by rw [hZ.out,←hs3.out])) (by omega)
      ·have hfi:¬ (acc.length:Int)=16384:=by omega
       rw [if_neg hfu] at hs3
       replace hs3:=A0.mk hs3
       have hal2:=A0.mk (show acc.length+1≤16384 by have:=hal.out;omega)
       obtain ⟨i0,hi,hz0,hz1,hz2⟩:=info_parts hinfo.out
       have hRb:=A0.mk (fun X (hX:Below wr.heap.size wr X)=>own_belowR hR.out hX)
       have hBb:=A0.mk (fun X (hX:Below wr.heap.size wr X)=>hB.out.trans (hX.mono hbz))
       have hbz2:=A0.mk hbz
       go_wp2_with (first|(go_at_call 61;(with_reducible refine (BC _).mono ?_);rintro e w2 ⟨rfl,rfl⟩)|(go_at_call 62;(with_reducible refine (CM _ (Below.refl _ _)).mono ?_);rintro e w3 ⟨rfl,rfl⟩)|(go_at_call 63;(with_reducible refine (ON _ (Below.refl _ _)).mono ?_);rintro e w4 ⟨hb4,rfl⟩;have hb6:=A0.mk (fun o o2=>((hb4.alloc hb4.size o).alloc (Nat.le_trans hb4.size (by simp)) o2)))|(at_builtin;refine wpList_append_own _ rfl (.tmp 51) (.tmp 53) 39 rfl w.heap.size 44 i0 (.agg #[.int .i64 0,.int .i64 0,.int .i64 0,.int .i64 0]) 4 32 Tryz.underlying39 hi hz0 hz1 hz2 rfl (by decide) _ acc.length _ rfl (hRb.out _ (hb6.out _ _)) ⟨_,0,none⟩ 1 1 [.int .i64 k,.int .i64 p,.int .i64 pm,.int .i64 v] rfl rfl (fun j u hu=>by have h9:=oA (w:=w4.alloc (.cells #[.int .i64 k,.int .i64 p,.int .i64 pm,.int .i64 v] 44)) #[.int .i64 k,.int .i64 p,.int .i64 pm,.int .i64 v] 44 [.int .i64 k,.int .i64 p,.int .i64 pm,.int .i64 v] rfl j u hu;rwa [show (w4.alloc (.cells #[.int .i64 k,.int .i64 p,.int .i64 pm,.int .i64 v] 44)).heap.size=w4.heap.size+1 by simp] at h9) (by intro u hu;simp at hu;rcases hu with rfl | rfl | rfl | rfl <;> rfl) (by have:=hal2.out;unfold maxLen;omega) (by have:=hal2.out;omega) (Nat.le_trans hbz2.out (hb6.out _ _).size) ?_;intro v5 w6 hown hg hif;clear hif;have e8:w6.cell? ⟨w4.heap.size,2,none⟩=some (.int .i64 pm):=bC ((hg.block w4.heap.size (by simp;omega) (fun e=>by have:=((hRb.out _ (Below.refl _ _)).lt _ e.symm).2;have:=hb4.size;omega)).trans ((_root_.Go.heap_alloc_old _ _ (bL (bN w4 _))).trans (bN w4 (.cells #[.int .i64 k,.int .i64 p,.int .i64 pm,.int .i64 v] 44)))) 2))
       go_roundg f
       case rel=>exact ⟨pm,acc++[(k,(p:Int),(pm:Int),v)],rfl,hp2,hf2,hs3,⟨by rw [List.length_append];exact hal2.out⟩,⟨by rw [cellsOf_append,List.length_append];exact hown⟩,⟨(hBb.out _ (hb6.out _ _)).trans (grown_ownR hg (hRb.out _ (hb6.out _ _)) (Nat.le_trans hbz2.out (hb6.out _ _).size))⟩⟩
       case measure=>omega
  ·obtain rfl:p=n:=by omega
   have hpp:¬ p<p:=Nat.lt_irrefl _
   have hZv:A0 (Z=.toks acc):=⟨by rw [←hs.out,List.drop_eq_nil_of_le (by rw [hx.out];exact Nat.le_refl _)];cases gk <;> rfl⟩
   clear hs
   go_wp2
   go_ret3
   rw [←hQ.out]
   exact .toks acc _ hB.out hn (by rw [hZ.out,hZv.out]) hR.out
def noTre:Tre:=⟨[],[],[],[]⟩
theorem program_same {c c':Ctx} (hn:c'.n=c.n) (hx:c'.xs=c.xs) (hL:c'.L=c.L):pS c' 0 0=pS c 0 0:=by
 obtain ⟨g,A,n,cap,xs,B,tc,L⟩:=c
 obtain ⟨g',A',n',cap',xs',B',tc',L'⟩:=c'
 simp only at hn hx hL
 subst hn
 subst hx
 subst hL
 kernel_rfl
theorem parsed_one {n:Nat} {xs:List Int} {o o':Option Tre} {p p' er er':Int} (h:Parsed n xs o p er) (h':Parsed n xs o' p' er'):o'=o∧p'=p∧er'=er:=by
 cases h with
 | long h1=>cases h' with
  | long _=>exact ⟨rfl,rfl,rfl⟩
  | scan h2 _=>omega
  | bad h2 _ _ _ _=>omega
  | ok h2 _ _ _ _=>omega
 | scan h1 h2=>cases h' with
  | long h=>omega
  | scan _ g2=>rw [h2] at g2;cases g2;exact ⟨rfl,rfl,rfl⟩
  | bad _ _ _ g2 _=>rw [h2] at g2;cases g2
  | ok _ _ _ g2 _=>rw [h2] at g2;cases g2
 | bad h1 hn hx h2 h3=>cases h' with
  | long h=>omega
  | scan _ g2=>rw [h2] at g2;cases g2
  | bad _ gn gx g2 g3 =>
   rw [h2] at g2
   injection g2 with g2
   rw [program_same (gn.trans hn.symm) (gx.trans hx.symm) g2.symm,h3] at g3
   cases g3;exact ⟨rfl,rfl,rfl⟩
  | ok _ gn gx g2 g3 =>
   rw [h2] at g2
   injection g2 with g2
   rw [program_same (gn.trans hn.symm) (gx.trans hx.symm) g2.symm,h3] at g3
   cases g3
 | ok h1 hn hx h2 h3=>cases h' with
  | long h=>omega
  | scan _ g2=>rw [h2] at g2;cases g2
  | bad _ gn gx g2 g3 =>
   rw [h2] at g2
   injection g2 with g2
   rw [program_same (gn.trans hn.symm) (gx.trans hx.symm) g2.symm,h3] at g3
   cases g3
  | ok _ gn gx g2 g3 =>
   rw [h2] at g2
   injection g2 with g2
   rw [program_same (gn.trans hn.symm) (gx.trans hx.symm) g2.symm,h3] at g3
   cases g3;exact ⟨rfl,rfl,rfl⟩
theorem few2_of {c:Ctx} {t:Tre} {a':Nat} {d d':Int} (h:pS c 0 d=.ok t a' d') (hL:c.L.length≤16384):Few2 t:=by
 have hP:Pair (fun _=>c) 0:=⟨fun _ _=>rfl,fun _ _=>rfl,fun _ _=>rfl,Nat.zero_le _⟩
 have hs:=simProgram hP false d
 unfold Sim at hs
 rw [h] at hs
 dsimp only at hs
 have hlen:=hs.2.2.1
 unfold pS at h
 obtain ⟨ds,a1,d1,h1,h⟩:=bO h
 obtain ⟨pr,a2,d2,h2,h⟩:=bO h
 obtain ⟨_,a3,d3,h3,h⟩:=bO h
 obtain ⟨i,a4,d4,h4,h⟩:=bO h
 obtain ⟨_,a5,d5,h5,h⟩:=bO h
 obtain ⟨l,a6,d6,h6,h⟩:=bO h
 have q1:=declsLoop_sz _ _ _ _ _ _ _ (Nat.zero_le _) h1
 obtain ⟨r0,r1,r2⟩:=procsLoop_sz _ _ _ _ _ _ _ h2
 have:=want_sz (by omega) h3
 have:=blkS_sz _ _ _ _ _ h4
 have:=want_sz (by omega) h5
 have:=blkS_sz _ _ _ _ _ h6
 simp only [List.length_nil] at q1 r1
 split at h
 ·cases h
  refine ⟨?_,?_,fun x hx=>?_,?_,?_⟩
  ·dsimp only;omega
  ·dsimp only;omega
  ·rcases r2 x hx with h | h
   ·cases h
   ·omega
  ·dsimp only;omega
  ·dsimp only;omega
 ·cases h
theorem parsed_few2 {n:Nat} {xs:List Int} {t:Tre} {p er:Int} (h:Parsed n xs (some t) p er):Few2 t:=by
 cases h with
 | ok h1 hn hx h2 h3=>exact few2_of h3 (scan_fine h2).1
theorem noTre_few2:Few2 noTre:=⟨by decide,by decide,(fun x h=>by cases h),by decide,by decide⟩
def OptT (lo:Nat) (W:World) (o:Option Tre) (A1:Option Addr) (c1:Nat) (A2:Option Addr) (c2:Nat) (A3:Option Addr) (c3:Nat) (A4:Option Addr) (c4:Nat):Prop :=
 RepT (fun b=>lo≤b) W (o.getD noTre) A1 (o.getD noTre).decls.length c1 A2 (o.getD noTre).procs.length c2 A3 (o.getD noTre).init.length c3 A4 (o.getD noTre).loop.length c4
theorem OptT.at {lo:Nat} {W:World} {o:Option Tre} {A1:Option Addr} {c1:Nat} {A2:Option Addr} {c2:Nat} {A3:Option Addr} {c3:Nat} {A4:Option Addr} {c4:Nat} (h:OptT lo W o A1 c1 A2 c2 A3 c3 A4 c4):TreAt W (o.getD noTre) A1 c1 A2 c2 A3 c3 A4 c4:=by
 obtain ⟨hh1,hh2,r1,⟨vs,r2,r2'⟩,r3,r4⟩:=h
 obtain ⟨_,s3⟩:=repB_at r3
 obtain ⟨_,s4⟩:=repB_at r4
 exact ⟨⟨_,r1⟩,⟨_,vs,r2,r2'⟩,s3,s4⟩
theorem OptT.far {lo lo':Nat} {X Y:World} {o:Option Tre} {A1:Option Addr} {c1:Nat} {A2:Option Addr} {c2:Nat} {A3:Option Addr} {c3:Nat} {A4:Option Addr} {c4:Nat} (h:OptT lo X o A1 c1 A2 c2 A3 c3 A4 c4) (hf:Far lo X Y) (hl:lo'≤lo):OptT lo' Y o A1 c1 A2 c2 A3 c3 A4 c4:=RepT.far h hf hl
theorem OptT.none {lo:Nat} {W:World}:OptT lo W none none 0 none 0 none 0 none 0 :=
 ⟨⟨rfl,Nat.le_refl _⟩,⟨rfl,Nat.le_refl _⟩,(fun i u hu=>by simp [noTre] at hu),⟨[],(fun i u hu=>by simp at hu),trivial⟩,(Acc.block (lo:=lo) (W:=W) (A:=Option.none) (n:=0) (cap:=0) (l:=[]) (Acc.nil W)),(Acc.block (lo:=lo) (W:=W) (A:=Option.none) (n:=0) (cap:=0) (l:=[]) (Acc.nil W))⟩
theorem OptT.of {lo:Nat} {W:World} {v:Value} {o:Option Tre} (h0:o=Option.none→v=zeroT) (h1:∀x,o=some x→repTree lo W v x) :
  ∃A1 c1 A2 c2 A3 c3 A4 c4,v=.agg #[.slice A1 (o.getD noTre).decls.length c1,.slice A2 (o.getD noTre).procs.length c2,.slice A3 (o.getD noTre).init.length c3,.slice A4 (o.getD noTre).loop.length c4]∧OptT lo W o A1 c1 A2 c2 A3 c3 A4 c4:=by
 cases o with
 | none=>rw [h0 rfl];exact ⟨Option.none,0,Option.none,0,Option.none,0,Option.none,0,rfl,OptT.none⟩
 | some t =>
  obtain ⟨A1,n1,c1,A2,n2,c2,A3,n3,c3,A4,n4,c4,rfl,hT⟩:=h1 t rfl
  have hT':=hT
  obtain ⟨hh1,hh2,r1,r2,r3,r4⟩:=hT'
  obtain ⟨rfl,_⟩:=hh1
  obtain ⟨rfl,_⟩:=hh2
  obtain ⟨rfl,s3⟩:=repB_at r3
  obtain ⟨rfl,s4⟩:=repB_at r4
  exact ⟨A1,c1,A2,c2,A3,c3,A4,c4,rfl,hT⟩
theorem parsed_optFew {n:Nat} {xs:List Int} {o:Option Tre} {p er:Int} (h:Parsed n xs o p er):Few2 (o.getD noTre):=by
 cases o with
 | none=>exact noTre_few2
 | some t=>exact parsed_few2 h
structure ReadP (n:Nat) (xs:List Int) (W:World) (e:Ending) (w:World):Prop where
 hb:Below W.heap.size W w
 ex:∃(o:Option Tre) (p er:Int) (A1:Option Addr) (c1:Nat) (A2:Option Addr) (c2:Nat) (A3:Option Addr) (c3:Nat) (A4:Option Addr) (c4:Nat),Parsed n xs o p er∧OptT W.heap.size w o A1 c1 A2 c2 A3 c3 A4 c4 ∧
  e=.returned (.tuple #[.agg #[.slice A1 (o.getD noTre).decls.length c1,.slice A2 (o.getD noTre).procs.length c2,.slice A3 (o.getD noTre).init.length c3,.slice A4 (o.getD noTre).loop.length c4],.agg #[.int .i64 p,.int .i64 er]])
theorem readp_call (A:Option Addr) (n cap:Nat) (xs:List Int) (W:World) (hE:Env W) (h:Txt A n cap xs W):Calls Tryz.prog 10 #[.slice A n cap] W (ReadP n xs W):=by
 refine (parse_call A n cap xs W h.hcap h.hx h.hB hE.tab hE.ops h.hL h.hA hE.mx).mono ?_
 rintro e w ⟨hb2,o,p,er,v,hP,rfl,h0,h1⟩
 obtain ⟨A1,c1,A2,c2,A3,c3,A4,c4,rfl,hT⟩:=OptT.of h0 h1
 exact ⟨hb2,o,p,er,A1,c1,A2,c2,A3,c3,A4,c4,hP,hT,rfl⟩
structure ReadR (n:Nat) (xs:List Int) (W:World) (e:Ending) (w:World):Prop where
 hb:Below W.heap.size W w
 ex:∃(o:Option Tre) (p er:Int) (A1:Option Addr) (c1:Nat) (A2:Option Addr) (c2:Nat) (A3:Option Addr) (c3:Nat) (A4:Option Addr) (c4:Nat),Parsed n xs o p er∧OptT W.heap.size w o A1 c1 A2 c2 A3 c3 A4 c4 ∧
  e=.returned (.tuple #[.agg #[.slice A1 (o.getD noTre).decls.length c1,.slice A2 (o.getD noTre).procs.length c2,.slice A3 (o.getD noTre).init.length c3,.slice A4 (o.getD noTre).loop.length c4],.int .i64 p,.int .i64 er])
theorem readr_call (A:Option Addr) (n cap:Nat) (xs:List Int) (W:World) (h:Txt A n cap xs W):Calls Tryz.prog 11 #[.slice A n cap] W (ReadR n xs W):=by
 have hb0:Below W.heap.size W (W.alloc (.cells #[.slice Option.none 0 0,.slice Option.none 0 0,.slice Option.none 0 0,.slice Option.none 0 0] 27)):=bA _ _
 refine (rparse_call A n cap xs W h.hcap h.hx h.hL h.hA (rscan_call A n cap xs _ h.hcap h.hx (h.hL.below hb0))).mono ?_
 rintro e w ⟨hb2,o,p,er,v,hP,rfl,h0,h1⟩
 obtain ⟨A1,c1,A2,c2,A3,c3,A4,c4,rfl,hT⟩:=OptT.of h0 h1
 exact ⟨hb2,o,p,er,A1,c1,A2,c2,A3,c3,A4,c4,hP,hT,rfl⟩
end Go.Proofs.YtgaoapnaplgaiaaGreatDoor.Sc
