/- This claim's own texts, joined, with only what the claim uses: ScanJ. -/
import Derived.Test.YtgaoapnaplgaiaaGreatDoorZs28
namespace Go.Proofs.YtgaoapnaplgaiaaGreatDoor.Sc
set_option maxRecDepth 100000
open Go.RowKit Tk
def cellsOf:List Tok→List Value
 | []=>[]
 | t :: l=>.int .i64 t.1 :: .int .i64 t.2.1 :: .int .i64 t.2.2.1 :: .int .i64 t.2.2.2 :: cellsOf l
theorem cellsOf_append (t:Tok):∀l:List Tok,cellsOf (l++[t])=cellsOf l++[.int .i64 t.1,.int .i64 t.2.1,.int .i64 t.2.2.1,.int .i64 t.2.2.2]
 | []=>rfl
 | a :: l=>by show _ :: _ :: _ :: _ :: cellsOf (l++[t])=_;rw [cellsOf_append t l];rfl
def Loop (w:World) (A:Option Addr) (n cap:Nat) (xs:List Int) (p:Nat) (acc:List Tok) (v:Value) (W:World):Prop :=
 At ((w.alloc (.cells #[.int .i64 0,.int .i64 0] 30)).alloc (.cells #[.slice A n cap,.int .i64 0] 81)) (w.heap.size+1) A n cap xs p W∧HasTab W∧W.ownsRow (w.heap.size+2) 44 4 v acc.length (cellsOf acc) ∧
 W.cell? ⟨w.heap.size,0,none⟩=some (.int .i64 0)∧W.cell? ⟨w.heap.size,1,none⟩=some (.int .i64 0)∧W.frozen? ⟨w.heap.size,0,none⟩=false∧W.frozen? ⟨w.heap.size,1,none⟩=false ∧
 p≤n∧acc.length≤16384∧scan KB (xs.drop p) p acc=scan KB xs 0 []
theorem scan_open (K:List Int→Int) {l:List Int} (h:cmAt l=.opens) (p:Nat) (acc:List Tok):scan K l p acc=.bad p 32:=by
 obtain ⟨t,rfl⟩:=slash_open h
 rw [scan_cons,if_neg (by decide),h]
theorem gap_scan {p p':Nat} {xs:List Int} {acc:List Tok} (h1:p≤p') (hG:Gap (xs.drop p) (p' - p)):scan KB (xs.drop p) p acc=scan KB (xs.drop p') p' acc:=by
 have:=hG.scan KB p acc
 rw [List.drop_drop,show p+(p' - p)=p' by omega] at this
 exact this
theorem scan_one (K:List Int→Int) {l:List Int} (h:Stuck l) (hl:l≠[]) (p:Nat) (acc:List Tok):scan K l p acc=match one K l with
  | .error e=>if e=31 then .bad p 31 else if acc.length=16384 then .bad p 35 else .bad p e
  | .ok (k,n,v)=>if acc.length=16384 then .bad p 35 else scan K (l.drop n) (p+n) (acc++[(k,(p:Int),((p+n:Nat):Int),v)]):=by
 cases l with
 | nil=>exact absurd rfl hl
 | cons c t =>
  rw [scan_cons,if_neg (by rw [h.1 c t rfl];simp),h.2]
  rfl
theorem one_err {K:List Int→Int} {l:List Int} {e:Int} (h:one K l=.error e):e=31∨e=33∨e=34:=by
 unfold one at h
 split at h
 ·cases h;simp
 ·split at h
  ·split at h
   ·split at h <;> cases h;simp
   ·cases h
  ·split at h
   ·split at h <;> cases h;simp
   ·split at h
    ·cases h
    ·split at h <;> cases h;simp
theorem own_kept {w w2:World} {B g:Nat} {v:Value} {k:Nat} {cs:List Value} (h:w.ownsRow B 44 4 v k cs) (hg:w.grownBy w2 (some g)) (hB:g<B):w2.ownsRow B 44 4 v k cs:=by
 refine h.kept hg ?_
 rcases h.2 with ⟨rfl,_⟩|⟨g',c',_,rfl,hb,_⟩
 ·exact Or.inl rfl
 ·exact Or.inr (fun e=>by have:g'=g:=Option.some.inj e;omega)
set_option maxRecDepth 100000 in
set_option maxHeartbeats 4000000 in
theorem scan_short (A:Option Addr) (n cap:Nat) (xs:List Int) (w:World) (hn:n≤65536) (hcap:n≤cap) (hx:xs.length=n) (hB:∀c ∈ xs,Byte c) (hT:HasTab w) (hL:Lies w A n xs) (hA:∀a,A=some a→a.block<w.heap.size) (hm:∃m,w.cell? ⟨2,0,none⟩=some (.int .i64 m)) (Spec:Ending→World→Prop)
  (hbad:∀p er W,scan KB xs 0 []=.bad p er→Below w.heap.size w W→Spec (.returned (.tuple #[.slice none 0 0,fault p er])) W)
  (htoks:∀l v W,scan KB xs 0 []=.toks l→Below w.heap.size w W→W.ownsRow (w.heap.size+2) 44 4 v l.length (cellsOf l)→Spec (.returned (.tuple #[v,fault 0 0])) W) :
  Calls Tryz.prog 14 #[.slice A n cap] w Spec:=by
 have hd:decide ((65536:Int)<(n:Int))=false:=decide_eq_false (by omega)
 go_enter Tryz.func14,Tryz.ntmps14
 go_wp2
 go_loopw [5] (fun v W=>∃(p:Nat) (acc:List Tok),Loop w A n cap xs p acc v W) (fun _ W=>n - placeOf (w.heap.size+1) W)
 case atStart =>
  obtain ⟨mx,hmx⟩:=hm
  have hpos:=hT.pos
  refine ⟨0,[],⟨World.grownBy.refl _ _,by go_simp,by go_simp,by go_simp,lies2 hL _ _ 0,mx,cells2 hmx _ _⟩,tab2 hT _ _ 0,⟨rfl,Or.inl ⟨rfl,rfl⟩⟩,by go_simp,by go_simp,by go_simp,by go_simp,Nat.zero_le _,by simp,rfl⟩
 case round =>
  obtain ⟨p,acc,hLoop⟩:=hrel
  have hT0:=hT
  clear hT hL hm
  obtain ⟨ao,cp,rfl⟩:∃ao cp,u5=.slice ao acc.length cp:=by
   rcases hLoop.2.2.1.2 with ⟨rfl,h0⟩|⟨g',c',_,rfl,_⟩
   ·exact ⟨none,0,by rw [h0]⟩
   ·exact ⟨_,_,rfl⟩
  obtain ⟨hAt,hTw,hown,f0,f1,z0,z1,hp,hacc,hsc⟩:=id hLoop
  have hg1:w.heap.size+1≠2:=by have:=hT0.pos;omega
  have hAg:∀a,A=some a→a.block≠w.heap.size+1:=fun a e=>by have:=hA a e;omega
  have SK:=skip_walk wr hn hcap hx hB hg1 hAg p hp ⟨World.grownBy.refl wr _,hAt.2⟩
  have hpl:=hAt.place
  have hsz:w.heap.size+2≤wr.heap.size:=by
   have:=hAt.1.size
   simpa using this
  go_wp2_with (go_at_call 39;fail)
  refine SK.mono ?_
  rintro e w2 ⟨p',h1,h2,hAt2,hG,hres⟩
  have hbg:∀k,some (⟨w.heap.size,k,none⟩:Addr).block≠some (w.heap.size+1):=fun k e=>by have:=Option.some.inj e;simp at this
  have e0:=hAt2.1.cell f0 (hbg 0)
  have e1:=hAt2.1.cell f1 (hbg 1)
  have y0:w2.frozen? ⟨w.heap.size,0,none⟩=false:=(World.frozen?_of_block (hAt2.1.block w.heap.size (by omega) (by simp))).trans z0
  have y1:w2.frozen? ⟨w.heap.size,1,none⟩=false:=(World.frozen?_of_block (hAt2.1.block w.heap.size (by omega) (by simp))).trans z1
  have hown2:=own_kept hown hAt2.1 (by omega)
  have hsc2:=(gap_scan (acc:=acc) h1 hG).symm.trans hsc
  have hgr:((w.alloc (.cells #[.int .i64 0,.int .i64 0] 30)).alloc (.cells #[.slice A n cap,.int .i64 0] 81)).grownBy w2 (some (w.heap.size+1)):=Q4 hAt.1 hAt2.1
  obtain ⟨_,c0,c1,fr1,hL2,_⟩:=id hAt2
  have g0:(0:Int)≤(p':Int):=by omega
  have rr0:∀a b:Int,((w2.setCell ⟨w.heap.size,0,none⟩ (.int .i64 a)).setCell ⟨w.heap.size,1,none⟩ (.int .i64 b)).cell? ⟨w.heap.size,0,none⟩=some (.int .i64 a):=fun a b=>by go_simp
  have rr1:∀a b:Int,((w2.setCell ⟨w.heap.size,0,none⟩ (.int .i64 a)).setCell ⟨w.heap.size,1,none⟩ (.int .i64 b)).cell? ⟨w.heap.size,1,none⟩=some (.int .i64 b):=fun a b=>by go_simp
  have hbl:Below w.heap.size w w2:=(((Below.refl w.heap.size w).alloc (Nat.le_refl _) _).alloc (by simp) _).trans (grown_below hgr (by omega) (by simp;omega))
  have hbs:∀a b:Int,Below w.heap.size w ((w2.setCell ⟨w.heap.size,0,none⟩ (.int .i64 a)).setCell ⟨w.heap.size,1,none⟩ (.int .i64 b)):=fun a b=>(hbl.setCell (Nat.le_refl _) _).setCell (Nat.le_refl _) _
  have hos:∀a b:Int,((w2.setCell ⟨w.heap.size,0,none⟩ (.int .i64 a)).setCell ⟨w.heap.size,1,none⟩ (.int .i64 b)).ownsRow (w.heap.size+2) 44 4 (.slice ao acc.length cp) acc.length (cellsOf acc):=fun a b=>ownsRow_setCell_below (ownsRow_setCell_below hown2 (by dsimp only;omega) _) (by dsimp only;omega) _
  rcases hres with ⟨rfl,hst⟩|⟨rfl,ho⟩
  ·by_cases hend:p'=n
   ·subst hend
    have hs3:scan KB xs 0 []=.toks acc:=by rw [←hsc2,List.drop_eq_nil_of_le (by omega)];rfl
    go_wp2_with fail
    exact bodyPost_ret (v:=.tuple #[.slice ao acc.length cp,fault 0 0]) (by simp [results,Tryz.results14,go_sem,fault,rr0,rr1]) rfl (htoks acc _ _ hs3 (hbs 0 0) (hos 0 0))
   ·have hne:((p':Int)==(n:Int))=false:=beq_eq_false_iff_ne.mpr (by omega)
    have hT2:HasTab w2:=by
     obtain ⟨t,fr,h⟩:=hTw
     exact ⟨t,fr,(hAt2.1.block 3 (by have:=hT0.pos;omega) (fun e=>by have:=Option.some.inj e;have:=hT0.pos;omega)).trans h⟩
    have NX:=next_walk w2 hn hcap hx hT2 p' (by omega) c0 c1 hL2
    have hs3:=scan_one KB hst (by intro e;have:=congrArg List.length e;simp at this;omega) p' acc
    rw [hsc2] at hs3
    cases hone:one KB (xs.drop p') with
    | error er =>
     rw [hone] at NX hs3
     have her:=one_err hone
     go_wp2_with (go_at_call 40;fail)
     refine NX.mono ?_
     rintro e w3 ⟨hb3,k,q,z,v,rfl⟩
     have hX:=fun o=>hb3.alloc hb3.size o
     have x1:=fun o=>((hX o).cell (World.block_lt_of_cell? w2 _ c1)).trans c1
     have x2:=fun o=>((hX o).cell (World.block_lt_of_cell? w2 _ e0)).trans e0
     have x3:=fun o=>((hX o).cell (World.block_lt_of_cell? w2 _ e1)).trans e1
     have x4:=fun o=>((hX o).frozen (p:=⟨w.heap.size,0,none⟩) (World.block_lt_of_cell? w2 _ e0)).trans y0
     have x5:=fun o=>((hX o).frozen (p:=⟨w.heap.size,1,none⟩) (World.block_lt_of_cell? w2 _ e1)).trans y1
     have sr0:∀(o:Obj) (a b:Int),(((w3.alloc o).setCell ⟨w.heap.size,0,none⟩ (.int .i64 a)).setCell ⟨w.heap.size,1,none⟩ (.int .i64 b)).cell? ⟨w.heap.size,0,none⟩=some (.int .i64 a):=fun o a b=>by go_simp
     have sr1:∀(o:Obj) (a b:Int),(((w3.alloc o).setCell ⟨w.heap.size,0,none⟩ (.int .i64 a)).setCell ⟨w.heap.size,1,none⟩ (.int .i64 b)).cell? ⟨w.heap.size,1,none⟩=some (.int .i64 b):=fun o a b=>by go_simp
     have hbs3:∀(o:Obj) (a b:Int),Below w.heap.size w (((w3.alloc o).setCell ⟨w.heap.size,0,none⟩ (.int .i64 a)).setCell ⟨w.heap.size,1,none⟩ (.int .i64 b)):=fun o a b=>((hbl.trans ((hX o).mono hbl.size)).setCell (Nat.le_refl _) _).setCell (Nat.le_refl _) _
     unfold tok4
     by_cases h31:er=31
     ·subst h31
      rw [if_pos rfl] at hs3
      clear her hone NX
      go_wp2_with fail
      go_region
      go_wp2_with fail
      exact bodyPost_ret (v:=.tuple #[.slice none 0 0,fault p' 31]) (by simp [results,Tryz.results14,go_sem,fault,sr0,sr1]) rfl (hbad _ _ _ hs3 (hbs3 _ _ _).drew)
     ·have n31:(er==31)=false:=beq_eq_false_iff_ne.mpr h31
      have n0:(er==0)=false:=beq_eq_false_iff_ne.mpr (by omega)
      rw [if_neg h31] at hs3
      have h0:¬ er=0:=by omega
      clear her hone NX
      by_cases hfull:acc.length=16384
      ·rw [if_pos hfull] at hs3
       have nf:((acc.length:Int)==16384)=true:=beq_iff_eq.mpr (by omega)
       clear hfull
       go_wp2_with fail
       go_region
       go_wp2_with fail
       exact bodyPost_ret (v:=.tuple #[.slice none 0 0,fault p' 35]) (by simp [results,Tryz.results14,go_sem,fault,sr0,sr1]) rfl (hbad _ _ _ hs3 (hbs3 _ _ _).drew)
      ·rw [if_neg hfull] at hs3
       have nf:((acc.length:Int)==16384)=false:=beq_eq_false_iff_ne.mpr (by omega)
       clear hfull
       go_wp2_with fail
       go_region
       go_wp2_with fail
       exact bodyPost_ret (v:=.tuple #[.slice none 0 0,fault p' er]) (by simp [results,Tryz.results14,go_sem,fault,sr0,sr1]) rfl (hbad _ _ _ hs3 (hbs3 _ _ _).drew)
    | ok r =>
     obtain ⟨k,m,v⟩:=r
     rw [hone] at NX hs3
     have hml:=one_len hone
     rw [List.length_drop,hx] at hml
     go_wp2_with (go_at_call 40;fail)
     refine NX.mono ?_
     rintro e w3 ⟨hb3,rfl⟩
     have hX:=fun o=>hb3.alloc hb3.size o
     have x1:=fun o=>((hX o).cell (World.block_lt_of_cell? w2 _ c1)).trans c1
     have x2:=fun o=>((hX o).cell (World.block_lt_of_cell? w2 _ e0)).trans e0
     have x3:=fun o=>((hX o).cell (World.block_lt_of_cell? w2 _ e1)).trans e1
     have x4:=fun o=>((hX o).frozen (p:=⟨w.heap.size,0,none⟩) (World.block_lt_of_cell? w2 _ e0)).trans y0
     have x5:=fun o=>((hX o).frozen (p:=⟨w.heap.size,1,none⟩) (World.block_lt_of_cell? w2 _ e1)).trans y1
     have sr0:∀(o:Obj) (a b:Int),(((w3.alloc o).setCell ⟨w.heap.size,0,none⟩ (.int .i64 a)).setCell ⟨w.heap.size,1,none⟩ (.int .i64 b)).cell? ⟨w.heap.size,0,none⟩=some (.int .i64 a):=fun o a b=>by go_simp
     have sr1:∀(o:Obj) (a b:Int),(((w3.alloc o).setCell ⟨w.heap.size,0,none⟩ (.int .i64 a)).setCell ⟨w.heap.size,1,none⟩ (.int .i64 b)).cell? ⟨w.heap.size,1,none⟩=some (.int .i64 b):=fun o a b=>by go_simp
     have hbs3:∀(o:Obj) (a b:Int),Below w.heap.size w (((w3.alloc o).setCell ⟨w.heap.size,0,none⟩ (.int .i64 a)).setCell ⟨w.heap.size,1,none⟩ (.int .i64 b)):=fun o a b=>((hbl.trans ((hX o).mono hbl.size)).setCell (Nat.le_refl _) _).setCell (Nat.le_refl _) _
     unfold tok4
     have n31:((0:Int)==31)=false:=rfl
     clear hone NX
     by_cases hfull:acc.length=16384
     ·have hs4:scan KB xs 0 []=.bad p' 35:=by rw [hs3];exact if_pos hfull
      have nf:((acc.length:Int)==16384)=true:=beq_iff_eq.mpr (by omega)
      clear hfull hs3
      go_wp2_with fail
      go_region
      go_wp2_with fail
      exact bodyPost_ret (v:=.tuple #[.slice none 0 0,fault p' 35]) (by simp [results,Tryz.results14,go_sem,fault,sr0,sr1]) rfl (hbad _ _ _ hs4 (hbs3 _ _ _).drew)
     ·have hs4:scan KB xs 0 []=scan KB ((xs.drop p').drop m) (p'+m) (acc++[(k,(p':Int),((p'+m:Nat):Int),v)]):=by rw [hs3];exact if_neg hfull
      have nf:((acc.length:Int)==16384)=false:=beq_eq_false_iff_ne.mpr (by omega)
      obtain ⟨pe,hpe⟩:∃pe,p'+m=pe:=⟨_,rfl⟩
      rw [hpe]
      have hinfo:(Tryz.prog.info? 44).map (fun i=>(i.zero,i.size,i.bytes))=some (some (.agg #[.int .i64 0,.int .i64 0,.int .i64 0,.int .i64 0]),4,32):=by kernel_rfl
      obtain ⟨i0,hi,hz0,hz1,hz2⟩:=info_parts hinfo
      have hg23:w2.grownBy w3 none:=⟨hb3.os,hb3.tape,hb3.output,hb3.size,fun k hk _=>hb3.block k hk⟩
      have hown3:=hown2.kept hg23 (by cases (Value.slice ao acc.length cp).ownBlock <;> simp)
      have hown4:=fun o o2=>(hown3.alloc o).alloc o2
      have hs5:w.heap.size+2≤w3.heap.size:=by have:=hAt2.1.size;have:=hb3.size;omega
      go_wp2_with (first|(at_builtin;refine wpList_append_own _ rfl (.tmp 52) (.tmp 54) 39 rfl (w.heap.size+2) 44 i0 (.agg #[.int .i64 0,.int .i64 0,.int .i64 0,.int .i64 0]) 4 32 Tryz.underlying39 hi hz0 hz1 hz2 rfl (by decide) _ _ _ rfl (hown4 _ _) ⟨w3.heap.size+1,0,none⟩ 1 1 [.int .i64 k,.int .i64 p',.int .i64 pe,.int .i64 v] rfl rfl ?c1 ?c2 ?c3 ?c4 ?c5 ?_))
      case c1 =>
       intro j u hu
       match j with
       | 0=>simp at hu;subst hu;unfold Addr.add;go_simp
       | 1=>simp at hu;subst hu;unfold Addr.add;go_simp
       | 2=>simp at hu;subst hu;unfold Addr.add;go_simp
       | 3=>simp at hu;subst hu;unfold Addr.add;go_simp
       | j+4=>simp at hu
      case c2 =>
       intro u hu
       simp at hu
       rcases hu with rfl | rfl | rfl | rfl <;> rfl
      case c3=>unfold maxLen;omega
      case c4=>omega
      case c5=>simp;omega
      intro v1 w5 hown5 hgr5 _
      have hrow:∀i,(i<w.heap.size+2∨w2.heap.size≤i)→some i≠(Value.slice ao acc.length cp).ownBlock:=by
       intro i hi
       rcases hown2.2 with ⟨h,_⟩|⟨g',c',cur,h,hb,hh,_⟩
       ·rw [h];simp [Value.ownBlock]
       ·rw [h]
        intro e
        have e':i=g':=Option.some.inj e
        have:g'<w2.heap.size:=by
         rcases Nat.lt_or_ge g' w2.heap.size with h' | h'
         ·exact h'
         ·rw [Array.getElem?_eq_none h'] at hh;cases hh
        omega
      have hXX:=fun o o2=>(hb3.alloc hb3.size o).alloc (B:=w2.heap.size) (by have:=hb3.size;simp;omega) o2
      have hsz2:w.heap.size+2≤w2.heap.size:=by have:=hAt2.1.size;omega
      have hb25:Below (w.heap.size+2) w2 w5:=⟨hgr5.os.trans (hXX _ _).os,hgr5.tape.trans (hXX _ _).tape,hgr5.output.trans (hXX _ _).output,Nat.le_trans (hXX _ _).size hgr5.size,
       fun i hi=>(hgr5.block i (by have:=hb3.size;simp;omega) (hrow i (Or.inl hi))).trans ((hXX _ _).block i (by omega))⟩
      have d1:w5.cell? ⟨w.heap.size+1,1,none⟩=some (.int .i64 p'):=(hb25.cell (by dsimp only;omega)).trans c1
      have d2:w5.frozen? ⟨w.heap.size+1,1,none⟩=false:=(hb25.frozen (by dsimp only;omega)).trans fr1
      have d3:w5.cell? ⟨w3.heap.size,2,none⟩=some (.int .i64 pe):=by
       rw [World.cell?_of_block (hgr5.block w3.heap.size (by simp;omega) (hrow _ (Or.inr hb3.size)))]
       go_simp
      go_wp2_with fail
      obtain ⟨mx,hmx⟩:=hAt2.2.2.2.2.2
      have hL5:Lies w5 A n xs:=by
       intro i hi
       obtain ⟨a,e,h⟩:=hL2 i hi
       have:=hA a e
       have eb:(a.add i).block=a.block:=by unfold Addr.add;split <;> rfl
       exact ⟨a,e,(hb25.cell (by rw [eb];omega)).trans h⟩
      have hgr5':((w.alloc (.cells #[.int .i64 0,.int .i64 0] 30)).alloc (.cells #[.slice A n cap,.int .i64 0] 81)).grownBy w5 (some (w.heap.size+1)) :=
       ⟨hb25.os.trans hgr.os,hb25.tape.trans hgr.tape,hb25.output.trans hgr.output,Nat.le_trans hgr.size hb25.size,fun i hi hne=>(hb25.block i (by simpa using hi)).trans (hgr.block i hi hne)⟩
      have hAt5:At ((w.alloc (.cells #[.int .i64 0,.int .i64 0] 30)).alloc (.cells #[.slice A n cap,.int .i64 0] 81)) (w.heap.size+1) A n cap xs p' w5 :=
       ⟨hgr5',(hb25.cell (by dsimp only;omega)).trans c0,d1,d2,hL5,mx,(hb25.cell (by dsimp only;have:=hT0.pos;omega)).trans hmx⟩
      have hAt6:=hAt5.put hg1 hAg (pe:Int) pe rfl
      have hs:∀i,i≠w.heap.size+1→i<w.heap.size+2→(w5.setCell ⟨w.heap.size+1,1,none⟩ (.int .i64 (pe:Int))).heap[i]?=w2.heap[i]?:=fun i h1 h2=>(Below.heap_setCell _ _ _ _ h1).trans (hb25.block i h2)
      have hml2:pe≤n∧p'<pe:=by omega
      refine ⟨⟨pe,acc++[(k,(p':Int),(pe:Int),v)],hAt6,?_,?_,?_,?_,?_,?_,hml2.1,by simp;omega,?_⟩,by rw [hAt6.place,hpl];omega⟩
      ·obtain ⟨t,fr,h⟩:=hT2
       exact ⟨t,fr,(hs 3 (by have:=hT0.pos;omega) (by have:=hT0.pos;omega)).trans h⟩
      ·have:=ownsRow_setCell_below hown5 (a:=⟨w.heap.size+1,1,none⟩) (by dsimp only;omega) (.int .i64 (pe:Int))
       rw [cellsOf_append,List.length_append]
       exact this
      ·exact (World.cell?_of_block (hs w.heap.size (by omega) (by omega))).trans e0
      ·exact (World.cell?_of_block (hs w.heap.size (by omega) (by omega))).trans e1
      ·exact (World.frozen?_of_block (hs w.heap.size (by omega) (by omega))).trans y0
      ·exact (World.frozen?_of_block (hs w.heap.size (by omega) (by omega))).trans y1
      ·rw [hs4,List.drop_drop,hpe]
  ·have hs3:scan KB xs 0 []=.bad p' 32:=by rw [←hsc2];exact scan_open KB ho _ _
   go_wp2_with fail
   go_region
   go_wp2_with fail
   exact bodyPost_ret (v:=.tuple #[.slice none 0 0,fault p' 32]) (by simp [results,Tryz.results14,go_sem,fault,rr0,rr1]) rfl (hbad _ _ _ hs3 (hbs _ _).drew)
end Go.Proofs.YtgaoapnaplgaiaaGreatDoor.Sc
