/- This claim's own texts, joined, with only what the claim uses: SizA, SizB. -/
import Derived.Test.YtgaoapnaplgaiaaGreatDoorZs35
import Derived.Test.YtgaoapnaplgaiaaGreatDoorZs24
namespace Go.Proofs.YtgaoapnaplgaiaaGreatDoor.Sc
def Szd {α:Type} (S:Rd α) (sz:α→Nat) (e:Nat):Prop:=∀a d x a' d',S a d=.ok x a' d'→sz x+e+a≤a'
theorem want_sz {c:Ctx} {k:Int} (hk:1≤k) {a a':Nat} {d d':Int} {t:Tok} (h:wS c k a d=.ok t a' d'):a'=a+1:=(want_ok hk h).2.1
theorem take_sz {c:Ctx} {k:Int} (hk:1≤k) {a a':Nat} {d d':Int} {b:Bool} (h:takeS c k a d=.ok b a' d'):a'=a+b.toNat:=by
 unfold takeS at h
 split at h
 ·obtain ⟨x,a1,d1,h1,h2⟩:=bO h
  cases h2
  exact want_sz hk h1
 ·cases h;rfl
theorem name_sz {c:Ctx} {a a':Nat} {d d':Int} {s:ByteArray} (h:nS c a d=.ok s a' d'):a'=a+1:=by
 unfold nS at h
 obtain ⟨x,a1,d1,h1,h2⟩:=bO h
 cases h2
 exact want_sz (by omega) h1
theorem exSzs_app:∀(l r:List Ex),exSzs (l++r)=exSzs l+exSzs r
 | [],r=>by simp [exSzs,exSz.exSzs]
 | x :: l,r=>by
  have:=exSzs_app l r
  simp only [exSzs,List.cons_append,exSz.exSzs] at this ⊢
  omega
theorem exSzs_one (x:Ex):exSzs [x]=exSz x:=by simp [exSzs,exSz.exSzs]
theorem exSzs_two (x y:Ex):exSzs [x,y]=exSz x+exSz y:=by simp [exSzs,exSz.exSzs]
theorem exSzs_nil:exSzs []=0:=by simp [exSzs,exSz.exSzs]
theorem leftLoop_sz {c:Ctx} {next:Rd Ex} {rank:Int} {once:Bool} (hn:Szd next exSz 0):∀(f:Nat) (e:Ex) (a:Nat) (d:Int) (x:Ex) (a':Nat) (d':Int),lL c next rank once f e a d=.ok x a' d'→exSz x+a≤a'+exSz e
 | 0,e,a,d,x,a',d',h=>by rw [lL] at h;cases h
 | f+1,e,a,d,x,a',d',h=>by
  rw [lL] at h
  split at h
  ·cases h;omega
  ·obtain ⟨e2,a2,d2,h1,h2⟩:=bO h
   have:=hn _ _ _ _ _ h1
   split at h2
   ·cases h2
    rw [exSz_mk,exSzs_two]
    omega
   ·have h3:=leftLoop_sz hn f _ _ _ _ _ _ h2
    rw [exSz_mk,exSzs_two] at h3
    omega
theorem leftS_sz {c:Ctx} {next:Rd Ex} {rank:Int} {once:Bool} (hn:Szd next exSz 0):Szd (leftS c next rank once) exSz 0:=by
 intro a d x a' d' h
 unfold leftS at h
 obtain ⟨e,a1,d1,h1,h2⟩:=bO h
 have:=hn _ _ _ _ _ h1
 have:=leftLoop_sz hn _ _ _ _ _ _ _ h2
 omega
theorem exprOf_sz {c:Ctx} {un:Rd Ex} (hn:Szd un exSz 0):Szd (exprOf c un) exSz 0:=leftS_sz (leftS_sz (leftS_sz (leftS_sz (leftS_sz hn))))
theorem parensS_sz {c:Ctx} {ex:Rd Ex} (hn:Szd ex exSz 0):Szd (paS c ex) exSz 2:=by
 intro a d x a' d' h
 unfold paS at h
 obtain ⟨_,a1,d1,h1,h⟩:=bO h
 obtain ⟨e,a2,d2,h2,h⟩:=bO h
 obtain ⟨_,a3,d3,h3,h⟩:=bO h
 cases h
 have:=want_sz (by omega) h1
 have:=hn _ _ _ _ _ h2
 have:=want_sz (by omega) h3
 omega
theorem argsS_sz {c:Ctx} {ex:Rd Ex} (hn:Szd ex exSz 0):∀(n i:Nat) (l:List Ex) (a:Nat) (d:Int) (x:List Ex) (a':Nat) (d':Int),argsS c ex n i l a d=.ok x a' d'→exSzs x+a≤a'+exSzs l
 | 0,i,l,a,d,x,a',d',h=>by rw [argsS] at h;cases h;omega
 | n+1,i,l,a,d,x,a',d',h=>by
  rw [argsS] at h
  obtain ⟨_,a1,d1,h1,h⟩:=bO h
  obtain ⟨e,a2,d2,h2,h⟩:=bO h
  have h3:=argsS_sz hn n _ _ _ _ _ _ _ h
  have:=hn _ _ _ _ _ h2
  rw [exSzs_app,exSzs_one] at h3
  have:a≤a1:=by
   split at h1
   ·cases h1;omega
   ·obtain ⟨_,a4,d4,h5,h6⟩:=bO h1
    cases h6
    have:=want_sz (by omega) h5
    omega
  omega
theorem callS_sz {c:Ctx} {ex:Rd Ex} {op:Int} {n:Nat} (hn:Szd ex exSz 0):Szd (callS c ex op n) exSz 0:=by
 intro a d x a' d' h
 unfold callS at h
 obtain ⟨_,a1,d1,h1,h⟩:=bO h
 obtain ⟨l,a2,d2,h2,h⟩:=bO h
 obtain ⟨_,a3,d3,h3,h⟩:=bO h
 cases h
 have:=want_sz (by omega) h1
 have h5:=argsS_sz hn _ _ _ _ _ _ _ _ h2
 have:=want_sz (by omega) h3
 rw [exSzs_nil] at h5
 rw [exSz_mk]
 omega
theorem nmS_sz {c:Ctx} {ex:Rd Ex} (hn:Szd ex exSz 0):Szd (nmS c ex) exSz 0:=by
 intro a d x a' d' h
 unfold nmS at h
 obtain ⟨s,a1,d1,h1,h⟩:=bO h
 obtain ⟨b,a2,d2,h2,h⟩:=bO h
 have:=name_sz h1
 have:=take_sz (by omega) h2
 split at h
 ·obtain ⟨e,a3,d3,h3,h⟩:=bO h
  obtain ⟨_,a4,d4,h4,h⟩:=bO h
  cases h
  have:=hn _ _ _ _ _ h3
  have:=want_sz (by omega) h4
  rw [exSz_mk,exSzs_one]
  omega
 ·cases h
  rw [exSz_mk,exSzs_nil]
  omega
theorem primaryS_sz {c:Ctx} {ex:Rd Ex} (hn:Szd ex exSz 0):Szd (primaryS c ex) exSz 0:=by
 intro a d x a' d' h
 unfold primaryS at h
 split at h
 ·obtain ⟨t,a1,d1,h1,h⟩:=bO h
  cases h
  have:=want_sz (by omega) h1
  rw [exSz_mk,exSzs_nil]
  omega
 ·repeat' split at h
  all_goals first
   | exact nmS_sz hn _ _ _ _ _ h
   | exact callS_sz hn _ _ _ _ _ h
   | (have:=parensS_sz hn _ _ _ _ _ h;omega)
theorem negS_sz {c:Ctx} {un:Rd Ex} {op:Int} (hn:Szd un exSz 0):Szd (negS c un op) exSz 0:=by
 intro a d x a' d' h
 rw [neg_eq] at h
 split at h
 ·cases h
 ·obtain ⟨e,a2,d2,h2,h⟩:=bO h
  cases h
  have:=hn _ _ _ _ _ h2
  rw [exSz_mk,exSzs_one]
  omega
theorem unaryS_sz {c:Ctx}:∀f,Szd (unaryS c f) exSz 0
 | 0=>fun a d x a' d' h=>by rw [unaryS] at h;cases h
 | f+1=>fun a d x a' d' h=>by
  rw [unaryS] at h
  split at h
  ·exact negS_sz (unaryS_sz f) _ _ _ _ _ h
  ·split at h
   ·exact negS_sz (unaryS_sz f) _ _ _ _ _ h
   ·exact primaryS_sz (exprOf_sz (unaryS_sz f)) _ _ _ _ _ h
theorem exprS_sz {c:Ctx}:Szd (exprS c) exSz 0:=exprOf_sz (unaryS_sz _)
theorem constant_sz {c:Ctx} {a a':Nat} {d d':Int} {s:Con} (h:coS c a d=.ok s a' d'):a+1≤a':=by
 unfold coS at h
 split at h
 ·obtain ⟨x,a1,d1,h1,h⟩:=bO h
  cases h
  have:=name_sz h1
  omega
 ·obtain ⟨b,a1,d1,h1,h⟩:=bO h
  obtain ⟨t,a2,d2,h2,h⟩:=bO h
  cases h
  have:=take_sz (by omega) h1
  have:=want_sz (by omega) h2
  omega
theorem stSzs_app:∀(l r:List Stm),stSzs (l++r)=stSzs l+stSzs r
 | [],r=>by rw [stSzs,List.nil_append];omega
 | x :: l,r=>by rw [List.cons_append,stSzs,stSzs,stSzs_app l r];omega
theorem bkSz_app:∀(l r:List (List Stm)),bkSz (l++r)=bkSz l+bkSz r
 | [],r=>by rw [bkSz,List.nil_append];omega
 | x :: l,r=>by rw [List.cons_append,bkSz,bkSz,bkSz_app l r];omega
theorem stSzs_one (x:Stm):stSzs [x]=stSz x:=by rw [stSzs,stSzs];omega
theorem bkSz_one (x:List Stm):bkSz [x]=1+stSzs x:=by rw [bkSz,bkSz];omega
theorem bkSz_two (x y:List Stm):bkSz [x,y]=2+stSzs x+stSzs y:=by rw [bkSz,bkSz,bkSz];omega
theorem bkSz_nil:bkSz []=0:=by rw [bkSz]
theorem stSzs_nil:stSzs []=0:=by rw [stSzs]
theorem assignS_sz {c:Ctx} {ex:Rd Ex} (hn:Szd ex exSz 0):Szd (assignS c ex) (fun q=>exSzs q.2.2.2) 1:=by
 intro a d x a' d' h
 unfold assignS at h
 obtain ⟨s,a1,d1,h1,h⟩:=bO h
 obtain ⟨b,a2,d2,h2,h⟩:=bO h
 have:=name_sz h1
 have:=take_sz (by omega) h2
 split at h
 ·obtain ⟨i,a3,d3,h3,h⟩:=bO h
  obtain ⟨_,a4,d4,h4,h⟩:=bO h
  obtain ⟨_,a5,d5,h5,h⟩:=bO h
  obtain ⟨y,a6,d6,h6,h⟩:=bO h
  cases h
  have:=hn _ _ _ _ _ h3
  have:=want_sz (by omega) h4
  have:=want_sz (by omega) h5
  have:=hn _ _ _ _ _ h6
  simp only [exSzs_two]
  omega
 ·obtain ⟨_,a3,d3,h3,h⟩:=bO h
  obtain ⟨r,a4,d4,h4,h⟩:=bO h
  have:=want_sz (by omega) h3
  have:=take_sz (by omega) h4
  split at h
  ·obtain ⟨t,a5,d5,h5,h⟩:=bO h
   cases h
   have:=name_sz h5
   simp only [exSzs_nil]
   omega
  ·obtain ⟨y,a5,d5,h5,h⟩:=bO h
   cases h
   have:=hn _ _ _ _ _ h5
   simp only [exSzs_one]
   omega
theorem blockLoop_sz {c:Ctx} {st:Rd Stm} (hn:Szd st stSz 0):∀(f:Nat) (l:List Stm) (a:Nat) (d:Int) (x:List Stm) (a':Nat) (d':Int),bl c st f l a d=.ok x a' d'→stSzs x+a≤a'+stSzs l
 | 0,l,a,d,x,a',d',h=>by rw [bl] at h;cases h
 | f+1,l,a,d,x,a',d',h=>by
  rw [bl] at h
  split at h
  ·cases h;omega
  ·obtain ⟨s,a1,d1,h1,h⟩:=bO h
   have:=hn _ _ _ _ _ h1
   have h3:=blockLoop_sz hn f _ _ _ _ _ _ h
   rw [stSzs_app,stSzs_one] at h3
   omega
theorem blockS_sz {c:Ctx} {st:Rd Stm} (hn:Szd st stSz 0):Szd (blockS c st) stSzs 2:=by
 intro a d x a' d' h
 unfold blockS at h
 obtain ⟨_,a1,d1,h1,h⟩:=bO h
 obtain ⟨l,a2,d2,h2,h⟩:=bO h
 obtain ⟨_,a3,d3,h3,h⟩:=bO h
 cases h
 have:=want_sz (by omega) h1
 have h5:=blockLoop_sz hn _ _ _ _ _ _ _ h2
 have:=want_sz (by omega) h3
 rw [stSzs_nil] at h5
 omega
theorem branchS_sz {c:Ctx} {ex:Rd Ex} {blk:Rd (List Stm)} (hE:Szd ex exSz 0) (hB:Szd blk stSzs 2):∀f,Szd (brS c ex blk f) stSz 0
 | 0=>fun a d x a' d' h=>by rw [brS] at h;cases h
 | f+1=>fun a d x a' d' h=>by
  rw [brS] at h
  obtain ⟨_,a1,d1,h1,h⟩:=bO h
  obtain ⟨e,a2,d2,h2,h⟩:=bO h
  obtain ⟨b,a3,d3,h3,h⟩:=bO h
  obtain ⟨el,a4,d4,h4,h⟩:=bO h
  have:=want_sz (by omega) h1
  have:=parensS_sz hE _ _ _ _ _ h2
  have:=hB _ _ _ _ _ h3
  have:=take_sz (by omega) h4
  split at h
  ·split at h
   ·obtain ⟨s,a5,d5,h5,h⟩:=bO h
    cases h
    have:=branchS_sz hE hB f _ _ _ _ _ h5
    rename_i hel _
    rw [hel] at *
    rw [stSz,exSzs_one,bkSz_two,stSzs_one]
    simp only [List.length_nil]
    omega
   ·obtain ⟨s,a5,d5,h5,h⟩:=bO h
    cases h
    have:=hB _ _ _ _ _ h5
    rw [stSz,exSzs_one,bkSz_two]
    simp only [List.length_nil]
    omega
  ·cases h
   rw [stSz,exSzs_one,bkSz_one]
   simp only [List.length_nil]
   omega
theorem caseLoop_sz {c:Ctx} {blk:Rd (List Stm)} (hB:Szd blk stSzs 2):∀(f:Nat) (cs:List Con) (bs:List (List Stm)) (a:Nat) (d:Int) (x:Cas) (a':Nat) (d':Int),cP c blk f cs bs a d=.ok x a' d'→x.1.length+bkSz x.2+a≤a'+cs.length+bkSz bs
 | 0,cs,bs,a,d,x,a',d',h=>by rw [cP] at h;cases h
 | f+1,cs,bs,a,d,x,a',d',h=>by
  rw [cP] at h
  obtain ⟨b,a1,d1,h1,h⟩:=bO h
  have:=take_sz (by omega) h1
  split at h
  ·obtain ⟨k,a2,d2,h2,h⟩:=bO h
   obtain ⟨_,a3,d3,h3,h⟩:=bO h
   obtain ⟨l,a4,d4,h4,h⟩:=bO h
   have:=constant_sz h2
   have:=want_sz (by omega) h3
   have:=hB _ _ _ _ _ h4
   have h9:=caseLoop_sz hB f _ _ _ _ _ _ _ h
   rw [bkSz_app,bkSz_one,List.length_append] at h9
   simp only [List.length_cons,List.length_nil] at h9
   omega
  ·cases h;dsimp only;omega
theorem dfltS_sz {c:Ctx} {blk:Rd (List Stm)} (hB:Szd blk stSzs 2) (bs:List (List Stm)) (a:Nat) (d:Int) (x:List (List Stm)) (a':Nat) (d':Int) (h:dfltS c blk bs a d=.ok x a' d'):bkSz x+a≤a'+bkSz bs:=by
 unfold dfltS at h
 obtain ⟨b,a1,d1,h1,h⟩:=bO h
 have:=take_sz (by omega) h1
 split at h
 ·obtain ⟨_,a2,d2,h2,h⟩:=bO h
  obtain ⟨l,a3,d3,h3,h⟩:=bO h
  cases h
  have:=want_sz (by omega) h2
  have:=hB _ _ _ _ _ h3
  rw [bkSz_app,bkSz_one]
  omega
 ·cases h;omega
theorem choiceS_sz {c:Ctx} {ex:Rd Ex} {blk:Rd (List Stm)} (hE:Szd ex exSz 0) (hB:Szd blk stSzs 2):Szd (choiceS c ex blk) stSz 0:=by
 intro a d x a' d' h
 unfold choiceS at h
 obtain ⟨e,a1,d1,h1,h⟩:=bO h
 obtain ⟨_,a2,d2,h2,h⟩:=bO h
 obtain ⟨cb,a3,d3,h3,h⟩:=bO h
 obtain ⟨bs,a4,d4,h4,h⟩:=bO h
 obtain ⟨_,a5,d5,h5,h⟩:=bO h
 cases h
 have:=parensS_sz hE _ _ _ _ _ h1
 have:=want_sz (by omega) h2
 have h6:=caseLoop_sz hB _ _ _ _ _ _ _ _ h3
 have:=dfltS_sz hB _ _ _ _ _ _ h4
 have:=want_sz (by omega) h5
 rw [bkSz_nil,List.length_nil] at h6
 rw [stSz,exSzs_one]
 omega
theorem stmtOf_sz {c:Ctx} {ex:Rd Ex} {blk:Rd (List Stm)} (hE:Szd ex exSz 0) (hB:Szd blk stSzs 2):Szd (stmtOf c ex blk) stSz 0:=by
 intro a d x a' d' h
 unfold stmtOf at h
 split at h
 ·unfold asgS at h
  obtain ⟨q,a1,d1,h1,h⟩:=bO h
  obtain ⟨_,a2,d2,h2,h⟩:=bO h
  cases h
  have h8:=assignS_sz hE _ _ _ _ _ h1
  dsimp only at h8
  have:=want_sz (by omega) h2
  rw [stSz,bkSz_nil,List.length_nil]
  omega
 split at h
 ·exact branchS_sz hE hB _ _ _ _ _ _ h
 split at h
 ·unfold whileS at h
  obtain ⟨e,a1,d1,h1,h⟩:=bO h
  obtain ⟨b,a2,d2,h2,h⟩:=bO h
  cases h
  have:=parensS_sz hE _ _ _ _ _ h1
  have:=hB _ _ _ _ _ h2
  rw [stSz,bkSz_one,exSzs_one,List.length_nil]
  omega
 split at h
 ·exact choiceS_sz hE hB _ _ _ _ _ h
 split at h
 ·unfold callStS at h
  obtain ⟨s,a1,d1,h1,h⟩:=bO h
  obtain ⟨_,a2,d2,h2,h⟩:=bO h
  cases h
  have:=name_sz h1
  have:=want_sz (by omega) h2
  rw [stSz,bkSz_nil,exSzs_nil,List.length_nil]
  omega
 split at h
 ·unfold assertS at h
  obtain ⟨e,a1,d1,h1,h⟩:=bO h
  obtain ⟨_,a2,d2,h2,h⟩:=bO h
  cases h
  have:=parensS_sz hE _ _ _ _ _ h1
  have:=want_sz (by omega) h2
  rw [stSz,bkSz_nil,exSzs_one,List.length_nil]
  omega
 ·unfold skipS at h
  obtain ⟨_,a1,d1,h1,h⟩:=bO h
  obtain ⟨_,a2,d2,h2,h⟩:=bO h
  cases h
  have:=want_sz (by omega) h1
  have:=want_sz (by omega) h2
  rw [stSz,bkSz_nil,exSzs_nil,List.length_nil]
  omega
theorem stmtS_sz {c:Ctx}:∀f,Szd (stmtS c f) stSz 0
 | 0=>fun a d x a' d' h=>by rw [stmtS] at h;cases h
 | f+1=>fun a d x a' d' h=>by
  rw [stmtS] at h
  exact stmtOf_sz exprS_sz (blockS_sz (stmtS_sz f)) _ _ _ _ _ h
theorem blkS_sz {c:Ctx}:Szd (blkS c) stSzs 2:=blockS_sz (stmtS_sz _)
theorem declsLoop_sz {c:Ctx}:∀(f:Nat) (l:List Dec) (a:Nat) (d:Int) (x:List Dec) (a':Nat) (d':Int),a≤c.L.length→dL c f l a d=.ok x a' d'→x.length+a≤a'+l.length∧a'≤c.L.length
 | 0,l,a,d,x,a',d',_,h=>by rw [dL] at h;cases h
 | f+1,l,a,d,x,a',d',hl,h=>by
  rw [dL] at h
  obtain ⟨y,a1,d1,h1,h⟩:=bO h
  obtain ⟨q1,q2,_,q4⟩:=declS_fine hl h1
  split at h
  ·rename_i hy
   have h9:=declsLoop_sz f _ _ _ _ _ _ q2 h
   rw [List.length_append] at h9
   simp only [List.length_cons,List.length_nil] at h9
   have:=q4 hy
   omega
  ·cases h;omega
theorem procsLoop_sz {c:Ctx}:∀(f:Nat) (l:List Prc) (a:Nat) (d:Int) (x:List Prc) (a':Nat) (d':Int),pL c f l a d=.ok x a' d'→a≤a'∧x.length+a≤a'+l.length∧∀p ∈ x,p ∈ l∨stSzs p.body≤a'
 | 0,l,a,d,x,a',d',h=>by rw [pL] at h;cases h
 | f+1,l,a,d,x,a',d',h=>by
  rw [pL] at h
  split at h
  ·obtain ⟨s,a1,d1,h1,h⟩:=bO h
   obtain ⟨b,a2,d2,h2,h⟩:=bO h
   have:=name_sz h1
   have:=blkS_sz _ _ _ _ _ h2
   obtain ⟨r0,r1,r2⟩:=procsLoop_sz f _ _ _ _ _ _ h
   rw [List.length_append] at r1
   simp only [List.length_cons,List.length_nil] at r1
   refine ⟨by omega,by omega,fun p hp=>?_⟩
   rcases r2 p hp with h | h
   ·rcases List.mem_append.1 h with h | h
    ·exact .inl h
    ·obtain rfl:p=_:=by simpa using h
     right
     dsimp only
     omega
   ·exact .inr h
  ·cases h
   exact ⟨Nat.le_refl _,Nat.le_of_eq (Nat.add_comm _ _),fun p hp=>.inl hp⟩
end Go.Proofs.YtgaoapnaplgaiaaGreatDoor.Sc
