/- This claim's own texts, joined, with only what the claim uses: ParM. -/
import Derived.Test.YtgaoapnaplgaiaaGreatDoorZs13
namespace Go.Proofs.YtgaoapnaplgaiaaGreatDoor.Sc
set_option maxRecDepth 100000
open Go.RowKit Tk Go.Proofs.YtgaoapnaplgaiaaGreatDoor.Wd
theorem wrap27 {c:Ctx} (hG:Good c) (hg1:1<c.g) {S:Rd Ex} {a0:Nat} (hF:Fine c S a0) (hR:Reads c 53 S a0):Reads c 27 (leftS c S 5 false) a0:=by
 intro W a d fp fe h hO ha hl h0 h1
 have hT0:=One.lit h 93 Z93
 have hS0:=hT0.st hG h
 have hmf:∀(fn:Fn) (first cap:Array Value) (w:World),(Instr.makeFunc fn first cap).run Tryz.prog w=.ok (.func fn first cap) w:=fun _ _ _ _=>rfl
 have CN:=left_reads hG hg1 Tryz.call53 hF hR 5 false _ a d fp fe hS0 (hO.grown hT0.fr hg1) ha hl h0 h1
 have hlo:(W.alloc (.cells Z93 93)).heap.size=W.heap.size+1:=by simp
 rw [hlo] at CN
 obtain ⟨T,hSp⟩:∃T,leftS c S 5 false a d=T:=⟨_,rfl⟩
 rw [hSp] at CN ⊢
 clear hSp hlo hR hO hF
 go_enter Tryz.func27,Tryz.ntmps27
 go_wp2_with (first|(go_at_call 52;(with_reducible refine CN.mono ?_);rintro e w hP;rcases hP.elim with ⟨x,a1,d1,ho,hg,⟨v,rfl,op,num,nm,A,n,cap,pos,rfl,hE⟩,hS⟩|⟨p,er,ho,hg,rfl,a',d',hS⟩;(have hT1:=hT0.call h hg hS;have r0:w.cell? ⟨W.heap.size,0,none⟩=some (.int .i64 0):=hT1.rc 0 rfl;have x0:=hT1.rf 0;have r1:w.cell? ⟨W.heap.size,1,none⟩=some (.int .i64 0):=hT1.rc 1 rfl;have x1:=hT1.rf 1;have r2:w.cell? ⟨W.heap.size,2,none⟩=some (.string ⟨#[]⟩):=hT1.rc 2 rfl;have x2:=hT1.rf 2;have r3:w.cell? ⟨W.heap.size,3,none⟩=some (.slice none 0 0):=hT1.rc 3 rfl;have x3:=hT1.rf 3;have r4:w.cell? ⟨W.heap.size,4,none⟩=some (.int .i64 0):=hT1.rc 4 rfl;have x4:=hT1.rf 4)))
 case inr =>
  exact ⟨rfl,Post.mk_bad (Q4 hT0.fr hg) hS⟩
 have hTR:=One.all5 h (.int .i64 op) (.int .i64 num) (.string nm) (.slice A n cap) (.int .i64 pos) hT1
 (first | rw [ho] | skip)
 exact bodyPost_ret (res_c rfl _ _ W.heap.size 93 _ (0,0) _ rfl hTR.rb Tryz.underlying93 rfl (by kernel_rfl)) rfl (Post.mk_ok (rep:=repE W.heap.size) hTR.fr ⟨op,num,nm,A,n,cap,pos,rfl,hE.far (far5 w (Nat.lt_succ_self _) _ _ _ _ _) (Nat.le_succ _)⟩ (hTR.st hG h))
theorem wrap26 {c:Ctx} (hG:Good c) (hg1:1<c.g) {S:Rd Ex} {a0:Nat} (hF:Fine c S a0) (hR:Reads c 27 S a0):Reads c 26 (leftS c S 4 false) a0:=by
 intro W a d fp fe h hO ha hl h0 h1
 have hT0:=One.lit h 93 Z93
 have hS0:=hT0.st hG h
 have c8:=hS0.ci 11 rfl
 have CN:=left_reads hG hg1 Tryz.call27 hF hR 4 false _ a d fp fe hS0 (hO.grown hT0.fr hg1) ha hl h0 h1
 have hlo:(W.alloc (.cells Z93 93)).heap.size=W.heap.size+1:=by simp
 rw [hlo] at CN
 obtain ⟨T,hSp⟩:∃T,leftS c S 4 false a d=T:=⟨_,rfl⟩
 rw [hSp] at CN ⊢
 clear hSp hlo hR hO hF
 go_enter Tryz.func26,Tryz.ntmps26
 go_wp2_with (first|(go_at_call 52;(with_reducible refine CN.mono ?_);rintro e w hP;rcases hP.elim with ⟨x,a1,d1,ho,hg,⟨v,rfl,op,num,nm,A,n,cap,pos,rfl,hE⟩,hS⟩|⟨p,er,ho,hg,rfl,a',d',hS⟩;(have hT1:=hT0.call h hg hS;have r0:w.cell? ⟨W.heap.size,0,none⟩=some (.int .i64 0):=hT1.rc 0 rfl;have x0:=hT1.rf 0;have r1:w.cell? ⟨W.heap.size,1,none⟩=some (.int .i64 0):=hT1.rc 1 rfl;have x1:=hT1.rf 1;have r2:w.cell? ⟨W.heap.size,2,none⟩=some (.string ⟨#[]⟩):=hT1.rc 2 rfl;have x2:=hT1.rf 2;have r3:w.cell? ⟨W.heap.size,3,none⟩=some (.slice none 0 0):=hT1.rc 3 rfl;have x3:=hT1.rf 3;have r4:w.cell? ⟨W.heap.size,4,none⟩=some (.int .i64 0):=hT1.rc 4 rfl;have x4:=hT1.rf 4)))
 case inr =>
  exact ⟨rfl,Post.mk_bad (Q4 hT0.fr hg) hS⟩
 have hTR:=One.all5 h (.int .i64 op) (.int .i64 num) (.string nm) (.slice A n cap) (.int .i64 pos) hT1
 (first | rw [ho] | skip)
 exact bodyPost_ret (res_c rfl _ _ W.heap.size 93 _ (0,0) _ rfl hTR.rb Tryz.underlying93 rfl (by kernel_rfl)) rfl (Post.mk_ok (rep:=repE W.heap.size) hTR.fr ⟨op,num,nm,A,n,cap,pos,rfl,hE.far (far5 w (Nat.lt_succ_self _) _ _ _ _ _) (Nat.le_succ _)⟩ (hTR.st hG h))
theorem wrap25 {c:Ctx} (hG:Good c) (hg1:1<c.g) {S:Rd Ex} {a0:Nat} (hF:Fine c S a0) (hR:Reads c 26 S a0):Reads c 25 (leftS c S 3 true) a0:=by
 intro W a d fp fe h hO ha hl h0 h1
 have hT0:=One.lit h 93 Z93
 have hS0:=hT0.st hG h
 have c8:=hS0.ci 10 rfl
 have CN:=left_reads hG hg1 Tryz.call26 hF hR 3 true _ a d fp fe hS0 (hO.grown hT0.fr hg1) ha hl h0 h1
 have hlo:(W.alloc (.cells Z93 93)).heap.size=W.heap.size+1:=by simp
 rw [hlo] at CN
 obtain ⟨T,hSp⟩:∃T,leftS c S 3 true a d=T:=⟨_,rfl⟩
 rw [hSp] at CN ⊢
 clear hSp hlo hR hO hF
 go_enter Tryz.func25,Tryz.ntmps25
 go_wp2_with (first|(go_at_call 52;(with_reducible refine CN.mono ?_);rintro e w hP;rcases hP.elim with ⟨x,a1,d1,ho,hg,⟨v,rfl,op,num,nm,A,n,cap,pos,rfl,hE⟩,hS⟩|⟨p,er,ho,hg,rfl,a',d',hS⟩;(have hT1:=hT0.call h hg hS;have r0:w.cell? ⟨W.heap.size,0,none⟩=some (.int .i64 0):=hT1.rc 0 rfl;have x0:=hT1.rf 0;have r1:w.cell? ⟨W.heap.size,1,none⟩=some (.int .i64 0):=hT1.rc 1 rfl;have x1:=hT1.rf 1;have r2:w.cell? ⟨W.heap.size,2,none⟩=some (.string ⟨#[]⟩):=hT1.rc 2 rfl;have x2:=hT1.rf 2;have r3:w.cell? ⟨W.heap.size,3,none⟩=some (.slice none 0 0):=hT1.rc 3 rfl;have x3:=hT1.rf 3;have r4:w.cell? ⟨W.heap.size,4,none⟩=some (.int .i64 0):=hT1.rc 4 rfl;have x4:=hT1.rf 4)))
 case inr =>
  exact ⟨rfl,Post.mk_bad (Q4 hT0.fr hg) hS⟩
 have hTR:=One.all5 h (.int .i64 op) (.int .i64 num) (.string nm) (.slice A n cap) (.int .i64 pos) hT1
 (first | rw [ho] | skip)
 exact bodyPost_ret (res_c rfl _ _ W.heap.size 93 _ (0,0) _ rfl hTR.rb Tryz.underlying93 rfl (by kernel_rfl)) rfl (Post.mk_ok (rep:=repE W.heap.size) hTR.fr ⟨op,num,nm,A,n,cap,pos,rfl,hE.far (far5 w (Nat.lt_succ_self _) _ _ _ _ _) (Nat.le_succ _)⟩ (hTR.st hG h))
theorem wrap24 {c:Ctx} (hG:Good c) (hg1:1<c.g) {S:Rd Ex} {a0:Nat} (hF:Fine c S a0) (hR:Reads c 25 S a0):Reads c 24 (leftS c S 2 false) a0:=by
 intro W a d fp fe h hO ha hl h0 h1
 have hT0:=One.lit h 93 Z93
 have hS0:=hT0.st hG h
 have c8:=hS0.ci 9 rfl
 have CN:=left_reads hG hg1 Tryz.call25 hF hR 2 false _ a d fp fe hS0 (hO.grown hT0.fr hg1) ha hl h0 h1
 have hlo:(W.alloc (.cells Z93 93)).heap.size=W.heap.size+1:=by simp
 rw [hlo] at CN
 obtain ⟨T,hSp⟩:∃T,leftS c S 2 false a d=T:=⟨_,rfl⟩
 rw [hSp] at CN ⊢
 clear hSp hlo hR hO hF
 go_enter Tryz.func24,Tryz.ntmps24
 go_wp2_with (first|(go_at_call 52;(with_reducible refine CN.mono ?_);rintro e w hP;rcases hP.elim with ⟨x,a1,d1,ho,hg,⟨v,rfl,op,num,nm,A,n,cap,pos,rfl,hE⟩,hS⟩|⟨p,er,ho,hg,rfl,a',d',hS⟩;(have hT1:=hT0.call h hg hS;have r0:w.cell? ⟨W.heap.size,0,none⟩=some (.int .i64 0):=hT1.rc 0 rfl;have x0:=hT1.rf 0;have r1:w.cell? ⟨W.heap.size,1,none⟩=some (.int .i64 0):=hT1.rc 1 rfl;have x1:=hT1.rf 1;have r2:w.cell? ⟨W.heap.size,2,none⟩=some (.string ⟨#[]⟩):=hT1.rc 2 rfl;have x2:=hT1.rf 2;have r3:w.cell? ⟨W.heap.size,3,none⟩=some (.slice none 0 0):=hT1.rc 3 rfl;have x3:=hT1.rf 3;have r4:w.cell? ⟨W.heap.size,4,none⟩=some (.int .i64 0):=hT1.rc 4 rfl;have x4:=hT1.rf 4)))
 case inr =>
  exact ⟨rfl,Post.mk_bad (Q4 hT0.fr hg) hS⟩
 have hTR:=One.all5 h (.int .i64 op) (.int .i64 num) (.string nm) (.slice A n cap) (.int .i64 pos) hT1
 (first | rw [ho] | skip)
 exact bodyPost_ret (res_c rfl _ _ W.heap.size 93 _ (0,0) _ rfl hTR.rb Tryz.underlying93 rfl (by kernel_rfl)) rfl (Post.mk_ok (rep:=repE W.heap.size) hTR.fr ⟨op,num,nm,A,n,cap,pos,rfl,hE.far (far5 w (Nat.lt_succ_self _) _ _ _ _ _) (Nat.le_succ _)⟩ (hTR.st hG h))
theorem wrap23 {c:Ctx} (hG:Good c) (hg1:1<c.g) {S:Rd Ex} {a0:Nat} (hF:Fine c S a0) (hR:Reads c 24 S a0):Reads c 23 (leftS c S 1 false) a0:=by
 intro W a d fp fe h hO ha hl h0 h1
 have hT0:=One.lit h 93 Z93
 have hS0:=hT0.st hG h
 have c8:=hS0.ci 8 rfl
 have CN:=left_reads hG hg1 Tryz.call24 hF hR 1 false _ a d fp fe hS0 (hO.grown hT0.fr hg1) ha hl h0 h1
 have hlo:(W.alloc (.cells Z93 93)).heap.size=W.heap.size+1:=by simp
 rw [hlo] at CN
 obtain ⟨T,hSp⟩:∃T,leftS c S 1 false a d=T:=⟨_,rfl⟩
 rw [hSp] at CN ⊢
 clear hSp hlo hR hO hF
 go_enter Tryz.func23,Tryz.ntmps23
 go_wp2_with (first|(go_at_call 52;(with_reducible refine CN.mono ?_);rintro e w hP;rcases hP.elim with ⟨x,a1,d1,ho,hg,⟨v,rfl,op,num,nm,A,n,cap,pos,rfl,hE⟩,hS⟩|⟨p,er,ho,hg,rfl,a',d',hS⟩;(have hT1:=hT0.call h hg hS;have r0:w.cell? ⟨W.heap.size,0,none⟩=some (.int .i64 0):=hT1.rc 0 rfl;have x0:=hT1.rf 0;have r1:w.cell? ⟨W.heap.size,1,none⟩=some (.int .i64 0):=hT1.rc 1 rfl;have x1:=hT1.rf 1;have r2:w.cell? ⟨W.heap.size,2,none⟩=some (.string ⟨#[]⟩):=hT1.rc 2 rfl;have x2:=hT1.rf 2;have r3:w.cell? ⟨W.heap.size,3,none⟩=some (.slice none 0 0):=hT1.rc 3 rfl;have x3:=hT1.rf 3;have r4:w.cell? ⟨W.heap.size,4,none⟩=some (.int .i64 0):=hT1.rc 4 rfl;have x4:=hT1.rf 4)))
 case inr =>
  exact ⟨rfl,Post.mk_bad (Q4 hT0.fr hg) hS⟩
 have hTR:=One.all5 h (.int .i64 op) (.int .i64 num) (.string nm) (.slice A n cap) (.int .i64 pos) hT1
 (first | rw [ho] | skip)
 exact bodyPost_ret (res_c rfl _ _ W.heap.size 93 _ (0,0) _ rfl hTR.rb Tryz.underlying93 rfl (by kernel_rfl)) rfl (Post.mk_ok (rep:=repE W.heap.size) hTR.fr ⟨op,num,nm,A,n,cap,pos,rfl,hE.far (far5 w (Nat.lt_succ_self _) _ _ _ _ _) (Nat.le_succ _)⟩ (hTR.st hG h))
theorem exprOf_reads {c:Ctx} (hG:Good c) (hg1:1<c.g) {un:Rd Ex} {a0:Nat} (hF:Fine c un a0) (hR:Reads c 53 un a0):Reads c 131 (exprOf c un) a0 :=
 expr_reads hG (wrap23 hG hg1 (lF (lF (lF (lF hF)))) (wrap24 hG hg1 (lF (lF (lF hF))) (wrap25 hG hg1 (lF (lF hF)) (wrap26 hG hg1 (lF hF) (wrap27 hG hg1 hF hR)))))
end Go.Proofs.YtgaoapnaplgaiaaGreatDoor.Sc
