/-
  gimballaw04.SyntaxReads returns true, whatever the bytes, in every world in which the tables read as listed: the row, and its card (the tables tied to the program's text). No further condition.
-/
import Derived.Test.YtgaoapnaplgaiaaGreatDoorZs50
import Derived.Test.YtgaoapnaplgaiaaGreatDoorZs52
namespace Go.Proofs.YtgaoapnaplgaiaaGreatDoor.Sc
open Go.ChangeShapes Go.WideShapes Go.ChangeAt Go.RowKit Go.ChangeMaps Tk
set_option maxRecDepth 100000
theorem reads_contract (H:Type) (enc:TypeId × Value→H) (W:World) (base:Nat) (args:Array Value) (ds gs:List (DataW H)) (before:List MemPlace)
  (hval:∀(j:Nat) t v,Tryz.f3.params[j]?=some t→args[j]?=some v→Value.okWide Tryz.prog W .any base t v)
  (hW:DataW.Whole enc Tryz.prog Tryz.f3.params.toList Rows.syntaxReadsSpec.vars false W args.toList ds gs before)
  (hsz:(DataW.weightsEach Tryz.prog (Tryz.f3.params.toList++(OpenSpec.ofChange Rows.syntaxReadsSpec).bare.plain.varTypes Tryz.prog) (ds++gs)).all (·≤reachBytes)=true)
  (hL:laidMetH Tryz.prog Rows.syntaxReadsRow.laid W) (hsh:W.ShapedOpen Tryz.prog) :
  Calls Tryz.prog 3 args W fun e W'=>∃v,e=.returned v∧Rows.syntaxReadsSpec.post enc Tryz.prog Tryz.f3 false true false false W args v W':=by
 have hW':=hW
 have hlt:=hW.lt
 obtain ⟨p,q,hA0,hV,rfl,hfz,hnd⟩:=hW
 have hA:DataW.TrodAll enc Tryz.prog W 0 (fun _=>true) true Tryz.f3.params.toList args.toList ds p:=hA0
 rw [Tryz.params3] at hA hval
 obtain ⟨v0,d0,rfl,rfl,h0⟩:=trodAll_one hA
 obtain ⟨rfl,rfl⟩:=trodVars_none hV
 clear hA0
 obtain ⟨A,n,cap,xs,rfl,hS⟩:=open_txt (hval 0 22 v0 rfl rfl) h0 (j:=0) hsz rfl rfl
 refine (read_walk A n cap xs W (env_of hL hsh) hS).mono fun e W' ⟨he,hb⟩=>?_
 subst he
 have h0':=hb.trod laidOut read22 size22 h0 (fun y hy=>hlt y (by simp [hy]))
 exact ⟨_,rfl,_,_,_,[],_,[],hW',trodAll_mk1 (shut_bool Tryz.underlying4 _),trodAll_mk1 h0',rfl,hb.frame _,fun h=>by cases h⟩
noncomputable def syntaxReads_world (os:Os):World:=World.laidAll Tryz.prog os Rows.syntaxReadsRow.laid
theorem syntaxReads_laid_met (os:Os):laidMet Tryz.prog Rows.syntaxReadsRow.laid ((syntaxReads_world os).forCall (fun _ _=>0) ⟨#[],#[.slice none 0 0],[]⟩).memory :=
 laidMet_laidAll _ (by kernel_rfl) (by kernel_rfl)
theorem syntaxReads_reads (os:Os) {H:Type} (enc:TypeId × Value→H):∃places,DataW.whole enc Tryz.prog ((syntaxReads_world os).forCall (fun _ _=>0) ⟨#[],#[.slice none 0 0],[]⟩).memory Tryz.f3.params.toList Rows.syntaxReadsSpec.vars false (#[.slice none 0 0]:Array Value).toList 8=some ([.nil],[],places) :=
 ⟨[],by kernel_rfl⟩
theorem syntaxReads_lifted (os:Os) (started:os.Started) (H:Type) (enc:TypeId × Value→H) (F:Stop.Interp) :
  ReturnsInHanded {} Tryz.checked os 3 .any ((OpenSpec.ofChange Rows.syntaxReadsSpec).preRow enc Tryz.prog Tryz.f3 Rows.syntaxReadsRow.domain false Rows.syntaxReadsRow.laid) (((OpenSpec.ofChange Rows.syntaxReadsSpec).at F).post enc Tryz.prog Tryz.f3 false true false false):=by
 obtain ⟨places,hx⟩:=syntaxReads_reads os enc
 refine returnsInHanded_of_row (C:=Tryz.checked) (s:=OpenSpec.ofChange Rows.syntaxReadsSpec) own started (by kernel_rfl) Tryz.func3
  (witness_row_at (enc:=enc) (C:=Tryz.checked) false (syntaxReads_world os) #[.slice none 0 0] (World.laidAll_os _ _ _) (by kernel_rfl) (by kernel_rfl) (by kernel_rfl)
   (OpenSpec.preRow_of_cond 8 hx (by kernel_rfl) (fun k hk=>by cases hk) (by kernel_rfl) (syntaxReads_laid_met os))) ?_
 intro W base args ds gs before hval hW _ _ hsz hL hsh _
 exact reads_contract H enc W base args ds gs before hval hW hsz hL hsh
theorem syntaxReads_said:Rows.SyntaxReadsSaid :=
 OpenClaim.holds_of_cond 3 Tryz.f3 rfl rfl rfl rfl rfl rfl rfl ⟨rfl,rfl,rfl,rfl,rfl⟩ rfl rfl rfl rfl rfl (by kernel_rfl) Tryz.func3 (by kernel_rfl)
  (of_decide_eq_true (by kernel_rfl)) (by unfold Func.isWrapper;first | (rw [if_pos (by decide +kernel)];kernel_rfl)|(rw [if_neg (by decide +kernel)];exact ⟨rfl,rfl⟩))
  (fun os started H enc _ F=>by rw [OpenClaim.pre_eq_preRow];exact syntaxReads_lifted os started H enc F)
theorem syntaxReads_plain (f : FuncId) (fn : Func) (hf : Tryz.pinned.checked.prog.funcNamed "gimbal/gimballaw04.SyntaxReads" = some f) (hfn : Tryz.pinned.checked.prog.funcs[f]? = some fn) :
  true=Tryz.pinned.checked.prog.looks []∧∀(j:Nat) t,fn.params[j]?=some t→Tryz.pinned.checked.prog.wantsStandIn t=false:=by
 obtain rfl : f = 3 := Option.some.inj ((show Tryz.prog.funcNamed "gimbal/gimballaw04.SyntaxReads" = some 3 by kernel_rfl).symm.trans hf) |>.symm
 obtain rfl:fn=Tryz.f3:=(Option.some.inj (Tryz.func3.symm.trans hfn)).symm
 refine ⟨by kernel_rfl,fun j t ht=>?_⟩
 rw [Tryz.params3] at ht
 obtain rfl:t=22:=by simpa using Array.mem_of_getElem? ht
 exact (show Tryz.prog.wantsStandIn 22=false by kernel_rfl)
theorem syntaxReads_card:Rows.SyntaxReadsCardSaid :=
 Claim7.holds_tied_plain_at .later [] _ _ _ _ syntaxReads_said (fun _ h=>by cases h) (by kernel_rfl) (fun _ h=>by cases h) syntaxReads_row_tie rfl ⟨rfl,rfl⟩ (by kernel_rfl) rfl syntaxReads_plain (by kernel_rfl)
end Go.Proofs.YtgaoapnaplgaiaaGreatDoor.Sc
namespace Go.Proofs.YtgaoapnaplgaiaaGreatDoor
theorem SyntaxReads_holds:Rows.SyntaxReadsCardSaid:=Sc.syntaxReads_card
end Go.Proofs.YtgaoapnaplgaiaaGreatDoor
