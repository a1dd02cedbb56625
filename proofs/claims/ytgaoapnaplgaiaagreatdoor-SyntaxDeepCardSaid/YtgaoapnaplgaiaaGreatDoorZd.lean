/-
  gimballaw04.SyntaxDeep returns true, whatever the two numbers, in every world in which the tables read as listed: the row, and its card (the tables tied to the program's text). No further condition.
-/
import Derived.Test.YtgaoapnaplgaiaaGreatDoorZd48
import Derived.Test.YtgaoapnaplgaiaaGreatDoorTie
import Derived.ProofKit
import Derived.Carry
import Derived.HandedShaped
import Derived.Lay
import Derived.Lib.LaidTab
import Derived.Stop.LaidErr
import Derived.ChangeMaps5
namespace Go.Proofs.YtgaoapnaplgaiaaGreatDoor.Sc
open Go.ChangeShapes Go.WideShapes Go.ChangeAt Go.RowKit Go.ChangeMaps Tk
set_option maxRecDepth 100000

theorem own : ownKnob Tryz.prog.godebug = none := by kernel_rfl
theorem heap_of_tab {W : World} {name : String} {g : Nat} {zs : List Int} (hg : Tryz.prog.globalNamed name = some g) (h : Lib.TabIs Tryz.prog W name .i64 zs) : ∃ t fr, W.heap[g]? = some (.cells (zs.map (Value.int .i64)).toArray t fr) := by
  unfold Lib.TabIs World.var? at h
  rw [hg, Option.bind_some] at h
  split at h
  · rename_i c t fr hh
    cases h
    exact ⟨t, fr, hh⟩
  · cases h
abbrev tabs6 : List (String × DataW Unit) := [("math/bits.deBruijn32tab", Rows.laid_math_bits_deBruijn32tab), ("math/bits.deBruijn64tab", Rows.laid_math_bits_deBruijn64tab), ("internal/strconv.uint64pow10", Rows.laid_internal_strconv_uint64pow10), ("gimbal/token.words", Rows.laid_gimbal_token_words), ("gimbal/syntax.ranks", Rows.laid_gimbal_syntax_ranks), ("gimbal/syntax.binary", Rows.laid_gimbal_syntax_binary)]
theorem env_of {W : World} (hL : laidMet Tryz.prog tabs6 W) (hsh : W.ShapedOpen Tryz.prog) : Env W := by
  have h3 := hL.tail.tail.tail
  have h4 := h3.tail
  have h5 := h4.tail
  refine ⟨hasTab h3, ⟨?_, ?_⟩, Go.Proofs.cell_of_shapedOpen_int (P := Tryz.prog) (g := 2) (zero := #[.int .i64 0]) (t := 3) hsh (of_decide_eq_true (by kernel_rfl)) (by kernel_rfl) rfl (by kernel_rfl) (by kernel_rfl) Tryz.underlying3⟩
  · exact heap_of_tab (by kernel_rfl) (Lib.tabIs_of_head (n := 23) (zs := binT) (t := 132) (e := 3) (g := 0) (by kernel_rfl) (by kernel_rfl) Tryz.underlying132 Tryz.underlying3 (by kernel_rfl) (by kernel_rfl) h5)
  · exact heap_of_tab (by kernel_rfl) (Lib.tabIs_of_head (n := 23) (zs := rnkT) (t := 132) (e := 3) (g := 1) (by kernel_rfl) (by kernel_rfl) Tryz.underlying132 Tryz.underlying3 (by kernel_rfl) (by kernel_rfl) h4)
theorem deep_contract (H : Type) (enc : TypeId × Value → H) (W : World) (base : Nat) (args : Array Value) (ds gs : List (DataW H)) (before : List MemPlace)
    (hval : ∀ (j : Nat) t v, Tryz.f6.params[j]? = some t → args[j]? = some v → Value.okWide Tryz.prog W .any base t v)
    (hW : DataW.Whole enc Tryz.prog Tryz.f6.params.toList Rows.syntaxDeepSpec.vars false W args.toList ds gs before) (hL : laidMetH Tryz.prog Rows.syntaxDeepRow.laid W) (hsh : W.ShapedOpen Tryz.prog) :
    Calls Tryz.prog 6 args W fun e W' => ∃ v, e = .returned v ∧ Rows.syntaxDeepSpec.post enc Tryz.prog Tryz.f6 false true false false W args v W' := by
  have hW' := hW
  obtain ⟨p, q, hA0, hV, rfl, hfz, hnd⟩ := hW
  have hA : DataW.TrodAll enc Tryz.prog W 0 (fun _ => true) true Tryz.f6.params.toList args.toList ds p := hA0
  rw [Tryz.params6] at hA hval
  obtain ⟨v0, v1, d0, d1, p0, p1, rfl, rfl, rfl, h0, h1⟩ := trodAll_two hA
  obtain ⟨rfl, rfl⟩ := trodVars_none hV
  obtain ⟨i, rfl, rfl, rfl, wi⟩ := open_int Tryz.underlying3 (hval 0 3 v0 rfl rfl) h0
  obtain ⟨j, rfl, rfl, rfl, wj⟩ := open_int Tryz.underlying3 (hval 1 3 v1 rfl rfl) h1
  clear hA0
  simp only [List.append_nil] at hW'
  refine (deep_walk i j W (env_of hL hsh)).mono fun e W' ⟨he, hb⟩ => ?_
  subst he
  exact ⟨_, rfl, _, _, _, [], _, [], hW', trodAll_mk1 (shut_bool Tryz.underlying4 _), trodAll_mk2 (shut_int Tryz.underlying3 wi) (shut_int Tryz.underlying3 wj), rfl, hb.frame _, fun h => by cases h⟩
noncomputable def syntaxDeep_world (os : Os) : World := World.laidAll Tryz.prog os Rows.syntaxDeepRow.laid
theorem syntaxDeep_laid_met (os : Os) : laidMet Tryz.prog Rows.syntaxDeepRow.laid ((syntaxDeep_world os).forCall (fun _ _ => 0) ⟨#[], #[.int .i64 0, .int .i64 0], []⟩).memory :=
  laidMet_laidAll _ (by kernel_rfl) (by kernel_rfl)
theorem syntaxDeep_reads (os : Os) {H : Type} (enc : TypeId × Value → H) : ∃ places, DataW.whole enc Tryz.prog ((syntaxDeep_world os).forCall (fun _ _ => 0) ⟨#[], #[.int .i64 0, .int .i64 0], []⟩).memory Tryz.f6.params.toList Rows.syntaxDeepSpec.vars false (#[.int .i64 0, .int .i64 0] : Array Value).toList 8 = some ([.lit (.int .i64 0), .lit (.int .i64 0)], [], places) :=
  ⟨[], by kernel_rfl⟩
theorem syntaxDeep_lifted (os : Os) (started : os.Started) (H : Type) (enc : TypeId × Value → H) (F : Stop.Interp) :
    ReturnsInHanded {} Tryz.checked os 6 .any ((OpenSpec.ofChange Rows.syntaxDeepSpec).preRow enc Tryz.prog Tryz.f6 Rows.syntaxDeepRow.domain false Rows.syntaxDeepRow.laid) (((OpenSpec.ofChange Rows.syntaxDeepSpec).at F).post enc Tryz.prog Tryz.f6 false true false false) := by
  obtain ⟨places, hx⟩ := syntaxDeep_reads os enc
  refine returnsInHanded_of_row (C := Tryz.checked) (s := OpenSpec.ofChange Rows.syntaxDeepSpec) own started (by kernel_rfl) Tryz.func6
    (witness_row_at (enc := enc) (C := Tryz.checked) false (syntaxDeep_world os) #[.int .i64 0, .int .i64 0] (World.laidAll_os _ _ _) (by kernel_rfl) (by kernel_rfl) (by kernel_rfl)
      (OpenSpec.preRow_of_cond 8 hx (by kernel_rfl) (fun k hk => by cases hk) (by kernel_rfl) (syntaxDeep_laid_met os))) ?_
  intro W base args ds gs before hval hW _ _ _ hL hsh _
  exact deep_contract H enc W base args ds gs before hval hW hL hsh
theorem syntaxDeep_said : Rows.SyntaxDeepSaid :=
  OpenClaim.holds_of_cond 6 Tryz.f6 rfl rfl rfl rfl rfl rfl rfl ⟨rfl, rfl, rfl, rfl, rfl⟩ rfl rfl rfl rfl rfl (by kernel_rfl) Tryz.func6 (by kernel_rfl)
    (of_decide_eq_true (by kernel_rfl)) (by unfold Func.isWrapper; first | (rw [if_pos (by decide +kernel)]; kernel_rfl) | (rw [if_neg (by decide +kernel)]; exact ⟨rfl, rfl⟩))
    (fun os started H enc _ F => by rw [OpenClaim.pre_eq_preRow]; exact syntaxDeep_lifted os started H enc F)
theorem syntaxDeep_plain (f : FuncId) (fn : Func) (hf : Tryz.pinned.checked.prog.funcNamed "gimbal/gimballaw04.SyntaxDeep" = some f) (hfn : Tryz.pinned.checked.prog.funcs[f]? = some fn) :
    true = Tryz.pinned.checked.prog.looks [] ∧ ∀ (j : Nat) t, fn.params[j]? = some t → Tryz.pinned.checked.prog.wantsStandIn t = false := by
  obtain rfl : f = 6 := Option.some.inj ((show Tryz.prog.funcNamed "gimbal/gimballaw04.SyntaxDeep" = some 6 by kernel_rfl).symm.trans hf) |>.symm
  obtain rfl : fn = Tryz.f6 := (Option.some.inj (Tryz.func6.symm.trans hfn)).symm
  refine ⟨by kernel_rfl, fun j t ht => ?_⟩
  rw [Tryz.params6] at ht
  obtain rfl : t = 3 := by simpa using Array.mem_of_getElem? ht
  exact (show Tryz.prog.wantsStandIn 3 = false by kernel_rfl)

/-- The card. -/
theorem syntaxDeep_card : Rows.SyntaxDeepCardSaid :=
  Claim7.holds_tied_plain_at .later [] _ _ _ _ syntaxDeep_said (fun _ h => by cases h) (by kernel_rfl) (fun _ h => by cases h) syntaxDeep_row_tie rfl ⟨rfl, rfl⟩ (by kernel_rfl) rfl syntaxDeep_plain (by kernel_rfl)
end Go.Proofs.YtgaoapnaplgaiaaGreatDoor.Sc
namespace Go.Proofs.YtgaoapnaplgaiaaGreatDoor
theorem SyntaxDeep_holds : Rows.SyntaxDeepCardSaid := Sc.syntaxDeep_card
end Go.Proofs.YtgaoapnaplgaiaaGreatDoor

