/-
  gimballaw04.SyntaxBlanks returns true, whatever the bytes and the gaps of a bulk of at most 1048576, in every world in which the tables read as listed: the row's second form, and its card (the tables tied to the program's text). No further condition.
-/
import Derived.Test.YtgaoapnaplgaiaaGreatDoorZf50
import Derived.Test.YtgaoapnaplgaiaaGreatDoorZf52
namespace Go.Proofs.YtgaoapnaplgaiaaGreatDoor.Sc
open Go.ChangeShapes Go.WideShapes Go.ChangeAt Go.RowKit Go.ChangeMaps Tk
set_option maxRecDepth 100000

theorem read38 : Tryz.prog.readableRec 38 = true := by kernel_rfl
theorem size38 : 38 < Tryz.prog.types.size := of_decide_eq_true (by kernel_rfl)
theorem cells3 : Tryz.prog.cellsOf 3 = 1 := by kernel_rfl
/-- A row of integers that is handed in. -/
theorem open_gaps {H : Type} {enc : TypeId × Value → H} {W : World} {base : Nat} {v : Value} {d : DataW H} {p : List MemPlace} {b0 : Nat} {held : Bool} (hval : Value.okWide Tryz.prog W .any base 38 v) (h : DataW.Trod enc Tryz.prog W b0 (fun _ => true) held 38 v d p)
    {ts : List TypeId} {ds : List (DataW H)} {j : Nat} (hsz : (DataW.weightsEach Tryz.prog ts ds).all (· ≤ reachBytes) = true) (hj1 : ts[j]? = some 38) (hj2 : ds[j]? = some d) :
    ∃ G gl gc, v = .slice G gl gc ∧ Nums W G gl ∧ gl ≤ 9223372036854775807 := by
  obtain ⟨A, len, cap, rfl⟩ := okWide_slice Tryz.underlying38 hval
  obtain ⟨fuel, hf⟩ := h
  rcases open_ints Tryz.underlying38 Tryz.underlying3 cells3 (by simpa [Value.cells] using hf) with ⟨hc, _⟩ | ⟨a, len', cap', zs, hc, _, hl, hm, hzl, hd, hcell, hwf⟩
  · simp only [List.cons.injEq, Value.slice.injEq, and_true] at hc
    obtain ⟨rfl, rfl, rfl⟩ := hc
    exact ⟨none, 0, 0, rfl, (fun i hi => by omega), by omega⟩
  · simp only [List.cons.injEq, Value.slice.injEq, and_true] at hc
    obtain ⟨rfl, rfl, rfl⟩ := hc
    have hz : zs.length = cap := by simpa using hzl
    have hd1 := congrArg Prod.fst hd
    simp only at hd1
    subst hd1
    have := sized_slice hsz (j := j) hj1 hj2 Tryz.underlying38
    rw [show Tryz.prog.bytesOf 3 = 8 by kernel_rfl] at this
    simp [lits] at this
    have hr := reachBytes_lt
    refine ⟨some a, len, cap, rfl, (fun i hi => ⟨a, _, rfl, hcell i (by omega)⟩), ?_⟩
    unfold reachBytes at this
    omega
theorem blanks_contract (H : Type) (enc : TypeId × Value → H) (W : World) (base : Nat) (args : Array Value) (ds gs : List (DataW H)) (before : List MemPlace)
    (hval : ∀ (j : Nat) t v, Tryz.f4.params[j]? = some t → args[j]? = some v → Value.okWide Tryz.prog W .any base t v)
    (hW : DataW.Whole enc Tryz.prog Tryz.f4.params.toList Rows.syntaxBlanksSpec.vars false W args.toList ds gs before)
    (hsz : (DataW.weightsEach Tryz.prog (Tryz.f4.params.toList ++ (Rows.OpenSpec.upto Rows.syntaxBlanksSpec).bare.plain.varTypes Tryz.prog) (ds ++ gs)).all (· ≤ reachBytes) = true)
    (hL : laidMetH Tryz.prog Rows.syntaxBlanksUptoRow.laid W) (hsh : W.ShapedOpen Tryz.prog) :
    Calls Tryz.prog 4 args W fun e W' => ∃ v, e = .returned v ∧ Rows.syntaxBlanksSpec.post enc Tryz.prog Tryz.f4 false true false false W args v W' := by
  have hW' := hW
  have hlt := hW.lt
  obtain ⟨p, q, hA0, hV, rfl, hfz, hnd⟩ := hW
  have hA : DataW.TrodAll enc Tryz.prog W 0 (fun _ => true) true Tryz.f4.params.toList args.toList ds p := hA0
  rw [Tryz.params4] at hA hval
  obtain ⟨v0, v1, d0, d1, p0, p1, rfl, rfl, rfl, h0, h1⟩ := trodAll_two hA
  obtain ⟨rfl, rfl⟩ := trodVars_none hV
  clear hA0
  obtain ⟨A, n, cap, xs, rfl, hS⟩ := open_txt (hval 0 22 v0 rfl rfl) h0 (j := 0) hsz rfl rfl
  obtain ⟨G, gl, gc, rfl, hG, hgl⟩ := open_gaps (hval 1 38 v1 rfl rfl) h1 (j := 1) hsz rfl rfl
  refine (blank_walk A n cap xs G gl gc W (env_of hL hsh) hS hG hgl).mono fun e W' ⟨he, hb⟩ => ?_
  subst he
  have h0' := hb.trod laidOut read22 size22 h0 (fun y hy => hlt y (by simp [hy]))
  have h1' := hb.trod laidOut read38 size38 h1 (fun y hy => hlt y (by simp [hy]))
  exact ⟨_, rfl, _, _, _, [], _, [], hW', trodAll_mk1 (shut_bool Tryz.underlying4 _), trodAll_mk2 h0' h1', rfl, hb.frame _, fun h => by cases h⟩
noncomputable def syntaxBlanks_world (os : Os) : World := World.laidAll Tryz.prog os Rows.syntaxBlanksUptoRow.laid
theorem syntaxBlanks_laid_met (os : Os) : laidMet Tryz.prog Rows.syntaxBlanksUptoRow.laid ((syntaxBlanks_world os).forCall (fun _ _ => 0) ⟨#[], #[.slice none 0 0, .slice none 0 0], []⟩).memory :=
  laidMet_laidAll _ (by kernel_rfl) (by kernel_rfl)
theorem syntaxBlanks_reads (os : Os) {H : Type} (enc : TypeId × Value → H) : ∃ places, DataW.whole enc Tryz.prog ((syntaxBlanks_world os).forCall (fun _ _ => 0) ⟨#[], #[.slice none 0 0, .slice none 0 0], []⟩).memory Tryz.f4.params.toList Rows.syntaxBlanksSpec.vars false (#[.slice none 0 0, .slice none 0 0] : Array Value).toList 8 = some ([.nil, .nil], [], places) :=
  ⟨[], by kernel_rfl⟩
theorem syntaxBlanks_lifted (os : Os) (started : os.Started) (H : Type) (enc : TypeId × Value → H) (F : Stop.Interp) :
    ReturnsInHanded {} Tryz.checked os 4 .any ((Rows.OpenSpec.upto Rows.syntaxBlanksSpec).preRow enc Tryz.prog Tryz.f4 Rows.syntaxBlanksUptoRow.domain false Rows.syntaxBlanksUptoRow.laid) (((Rows.OpenSpec.upto Rows.syntaxBlanksSpec).at F).post enc Tryz.prog Tryz.f4 false true false false) := by
  obtain ⟨places, hx⟩ := syntaxBlanks_reads os enc
  refine returnsInHanded_of_row (C := Tryz.checked) (s := Rows.OpenSpec.upto Rows.syntaxBlanksSpec) own started (by kernel_rfl) Tryz.func4
    (witness_row_at (enc := enc) (C := Tryz.checked) false (syntaxBlanks_world os) #[.slice none 0 0, .slice none 0 0] (World.laidAll_os _ _ _) (by kernel_rfl) (by kernel_rfl) (by kernel_rfl)
      (OpenSpec.preRow_of_cond 8 hx (by kernel_rfl) (fun k hk => by cases hk; kernel_rfl) (by kernel_rfl) (syntaxBlanks_laid_met os))) ?_
  intro W base args ds gs before hval hW _ _ hsz hL hsh _
  exact blanks_contract H enc W base args ds gs before hval hW hsz hL hsh
theorem syntaxBlanks_said : Rows.SyntaxBlanksUptoSaid :=
  OpenClaim.holds_of_cond 4 Tryz.f4 rfl rfl rfl rfl rfl rfl rfl ⟨rfl, rfl, rfl, rfl, rfl⟩ rfl rfl rfl rfl rfl (by kernel_rfl) Tryz.func4 (by kernel_rfl)
    (of_decide_eq_true (by kernel_rfl)) (by unfold Func.isWrapper; first | (rw [if_pos (by decide +kernel)]; kernel_rfl) | (rw [if_neg (by decide +kernel)]; exact ⟨rfl, rfl⟩))
    (fun os started H enc _ F => by rw [OpenClaim.pre_eq_preRow]; exact syntaxBlanks_lifted os started H enc F)
theorem syntaxBlanks_plain (f : FuncId) (fn : Func) (hf : Tryz.pinned.checked.prog.funcNamed "gimbal/gimballaw04.SyntaxBlanks" = some f) (hfn : Tryz.pinned.checked.prog.funcs[f]? = some fn) :
    true = Tryz.pinned.checked.prog.looks [] ∧ ∀ (j : Nat) t, fn.params[j]? = some t → Tryz.pinned.checked.prog.wantsStandIn t = false := by
  obtain rfl : f = 4 := Option.some.inj ((show Tryz.prog.funcNamed "gimbal/gimballaw04.SyntaxBlanks" = some 4 by kernel_rfl).symm.trans hf) |>.symm
  obtain rfl : fn = Tryz.f4 := (Option.some.inj (Tryz.func4.symm.trans hfn)).symm
  refine ⟨by kernel_rfl, fun j t ht => ?_⟩
  rw [Tryz.params4] at ht
  have hts : t = 22 ∨ t = 38 := by simpa using Array.mem_of_getElem? ht
  rcases hts with rfl | rfl
  · exact (show Tryz.prog.wantsStandIn 22 = false by kernel_rfl)
  · exact (show Tryz.prog.wantsStandIn 38 = false by kernel_rfl)

/-- The card. -/
theorem syntaxBlanks_card : Rows.SyntaxBlanksUptoCardSaid :=
  Claim7.holds_tied_plain_at .later [] _ _ _ _ syntaxBlanks_said (fun _ h => by cases h) (by kernel_rfl) (fun _ h => by cases h) syntaxBlanksUpto_row_tie rfl ⟨rfl, rfl⟩ (by kernel_rfl) rfl syntaxBlanks_plain (by kernel_rfl)
end Go.Proofs.YtgaoapnaplgaiaaGreatDoor.Sc
namespace Go.Proofs.YtgaoapnaplgaiaaGreatDoor
theorem SyntaxBlanks_holds : Rows.SyntaxBlanksUptoCardSaid := Sc.syntaxBlanks_card
end Go.Proofs.YtgaoapnaplgaiaaGreatDoor

