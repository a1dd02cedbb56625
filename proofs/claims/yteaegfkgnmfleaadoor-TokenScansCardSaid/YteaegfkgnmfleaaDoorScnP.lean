/-
  gimballaw03.TokenScans returns true, whatever the bytes, in every world in which the table of words reads as listed: the row, and its card (the table tied to the program's text). No further condition.
-/
import Derived.Test.YteaegfkgnmfleaaDoorScnP32
import Derived.Test.YteaegfkgnmfleaaDoorScnP34
import Derived.SizedLaws
namespace Go.Proofs.YteaegfkgnmfleaaDoor.Sc
open Go.ChangeShapes Go.WideShapes Go.ChangeAt Go.RowKit Go.ChangeMaps Tk
set_option maxRecDepth 100000

/-- How long a row of bytes that is handed in may be. -/
theorem bytes_reach {H : Type} {enc : TypeId × Value → H} {W : World} {A : Option Addr} {n cap : Nat} {d : DataW H} {p : List MemPlace} {b0 : Nat} {held : Bool} (h : DataW.Trod enc Tryd.prog W b0 (fun _ => true) held 25 (.slice A n cap) d p)
    (hsz : (DataW.weightsEach Tryd.prog [25] [d]).all (· ≤ reachBytes) = true) : n + 2 ≤ 140737488355328 ∧ (A = none → n = 0 ∧ cap = 0) := by
  obtain ⟨fuel, hf⟩ := h
  rcases open_ints Tryd.underlying25 Tryd.underlying5 cells5 (by simpa [Value.cells] using hf) with ⟨hc, _⟩ | ⟨a, len', cap', zs, hc, _, hl, hm, hzl, hd, hcell, hwf⟩
  · simp only [List.cons.injEq, Value.slice.injEq, and_true] at hc
    obtain ⟨rfl, rfl, rfl⟩ := hc
    exact ⟨by omega, fun _ => ⟨rfl, rfl⟩⟩
  · simp only [List.cons.injEq, Value.slice.injEq, and_true] at hc
    obtain ⟨rfl, rfl, rfl⟩ := hc
    have hz : zs.length = cap := by simpa using hzl
    have hd1 := congrArg Prod.fst hd
    simp only at hd1
    subst hd1
    have := sized_slice hsz (j := 0) rfl rfl Tryd.underlying25
    rw [show Tryd.prog.bytesOf 5 = 1 by kernel_rfl] at this
    simp [lits] at this
    have hr := reachBytes_lt
    refine ⟨?_, fun e => by cases e⟩
    unfold reachBytes at this
    omega
theorem scn_contract (H : Type) (enc : TypeId × Value → H) (W : World) (base : Nat) (args : Array Value) (ds gs : List (DataW H)) (before : List MemPlace)
    (hval : ∀ (j : Nat) t v, Tryd.f4.params[j]? = some t → args[j]? = some v → Value.okWide Tryd.prog W .any base t v)
    (hW : DataW.Whole enc Tryd.prog Tryd.f4.params.toList Rows.tokenScansSpec.vars false W args.toList ds gs before)
    (hsz : (DataW.weightsEach Tryd.prog (Tryd.f4.params.toList ++ (OpenSpec.ofChange Rows.tokenScansSpec).bare.plain.varTypes Tryd.prog) (ds ++ gs)).all (· ≤ reachBytes) = true)
    (hL : laidMetH Tryd.prog Rows.tokenScansRow.laid W) (hsh : W.ShapedOpen Tryd.prog) :
    Calls Tryd.prog 4 args W fun e W' => ∃ v, e = .returned v ∧ Rows.tokenScansSpec.post enc Tryd.prog Tryd.f4 false true false false W args v W' := by
  have hW' := hW
  have hlt := hW.lt
  obtain ⟨p, q, hA0, hV, rfl, hfz, hnd⟩ := hW
  have hA : DataW.TrodAll enc Tryd.prog W 0 (fun _ => true) true Tryd.f4.params.toList args.toList ds p := hA0
  rw [Tryd.params4] at hA hval
  obtain ⟨v0, d0, rfl, rfl, h0⟩ := trodAll_one hA
  obtain ⟨rfl, rfl⟩ := trodVars_none hV
  clear hA0
  obtain ⟨A, n, cap, xs, rfl, hcap, hx, hn, hB, hLi, hAb⟩ := open_bytes (hval 0 25 v0 rfl rfl) h0
  obtain ⟨hn2, hAn⟩ := bytes_reach h0 hsz
  refine (scn_walk W hcap hx hn2 hB (env_of hL hsh) hLi hAb hAn).mono fun e W' ⟨he, hb⟩ => ?_
  subst he
  have h0' := hb.trod laidOut read25 size25 h0 (fun y hy => hlt y (by simp [hy]))
  exact ⟨_, rfl, _, _, _, [], _, [], hW', trodAll_mk1 (shut_bool Tryd.underlying4 _), trodAll_mk1 h0', rfl, hb.frame _, fun h => by cases h⟩
noncomputable def tokenScans_world (os : Os) : World := World.laidAll Tryd.prog os Rows.tokenScansRow.laid
theorem tokenScans_laid_met (os : Os) : laidMet Tryd.prog Rows.tokenScansRow.laid ((tokenScans_world os).forCall (fun _ _ => 0) ⟨#[], #[.slice none 0 0], []⟩).memory :=
  laidMet_laidAll _ (by kernel_rfl) (by kernel_rfl)
theorem tokenScans_reads (os : Os) {H : Type} (enc : TypeId × Value → H) : ∃ places, DataW.whole enc Tryd.prog ((tokenScans_world os).forCall (fun _ _ => 0) ⟨#[], #[.slice none 0 0], []⟩).memory Tryd.f4.params.toList Rows.tokenScansSpec.vars false (#[.slice none 0 0] : Array Value).toList 8 = some ([.nil], [], places) :=
  ⟨[], by kernel_rfl⟩
theorem tokenScans_lifted (os : Os) (started : os.Started) (H : Type) (enc : TypeId × Value → H) (F : Stop.Interp) :
    ReturnsInHanded {} Tryd.checked os 4 .any ((OpenSpec.ofChange Rows.tokenScansSpec).preRow enc Tryd.prog Tryd.f4 Rows.tokenScansRow.domain false Rows.tokenScansRow.laid) (((OpenSpec.ofChange Rows.tokenScansSpec).at F).post enc Tryd.prog Tryd.f4 false true false false) := by
  obtain ⟨places, hx⟩ := tokenScans_reads os enc
  refine returnsInHanded_of_row (C := Tryd.checked) (s := OpenSpec.ofChange Rows.tokenScansSpec) own started (by kernel_rfl) Tryd.func4
    (witness_row_at (enc := enc) (C := Tryd.checked) false (tokenScans_world os) #[.slice none 0 0] (World.laidAll_os _ _ _) (by kernel_rfl) (by kernel_rfl) (by kernel_rfl)
      (OpenSpec.preRow_of_cond 8 hx (by kernel_rfl) (fun k hk => by cases hk) (by kernel_rfl) (tokenScans_laid_met os))) ?_
  intro W base args ds gs before hval hW _ _ hsz hL hsh _
  exact scn_contract H enc W base args ds gs before hval hW hsz hL hsh
theorem tokenScans_said : Rows.TokenScansSaid :=
  OpenClaim.holds_of_cond 4 Tryd.f4 rfl rfl rfl rfl rfl rfl rfl ⟨rfl, rfl, rfl, rfl, rfl⟩ rfl rfl rfl rfl rfl (by kernel_rfl) Tryd.func4 (by kernel_rfl)
    (of_decide_eq_true (by kernel_rfl)) (by unfold Func.isWrapper; first | (rw [if_pos (by decide +kernel)]; kernel_rfl) | (rw [if_neg (by decide +kernel)]; exact ⟨rfl, rfl⟩))
    (fun os started H enc _ F => by rw [OpenClaim.pre_eq_preRow]; exact tokenScans_lifted os started H enc F)
theorem tokenScans_plain (f : FuncId) (fn : Func) (hf : Tryd.pinned.checked.prog.funcNamed "gimbal/gimballaw03.TokenScans" = some f) (hfn : Tryd.pinned.checked.prog.funcs[f]? = some fn) :
    false = Tryd.pinned.checked.prog.looks [] ∧ ∀ (j : Nat) t, fn.params[j]? = some t → Tryd.pinned.checked.prog.wantsStandIn t = false := by
  obtain rfl : f = 4 := Option.some.inj ((show Tryd.prog.funcNamed "gimbal/gimballaw03.TokenScans" = some 4 by kernel_rfl).symm.trans hf) |>.symm
  obtain rfl : fn = Tryd.f4 := (Option.some.inj (Tryd.func4.symm.trans hfn)).symm
  refine ⟨by kernel_rfl, fun j t ht => ?_⟩
  rw [Tryd.params4] at ht
  obtain rfl : t = 25 := by simpa using Array.mem_of_getElem? ht
  exact (show Tryd.prog.wantsStandIn 25 = false by kernel_rfl)

/-- The card. -/
theorem tokenScans_card : Rows.TokenScansCardSaid :=
  Claim7.holds_tied_plain_at .later [] _ _ _ _ tokenScans_said (fun _ h => by cases h) (by kernel_rfl) (fun _ h => by cases h) tokenScans_row_tie rfl ⟨rfl, rfl⟩ (by kernel_rfl) rfl tokenScans_plain (by kernel_rfl)
end Go.Proofs.YteaegfkgnmfleaaDoor.Sc
namespace Go.Proofs.YteaegfkgnmfleaaDoor
theorem TokenScans_holds : Rows.TokenScansCardSaid := Sc.tokenScans_card
end Go.Proofs.YteaegfkgnmfleaaDoor

