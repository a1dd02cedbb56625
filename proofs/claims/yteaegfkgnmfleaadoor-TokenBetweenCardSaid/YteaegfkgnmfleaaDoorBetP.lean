/-
  gimballaw03.TokenBetween returns true, whatever the bytes, in every world in which the table of words reads as listed: the row, and its card (the table tied to the program's text). No further condition.
-/
import Derived.Test.YteaegfkgnmfleaaDoorBetP21
import Derived.Test.YteaegfkgnmfleaaDoorBetP22
import Derived.ProofKit
import Derived.Carry
import Derived.HandedShaped
import Derived.Lay
namespace Go.Proofs.YteaegfkgnmfleaaDoor.Sc
open Go.ChangeShapes Go.WideShapes Go.ChangeAt Go.RowKit Go.ChangeMaps Tk
set_option maxRecDepth 100000

theorem laidOut : laidOutB Tryd.prog = true := by kernel_rfl
theorem read25 : Tryd.prog.readableRec 25 = true := by kernel_rfl
theorem size25 : 25 < Tryd.prog.types.size := of_decide_eq_true (by kernel_rfl)
theorem cells5 : Tryd.prog.cellsOf 5 = 1 := by kernel_rfl
theorem u8_of {n : Int} (wi : (Lit.int .u8 n).wf = true) : Byte n := by
  simp only [Lit.wf, Bool.and_eq_true, decide_eq_true_eq] at wi
  have hmin : IntKind.u8.min = 0 := by decide +kernel
  have hmax : IntKind.u8.max = 255 := by decide +kernel
  unfold Byte
  omega
theorem has_lt {P : Program} {w : World} {r : Reach} {base : Nat} {a : Addr} {e : TypeId} {n : Nat} (h : w.has P r base a e n) : a.block < w.heap.size := by
  obtain ⟨_, _, row, cells, h, _⟩ := h
  rcases Nat.lt_or_ge a.block w.heap.size with h' | h'
  · exact h'
  · unfold World.shape? at h
    rw [Array.getElem?_eq_none h'] at h
    cases h
/-- The library's own variable holds some number. -/
theorem env_of {W : World} {rest : List (String × DataW Unit)} (hL : laidMet Tryd.prog (("gimbal/token.words", Rows.laid_gimbal_token_words) :: rest) W) (hsh : W.ShapedOpen Tryd.prog) : Env W :=
  ⟨hasTab hL, Go.Proofs.cell_of_shapedOpen_int (P := Tryd.prog) (g := 1) (zero := #[.int .i64 0]) (t := 3) hsh (of_decide_eq_true (by kernel_rfl)) (by kernel_rfl) rfl (by kernel_rfl) (by kernel_rfl) Tryd.underlying3⟩
/-- A row of bytes that is handed in. -/
theorem open_bytes {H : Type} {enc : TypeId × Value → H} {W : World} {base : Nat} {v : Value} {d : DataW H} {p : List MemPlace} {b0 : Nat} {held : Bool} (hval : Value.okWide Tryd.prog W .any base 25 v) (h : DataW.Trod enc Tryd.prog W b0 (fun _ => true) held 25 v d p) :
    ∃ A n cap xs, v = .slice A n cap ∧ n ≤ cap ∧ xs.length = n ∧ n ≤ 9223372036854775807 ∧ (∀ c ∈ xs, Byte c) ∧ Lies W A n xs ∧ ∀ a, A = some a → a.block < W.heap.size := by
  obtain ⟨A, len, cap, rfl⟩ := okWide_slice Tryd.underlying25 hval
  obtain ⟨fuel, hf⟩ := h
  rcases open_ints Tryd.underlying25 Tryd.underlying5 cells5 (by simpa [Value.cells] using hf) with ⟨hc, _⟩ | ⟨a, len', cap', zs, hc, _, hl, hm, hzl, _, hcell, hwf⟩
  · simp only [List.cons.injEq, Value.slice.injEq, and_true] at hc
    obtain ⟨rfl, rfl, rfl⟩ := hc
    exact ⟨none, 0, 0, [], rfl, by omega, rfl, by omega, by simp, fun i hi => by omega, fun a e => by cases e⟩
  · simp only [List.cons.injEq, Value.slice.injEq, and_true] at hc
    obtain ⟨rfl, rfl, rfl⟩ := hc
    have hz : zs.length = cap := by simpa using hzl
    have hb : a.block < W.heap.size := by
      have h := hval
      simp only [Value.okWide, Cell.okWide, Cell.ok, Tryd.underlying25] at h
      exact has_lt h.2.2
    refine ⟨some a, len, cap, zs.take len, rfl, hl, by rw [List.length_take]; omega, by unfold maxLen at hm; omega, fun c hc => u8_of (hwf c (List.mem_of_mem_take hc)), fun i hi => ⟨a, rfl, ?_⟩, fun a' e => by cases e; exact hb⟩
    rw [hcell i (by omega)]
    simp [List.getD, hi]

theorem bet_contract (H : Type) (enc : TypeId × Value → H) (W : World) (base : Nat) (args : Array Value) (ds gs : List (DataW H)) (before : List MemPlace)
    (hval : ∀ (j : Nat) t v, Tryd.f5.params[j]? = some t → args[j]? = some v → Value.okWide Tryd.prog W .any base t v)
    (hW : DataW.Whole enc Tryd.prog Tryd.f5.params.toList Rows.tokenBetweenSpec.vars false W args.toList ds gs before) (hL : laidMetH Tryd.prog Rows.tokenBetweenRow.laid W) (hsh : W.ShapedOpen Tryd.prog) :
    Calls Tryd.prog 5 args W fun e W' => ∃ v, e = .returned v ∧ Rows.tokenBetweenSpec.post enc Tryd.prog Tryd.f5 false true false false W args v W' := by
  have hW' := hW
  have hlt := hW.lt
  obtain ⟨p, q, hA0, hV, rfl, hfz, hnd⟩ := hW
  have hA : DataW.TrodAll enc Tryd.prog W 0 (fun _ => true) true Tryd.f5.params.toList args.toList ds p := hA0
  rw [Tryd.params5] at hA hval
  obtain ⟨v0, d0, rfl, rfl, h0⟩ := trodAll_one hA
  obtain ⟨rfl, rfl⟩ := trodVars_none hV
  clear hA0
  obtain ⟨A, n, cap, xs, rfl, hcap, hx, hn, hB, hLi, hAb⟩ := open_bytes (hval 0 25 v0 rfl rfl) h0
  refine (bet_walk W hcap hx hn hB (env_of hL hsh) hLi hAb).mono fun e W' ⟨he, hb⟩ => ?_
  subst he
  have h0' := hb.trod laidOut read25 size25 h0 (fun y hy => hlt y (by simp [hy]))
  exact ⟨_, rfl, _, _, _, [], _, [], hW', trodAll_mk1 (shut_bool Tryd.underlying4 _), trodAll_mk1 h0', rfl, hb.frame _, fun h => by cases h⟩
noncomputable def tokenBetween_world (os : Os) : World := World.laidAll Tryd.prog os Rows.tokenBetweenRow.laid
theorem tokenBetween_laid_met (os : Os) : laidMet Tryd.prog Rows.tokenBetweenRow.laid ((tokenBetween_world os).forCall (fun _ _ => 0) ⟨#[], #[.slice none 0 0], []⟩).memory :=
  laidMet_laidAll _ (by kernel_rfl) (by kernel_rfl)
theorem tokenBetween_reads (os : Os) {H : Type} (enc : TypeId × Value → H) : ∃ places, DataW.whole enc Tryd.prog ((tokenBetween_world os).forCall (fun _ _ => 0) ⟨#[], #[.slice none 0 0], []⟩).memory Tryd.f5.params.toList Rows.tokenBetweenSpec.vars false (#[.slice none 0 0] : Array Value).toList 8 = some ([.nil], [], places) :=
  ⟨[], by kernel_rfl⟩
theorem tokenBetween_lifted (os : Os) (started : os.Started) (H : Type) (enc : TypeId × Value → H) (F : Stop.Interp) :
    ReturnsInHanded {} Tryd.checked os 5 .any ((OpenSpec.ofChange Rows.tokenBetweenSpec).preRow enc Tryd.prog Tryd.f5 Rows.tokenBetweenRow.domain false Rows.tokenBetweenRow.laid) (((OpenSpec.ofChange Rows.tokenBetweenSpec).at F).post enc Tryd.prog Tryd.f5 false true false false) := by
  obtain ⟨places, hx⟩ := tokenBetween_reads os enc
  refine returnsInHanded_of_row (C := Tryd.checked) (s := OpenSpec.ofChange Rows.tokenBetweenSpec) own started (by kernel_rfl) Tryd.func5
    (witness_row_at (enc := enc) (C := Tryd.checked) false (tokenBetween_world os) #[.slice none 0 0] (World.laidAll_os _ _ _) (by kernel_rfl) (by kernel_rfl) (by kernel_rfl)
      (OpenSpec.preRow_of_cond 8 hx (by kernel_rfl) (fun k hk => by cases hk) (by kernel_rfl) (tokenBetween_laid_met os))) ?_
  intro W base args ds gs before hval hW _ _ _ hL hsh _
  exact bet_contract H enc W base args ds gs before hval hW hL hsh
theorem tokenBetween_said : Rows.TokenBetweenSaid :=
  OpenClaim.holds_of_cond 5 Tryd.f5 rfl rfl rfl rfl rfl rfl rfl ⟨rfl, rfl, rfl, rfl, rfl⟩ rfl rfl rfl rfl rfl (by kernel_rfl) Tryd.func5 (by kernel_rfl)
    (of_decide_eq_true (by kernel_rfl)) (by unfold Func.isWrapper; first | (rw [if_pos (by decide +kernel)]; kernel_rfl) | (rw [if_neg (by decide +kernel)]; exact ⟨rfl, rfl⟩))
    (fun os started H enc _ F => by rw [OpenClaim.pre_eq_preRow]; exact tokenBetween_lifted os started H enc F)
theorem tokenBetween_plain (f : FuncId) (fn : Func) (hf : Tryd.pinned.checked.prog.funcNamed "gimbal/gimballaw03.TokenBetween" = some f) (hfn : Tryd.pinned.checked.prog.funcs[f]? = some fn) :
    false = Tryd.pinned.checked.prog.looks [] ∧ ∀ (j : Nat) t, fn.params[j]? = some t → Tryd.pinned.checked.prog.wantsStandIn t = false := by
  obtain rfl : f = 5 := Option.some.inj ((show Tryd.prog.funcNamed "gimbal/gimballaw03.TokenBetween" = some 5 by kernel_rfl).symm.trans hf) |>.symm
  obtain rfl : fn = Tryd.f5 := (Option.some.inj (Tryd.func5.symm.trans hfn)).symm
  refine ⟨by kernel_rfl, fun j t ht => ?_⟩
  rw [Tryd.params5] at ht
  obtain rfl : t = 25 := by simpa using Array.mem_of_getElem? ht
  exact (show Tryd.prog.wantsStandIn 25 = false by kernel_rfl)

/-- The card. -/
theorem tokenBetween_card : Rows.TokenBetweenCardSaid :=
  Claim7.holds_tied_plain_at .later [] _ _ _ _ tokenBetween_said (fun _ h => by cases h) (by kernel_rfl) (fun _ h => by cases h) tokenBetween_row_tie rfl ⟨rfl, rfl⟩ (by kernel_rfl) rfl tokenBetween_plain (by kernel_rfl)
end Go.Proofs.YteaegfkgnmfleaaDoor.Sc
namespace Go.Proofs.YteaegfkgnmfleaaDoor
theorem TokenBetween_holds : Rows.TokenBetweenCardSaid := Sc.tokenBetween_card
end Go.Proofs.YteaegfkgnmfleaaDoor

