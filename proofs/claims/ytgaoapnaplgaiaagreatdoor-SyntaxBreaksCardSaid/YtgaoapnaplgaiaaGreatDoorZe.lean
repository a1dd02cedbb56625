/-
  gimballaw04.SyntaxBreaks returns true, whatever the two rows of bytes, in every world in which the tables read as listed: the row, and its card (the tables tied to the program's text). No further condition.
-/
import Derived.Test.YtgaoapnaplgaiaaGreatDoorZe50
import Derived.Test.YtgaoapnaplgaiaaGreatDoorZe51
import Derived.SizedLaws
namespace Go.Proofs.YtgaoapnaplgaiaaGreatDoor.Sc
open Go.ChangeShapes Go.WideShapes Go.ChangeAt Go.RowKit Go.ChangeMaps Tk
set_option maxRecDepth 100000

theorem laidOut : laidOutB Tryz.prog = true := by kernel_rfl
theorem read22 : Tryz.prog.readableRec 22 = true := by kernel_rfl
theorem size22 : 22 < Tryz.prog.types.size := of_decide_eq_true (by kernel_rfl)
theorem cells5 : Tryz.prog.cellsOf 5 = 1 := by kernel_rfl
theorem u8_of {n : Int} (wi : (Lit.int .u8 n).wf = true) : Byte n := by
  simp only [Lit.wf, Bool.and_eq_true, decide_eq_true_eq] at wi
  have hmin : IntKind.u8.min = 0 := by decide +kernel
  have hmax : IntKind.u8.max = 255 := by decide +kernel
  unfold Byte
  omega
theorem has_lt {P : Program} {w : World} {r : Reach} {base : Nat} {a : Addr} {e : TypeId} {n : Nat} (h : w.has P r base a e n) : a.block < w.heap.size := by
  obtain ⟨_, _, row, cells, h, _⟩ := h
  rcases Nat.lt_or_ge a.block w.heap.size with h' | h'
  · exact h'
  · unfold World.shape? at h
    rw [Array.getElem?_eq_none h'] at h
    cases h
/-- A row of bytes that is handed in. -/
theorem open_txt {H : Type} {enc : TypeId × Value → H} {W : World} {base : Nat} {v : Value} {d : DataW H} {p : List MemPlace} {b0 : Nat} {held : Bool} (hval : Value.okWide Tryz.prog W .any base 22 v) (h : DataW.Trod enc Tryz.prog W b0 (fun _ => true) held 22 v d p)
    {ts : List TypeId} {ds : List (DataW H)} {j : Nat} (hsz : (DataW.weightsEach Tryz.prog ts ds).all (· ≤ reachBytes) = true) (hj1 : ts[j]? = some 22) (hj2 : ds[j]? = some d) :
    ∃ A n cap xs, v = .slice A n cap ∧ Txt A n cap xs W := by
  obtain ⟨A, len, cap, rfl⟩ := okWide_slice Tryz.underlying22 hval
  obtain ⟨fuel, hf⟩ := h
  rcases open_ints Tryz.underlying22 Tryz.underlying5 cells5 (by simpa [Value.cells] using hf) with ⟨hc, _⟩ | ⟨a, len', cap', zs, hc, _, hl, hm, hzl, hd, hcell, hwf⟩
  · simp only [List.cons.injEq, Value.slice.injEq, and_true] at hc
    obtain ⟨rfl, rfl, rfl⟩ := hc
    exact ⟨none, 0, 0, [], rfl, ⟨by omega, rfl, by simp, (fun i hi => by omega), (fun a e => by cases e), by omega, fun _ => ⟨rfl, rfl⟩⟩⟩
  · simp only [List.cons.injEq, Value.slice.injEq, and_true] at hc
    obtain ⟨rfl, rfl, rfl⟩ := hc
    have hz : zs.length = cap := by simpa using hzl
    have hb : a.block < W.heap.size := by
      have h := hval
      simp only [Value.okWide, Cell.okWide, Cell.ok, Tryz.underlying22] at h
      exact has_lt h.2.2
    have hd1 := congrArg Prod.fst hd
    simp only at hd1
    subst hd1
    have := sized_slice hsz (j := j) hj1 hj2 Tryz.underlying22
    rw [show Tryz.prog.bytesOf 5 = 1 by kernel_rfl] at this
    simp [lits] at this
    have hr := reachBytes_lt
    refine ⟨some a, len, cap, zs.take len, rfl, ⟨hl, by rw [List.length_take]; omega, (fun c hc => u8_of (hwf c (List.mem_of_mem_take hc))), (fun i hi => ⟨a, rfl, ?_⟩), (fun a' e => by cases e; exact hb), ?_, (fun e => by cases e)⟩⟩
    · rw [hcell i (by omega)]
      simp [List.getD, hi]
    · unfold reachBytes at this
      omega
theorem brk_contract (H : Type) (enc : TypeId × Value → H) (W : World) (base : Nat) (args : Array Value) (ds gs : List (DataW H)) (before : List MemPlace)
    (hval : ∀ (j : Nat) t v, Tryz.f5.params[j]? = some t → args[j]? = some v → Value.okWide Tryz.prog W .any base t v)
    (hW : DataW.Whole enc Tryz.prog Tryz.f5.params.toList Rows.syntaxBreaksSpec.vars false W args.toList ds gs before)
    (hsz : (DataW.weightsEach Tryz.prog (Tryz.f5.params.toList ++ (OpenSpec.ofChange Rows.syntaxBreaksSpec).bare.plain.varTypes Tryz.prog) (ds ++ gs)).all (· ≤ reachBytes) = true)
    (hL : laidMetH Tryz.prog Rows.syntaxBreaksRow.laid W) (hsh : W.ShapedOpen Tryz.prog) :
    Calls Tryz.prog 5 args W fun e W' => ∃ v, e = .returned v ∧ Rows.syntaxBreaksSpec.post enc Tryz.prog Tryz.f5 false true false false W args v W' := by
  have hW' := hW
  have hlt := hW.lt
  obtain ⟨p, q, hA0, hV, rfl, hfz, hnd⟩ := hW
  have hA : DataW.TrodAll enc Tryz.prog W 0 (fun _ => true) true Tryz.f5.params.toList args.toList ds p := hA0
  rw [Tryz.params5] at hA hval
  obtain ⟨v0, v1, d0, d1, p0, p1, rfl, rfl, rfl, h0, h1⟩ := trodAll_two hA
  obtain ⟨rfl, rfl⟩ := trodVars_none hV
  clear hA0
  obtain ⟨A, n, cap, xs, rfl, hS⟩ := open_txt (hval 0 22 v0 rfl rfl) h0 (j := 0) hsz rfl rfl
  obtain ⟨B, m, c2, ys, rfl, hM⟩ := open_txt (hval 1 22 v1 rfl rfl) h1 (j := 1) hsz rfl rfl
  refine (brk_walk A n cap xs B m c2 ys W (env_of hL hsh) hS hM).mono fun e W' ⟨he, hb⟩ => ?_
  subst he
  have h0' := hb.trod laidOut read22 size22 h0 (fun y hy => hlt y (by simp [hy]))
  have h1' := hb.trod laidOut read22 size22 h1 (fun y hy => hlt y (by simp [hy]))
  exact ⟨_, rfl, _, _, _, [], _, [], hW', trodAll_mk1 (shut_bool Tryz.underlying4 _), trodAll_mk2 h0' h1', rfl, hb.frame _, fun h => by cases h⟩
noncomputable def syntaxBreaks_world (os : Os) : World := World.laidAll Tryz.prog os Rows.syntaxBreaksRow.laid
theorem syntaxBreaks_laid_met (os : Os) : laidMet Tryz.prog Rows.syntaxBreaksRow.laid ((syntaxBreaks_world os).forCall (fun _ _ => 0) ⟨#[], #[.slice none 0 0, .slice none 0 0], []⟩).memory :=
  laidMet_laidAll _ (by kernel_rfl) (by kernel_rfl)
theorem syntaxBreaks_reads (os : Os) {H : Type} (enc : TypeId × Value → H) : ∃ places, DataW.whole enc Tryz.prog ((syntaxBreaks_world os).forCall (fun _ _ => 0) ⟨#[], #[.slice none 0 0, .slice none 0 0], []⟩).memory Tryz.f5.params.toList Rows.syntaxBreaksSpec.vars false (#[.slice none 0 0, .slice none 0 0] : Array Value).toList 8 = some ([.nil, .nil], [], places) :=
  ⟨[], by kernel_rfl⟩
theorem syntaxBreaks_lifted (os : Os) (started : os.Started) (H : Type) (enc : TypeId × Value → H) (F : Stop.Interp) :
    ReturnsInHanded {} Tryz.checked os 5 .any ((OpenSpec.ofChange Rows.syntaxBreaksSpec).preRow enc Tryz.prog Tryz.f5 Rows.syntaxBreaksRow.domain false Rows.syntaxBreaksRow.laid) (((OpenSpec.ofChange Rows.syntaxBreaksSpec).at F).post enc Tryz.prog Tryz.f5 false true false false) := by
  obtain ⟨places, hx⟩ := syntaxBreaks_reads os enc
  refine returnsInHanded_of_row (C := Tryz.checked) (s := OpenSpec.ofChange Rows.syntaxBreaksSpec) own started (by kernel_rfl) Tryz.func5
    (witness_row_at (enc := enc) (C := Tryz.checked) false (syntaxBreaks_world os) #[.slice none 0 0, .slice none 0 0] (World.laidAll_os _ _ _) (by kernel_rfl) (by kernel_rfl) (by kernel_rfl)
      (OpenSpec.preRow_of_cond 8 hx (by kernel_rfl) (fun k hk => by cases hk) (by kernel_rfl) (syntaxBreaks_laid_met os))) ?_
  intro W base args ds gs before hval hW _ _ hsz hL hsh _
  exact brk_contract H enc W base args ds gs before hval hW hsz hL hsh
theorem syntaxBreaks_said : Rows.SyntaxBreaksSaid :=
  OpenClaim.holds_of_cond 5 Tryz.f5 rfl rfl rfl rfl rfl rfl rfl ⟨rfl, rfl, rfl, rfl, rfl⟩ rfl rfl rfl rfl rfl (by kernel_rfl) Tryz.func5 (by kernel_rfl)
    (of_decide_eq_true (by kernel_rfl)) (by unfold Func.isWrapper; first | (rw [if_pos (by decide +kernel)]; kernel_rfl) | (rw [if_neg (by decide +kernel)]; exact ⟨rfl, rfl⟩))
    (fun os started H enc _ F => by rw [OpenClaim.pre_eq_preRow]; exact syntaxBreaks_lifted os started H enc F)
theorem syntaxBreaks_plain (f : FuncId) (fn : Func) (hf : Tryz.pinned.checked.prog.funcNamed "gimbal/gimballaw04.SyntaxBreaks" = some f) (hfn : Tryz.pinned.checked.prog.funcs[f]? = some fn) :
    true = Tryz.pinned.checked.prog.looks [] ∧ ∀ (j : Nat) t, fn.params[j]? = some t → Tryz.pinned.checked.prog.wantsStandIn t = false := by
  obtain rfl : f = 5 := Option.some.inj ((show Tryz.prog.funcNamed "gimbal/gimballaw04.SyntaxBreaks" = some 5 by kernel_rfl).symm.trans hf) |>.symm
  obtain rfl : fn = Tryz.f5 := (Option.some.inj (Tryz.func5.symm.trans hfn)).symm
  refine ⟨by kernel_rfl, fun j t ht => ?_⟩
  rw [Tryz.params5] at ht
  obtain rfl : t = 22 := by simpa using Array.mem_of_getElem? ht
  exact (show Tryz.prog.wantsStandIn 22 = false by kernel_rfl)

/-- The card. -/
theorem syntaxBreaks_card : Rows.SyntaxBreaksCardSaid :=
  Claim7.holds_tied_plain_at .later [] _ _ _ _ syntaxBreaks_said (fun _ h => by cases h) (by kernel_rfl) (fun _ h => by cases h) syntaxBreaks_row_tie rfl ⟨rfl, rfl⟩ (by kernel_rfl) rfl syntaxBreaks_plain (by kernel_rfl)
end Go.Proofs.YtgaoapnaplgaiaaGreatDoor.Sc
namespace Go.Proofs.YtgaoapnaplgaiaaGreatDoor
theorem SyntaxBreaks_holds : Rows.SyntaxBreaksCardSaid := Sc.syntaxBreaks_card
end Go.Proofs.YtgaoapnaplgaiaaGreatDoor

