/-
  gimballaw03.TokenBack returns true, whatever the pieces, where the pieces and the table are together of bulk at most 1048576, in every world in which the table of words reads as listed: the second form's row, and its card (the table tied to the program's text). No further condition.
-/
import Derived.Test.YteaegfkgnmfleaaDoorBakP33
import Derived.Test.YteaegfkgnmfleaaDoorBakP35
import Derived.Deep.Slices
import Derived.Deep.Strs
namespace Go.Proofs.YteaegfkgnmfleaaDoor.Sc
open Go.ChangeShapes Go.WideShapes Go.ChangeAt Go.RowKit Go.ChangeMaps Tk Go.Deep Go.Proofs.YteaegfkgnmfleaaDoorW
set_option maxRecDepth 100000

theorem bulk_one {H : Type} (d : DataW H) : 1 ≤ Rows.uptoBulk d := by
  cases d with
  | lit l => cases l <;> simp [Rows.uptoBulk]
  | nil => simp [Rows.uptoBulk]
  | ptr d => simp [Rows.uptoBulk]
  | slice elems spare => simp [Rows.uptoBulk]
  | agg parts => simp [Rows.uptoBulk]
  | iface t d => simp [Rows.uptoBulk]
  | map entries => simp [Rows.uptoBulk]
  | held h => simp [Rows.uptoBulk]
theorem bulk_part {H : Type} {d : DataW H} {l : List (DataW H)} (h : d ∈ l) : Rows.uptoBulk d ≤ Rows.uptoBulkAll l := by
  induction l with
  | nil => cases h
  | cons x r ih =>
    simp only [Rows.uptoBulkAll]
    cases List.mem_cons.1 h with
    | inl e => subst e; omega
    | inr e => have := ih e; omega
theorem bulk_length {H : Type} (l : List (DataW H)) : l.length ≤ Rows.uptoBulkAll l := by
  induction l with
  | nil => simp [Rows.uptoBulkAll]
  | cons x r ih => have := bulk_one x; simp only [Rows.uptoBulkAll, List.length_cons]; omega
theorem read38 : Tryd.prog.readableRec 38 = true := by kernel_rfl
theorem size38 : 38 < Tryd.prog.types.size := of_decide_eq_true (by kernel_rfl)
theorem cells41 : Tryd.prog.cellsOf 41 = 3 := by kernel_rfl
theorem cells3 : Tryd.prog.cellsOf 3 = 1 := by kernel_rfl
theorem i64_of {n : Int} (wi : (Lit.int .i64 n).wf = true) : -9223372036854775808 ≤ n ∧ n ≤ 9223372036854775807 := by
  simp only [Lit.wf, Bool.and_eq_true, decide_eq_true_eq] at wi
  have hmin : IntKind.i64.min = -9223372036854775808 := by decide +kernel
  have hmax : IntKind.i64.max = 9223372036854775807 := by decide +kernel
  omega
/-- One piece, opened. -/
theorem open_piece {H : Type} {enc : TypeId × Value → H} {W : World} {base n : Nat} {sp : Nat → Bool} {held : Bool} {cs : List Value} {x : DataW H × List MemPlace}
    (h : DataW.trod enc Tryd.prog W base sp held n 41 cs = some x) : ∃ s : Pi, cs = [.int .i64 s.1, .string s.2.1, .int .i64 s.2.2] ∧ (-9223372036854775808 ≤ s.1 ∧ s.1 ≤ 9223372036854775807) ∧ s.2.1.size ≤ Rows.uptoBulk x.1 := by
  obtain ⟨y0, y1, y2, m, hx, hl, h0, h1, h2⟩ := trod_struct3 Tryd.underlying41 h
  rw [cells41] at hl
  match cs, hl with
  | [v0, v1, v2], _ =>
    simp [cells3, cells9] at h0 h1 h2
    obtain ⟨m0, hm0, _, w0⟩ := DataW.trod_int Tryd.underlying3 h0
    obtain ⟨s, hs, hy, _⟩ := DataW.trod_string Tryd.underlying9 h1
    obtain ⟨m2, hm2, _, w2⟩ := DataW.trod_int Tryd.underlying3 h2
    simp only [List.cons.injEq, and_true] at hs hm0 hm2
    refine ⟨(m0, s, m2), by rw [hs, hm0, hm2], i64_of w0, ?_⟩
    rw [hx, hy]
    simp only [Rows.uptoBulk, Rows.uptoBulkAll, Array.length_toList]
    have : s.data.size = s.size := rfl
    omega
/-- A row of pieces, opened. -/
theorem open_pieces {H : Type} {enc : TypeId × Value → H} {W : World} {base : Nat} {v : Value} {d : DataW H} {p : List MemPlace}
    (hval : Value.okWide Tryd.prog W .any base 38 v) (h : DataW.Trod enc Tryd.prog W 0 (fun _ => true) true 38 v d p) (hb : Rows.uptoBulk d ≤ 1048576) :
    ∃ (A : Option Addr) (len cap : Nat) (ps : List Pi), v = .slice A len cap ∧ len ≤ cap ∧ Pcs W A len ps ∧ len ≤ 1048576 ∧ ∀ x ∈ ps, (-9223372036854775808 ≤ x.1 ∧ x.1 ≤ 9223372036854775807) ∧ x.2.1.size ≤ 1048576 := by
  obtain ⟨A, len, cap, rfl⟩ := okWide_slice Tryd.underlying38 hval
  obtain ⟨fuel, hf⟩ := h
  rcases open_slice Tryd.underlying38 (by simpa [Value.cells] using hf) with ⟨hc, _⟩ | ⟨a, len', cap', m, n, D, Pl, hc, _, hl, hm, hmm, hd, hx⟩
  · simp only [List.cons.injEq, Value.slice.injEq, and_true] at hc
    obtain ⟨rfl, rfl, rfl⟩ := hc
    exact ⟨none, 0, 0, [], rfl, by omega, ⟨rfl, fun i hi => by omega⟩, by omega, by simp⟩
  · simp only [List.cons.injEq, Value.slice.injEq, and_true] at hc
    obtain ⟨rfl, rfl, rfl⟩ := hc
    have hm' : m = cap := by simpa using hmm
    subst hm'
    have hd1 := congrArg Prod.fst hd
    simp only at hd1
    subst hd1
    simp only [Rows.uptoBulk] at hb
    have hlen := bulk_length ((List.range len).map D)
    simp only [List.length_map, List.length_range] at hlen
    have each : ∀ i, i < len → ∃ s : Pi, (∀ j u, [Value.int .i64 s.1, .string s.2.1, .int .i64 s.2.2][j]? = some u → W.cell? (a.add (i * 3 + j)) = some u) ∧ (-9223372036854775808 ≤ s.1 ∧ s.1 ≤ 9223372036854775807) ∧ s.2.1.size ≤ 1048576 := by
      intro i hi
      obtain ⟨cs', h1, h2⟩ := hx i (by omega)
      obtain ⟨s, hs, w1, w2⟩ := open_piece h2
      obtain ⟨_, hlen, hcell⟩ := World.cells?_some h1
      rw [cells41] at hcell hlen
      have hD := bulk_part (d := D i) (l := (List.range len).map D) (List.mem_map.2 ⟨i, List.mem_range.2 hi, rfl⟩)
      refine ⟨s, fun j u hj => ?_, w1, by simp only at w2; omega⟩
      rw [← hs] at hj
      have hj3 : j < 3 := by
        have := (List.getElem?_eq_some_iff.1 hj).1
        omega
      rw [← hj, ← hcell j hj3, Go.Deep.add_add]
    obtain ⟨q, hq⟩ := choose_lt each
    refine ⟨some a, len, m, (List.range len).map q, rfl, hl, ⟨by simp, fun i hi => ⟨a, rfl, ?_⟩⟩, by omega, ?_⟩
    · have hg : ((List.range len).map q).getD i zPi = q i := by simp [List.getD, hi]
      rw [hg]
      have hc := (hq i hi).1
      exact ⟨hc 0 _ rfl, by rw [← PrintWords.add_field _ _ 1 (by omega)]; exact hc 1 _ rfl, by rw [← PrintWords.add_field _ _ 2 (by omega)]; exact hc 2 _ rfl⟩
    · intro x hx
      obtain ⟨i, hi, rfl⟩ := List.mem_map.1 hx
      exact (hq i (List.mem_range.1 hi)).2
theorem back_contract (H : Type) (enc : TypeId × Value → H) (W : World) (base : Nat) (args : Array Value) (ds gs : List (DataW H)) (before : List MemPlace)
    (hval : ∀ (j : Nat) t v, Tryd.f6.params[j]? = some t → args[j]? = some v → Value.okWide Tryd.prog W .any base t v)
    (hW : DataW.Whole enc Tryd.prog Tryd.f6.params.toList Rows.tokenBackSpec.vars false W args.toList ds gs before)
    (hcond : ∀ k, (Rows.OpenSpec.upto Rows.tokenBackSpec).cond = some k → k H (ds ++ gs) = true)
    (hL : laidMetH Tryd.prog Rows.tokenBackUptoRow.laid W) (hsh : W.ShapedOpen Tryd.prog) :
    Calls Tryd.prog 6 args W fun e W' => ∃ v, e = .returned v ∧ Rows.tokenBackSpec.post enc Tryd.prog Tryd.f6 false true false false W args v W' := by
  have hW' := hW
  have hlt := hW.lt
  obtain ⟨p, q, hA0, hV, rfl, hfz, hnd⟩ := hW
  have hA : DataW.TrodAll enc Tryd.prog W 0 (fun _ => true) true Tryd.f6.params.toList args.toList ds p := hA0
  rw [Tryd.params6] at hA hval
  obtain ⟨v0, d0, rfl, rfl, h0⟩ := trodAll_one hA
  obtain ⟨rfl, rfl⟩ := trodVars_none hV
  clear hA0
  have hk : Rows.uptoBulkAll ([d0] ++ []) ≤ 1048576 := of_decide_eq_true (hcond _ rfl)
  have hk2 : Rows.uptoBulk d0 ≤ 1048576 := by
    have := bulk_part (d := d0) (l := [d0] ++ []) (by simp)
    omega
  obtain ⟨A, len, cap, ps, rfl, hcap, hP, hlen, hI⟩ := open_pieces (hval 0 38 v0 rfl rfl) h0 hk2
  refine (back_walk W hcap (env_of hL hsh) hP hlen hI).mono fun e W' ⟨he, hb⟩ => ?_
  subst he
  have h0' := hb.trod laidOut read38 size38 h0 (fun y hy => hlt y (by simp [hy]))
  exact ⟨_, rfl, _, _, _, [], _, [], hW', trodAll_mk1 (shut_bool Tryd.underlying4 _), trodAll_mk1 h0', rfl, hb.frame _, fun h => by cases h⟩
noncomputable def tokenBack_world (os : Os) : World := World.laidAll Tryd.prog os Rows.tokenBackUptoRow.laid
theorem tokenBack_laid_met (os : Os) : laidMet Tryd.prog Rows.tokenBackUptoRow.laid ((tokenBack_world os).forCall (fun _ _ => 0) ⟨#[], #[.slice none 0 0], []⟩).memory :=
  laidMet_laidAll _ (by kernel_rfl) (by kernel_rfl)
theorem tokenBack_reads (os : Os) {H : Type} (enc : TypeId × Value → H) : ∃ places, DataW.whole enc Tryd.prog ((tokenBack_world os).forCall (fun _ _ => 0) ⟨#[], #[.slice none 0 0], []⟩).memory Tryd.f6.params.toList Rows.tokenBackSpec.vars false (#[.slice none 0 0] : Array Value).toList 8 = some ([.nil], [], places) :=
  ⟨[], by kernel_rfl⟩
theorem tokenBack_lifted (os : Os) (started : os.Started) (H : Type) (enc : TypeId × Value → H) (F : Stop.Interp) :
    ReturnsInHanded {} Tryd.checked os 6 .any ((Rows.OpenSpec.upto Rows.tokenBackSpec).preRow enc Tryd.prog Tryd.f6 Rows.tokenBackUptoRow.domain false Rows.tokenBackUptoRow.laid) (((Rows.OpenSpec.upto Rows.tokenBackSpec).at F).post enc Tryd.prog Tryd.f6 false true false false) := by
  obtain ⟨places, hx⟩ := tokenBack_reads os enc
  refine returnsInHanded_of_row (C := Tryd.checked) (s := Rows.OpenSpec.upto Rows.tokenBackSpec) own started (by kernel_rfl) Tryd.func6
    (witness_row_at (enc := enc) (C := Tryd.checked) false (tokenBack_world os) #[.slice none 0 0] (World.laidAll_os _ _ _) (by kernel_rfl) (by kernel_rfl) (by kernel_rfl)
      (OpenSpec.preRow_of_cond 8 hx (by kernel_rfl) (fun k hk => by cases hk; kernel_rfl) (by kernel_rfl) (tokenBack_laid_met os))) ?_
  intro W base args ds gs before hval hW _ hcond _ hL hsh _
  exact back_contract H enc W base args ds gs before hval hW hcond hL hsh
theorem tokenBack_said : Rows.TokenBackUptoSaid :=
  OpenClaim.holds_of_cond 6 Tryd.f6 rfl rfl rfl rfl rfl rfl rfl ⟨rfl, rfl, rfl, rfl, rfl⟩ rfl rfl rfl rfl rfl (by kernel_rfl) Tryd.func6 (by kernel_rfl)
    (of_decide_eq_true (by kernel_rfl)) (by unfold Func.isWrapper; first | (rw [if_pos (by decide +kernel)]; kernel_rfl) | (rw [if_neg (by decide +kernel)]; exact ⟨rfl, rfl⟩))
    (fun os started H enc _ F => by rw [OpenClaim.pre_eq_preRow]; exact tokenBack_lifted os started H enc F)
theorem tokenBack_plain (f : FuncId) (fn : Func) (hf : Tryd.pinned.checked.prog.funcNamed "gimbal/gimballaw03.TokenBack" = some f) (hfn : Tryd.pinned.checked.prog.funcs[f]? = some fn) :
    false = Tryd.pinned.checked.prog.looks [] ∧ ∀ (j : Nat) t, fn.params[j]? = some t → Tryd.pinned.checked.prog.wantsStandIn t = false := by
  obtain rfl : f = 6 := Option.some.inj ((show Tryd.prog.funcNamed "gimbal/gimballaw03.TokenBack" = some 6 by kernel_rfl).symm.trans hf) |>.symm
  obtain rfl : fn = Tryd.f6 := (Option.some.inj (Tryd.func6.symm.trans hfn)).symm
  refine ⟨by kernel_rfl, fun j t ht => ?_⟩
  rw [Tryd.params6] at ht
  obtain rfl : t = 38 := by simpa using Array.mem_of_getElem? ht
  exact (show Tryd.prog.wantsStandIn 38 = false by kernel_rfl)

/-- The card. -/
theorem tokenBack_card : Rows.TokenBackUptoCardSaid :=
  Claim7.holds_tied_plain_at .later [] _ _ _ _ tokenBack_said (fun _ h => by cases h) (by kernel_rfl) (fun _ h => by cases h) tokenBackUpto_row_tie rfl ⟨rfl, rfl⟩ (by kernel_rfl) rfl tokenBack_plain (by kernel_rfl)
end Go.Proofs.YteaegfkgnmfleaaDoor.Sc
namespace Go.Proofs.YteaegfkgnmfleaaDoor
theorem TokenBack_holds : Rows.TokenBackUptoCardSaid := Sc.tokenBack_card
end Go.Proofs.YteaegfkgnmfleaaDoor

