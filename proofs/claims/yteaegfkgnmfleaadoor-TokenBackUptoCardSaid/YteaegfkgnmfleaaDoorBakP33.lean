/- This claim's own texts, joined, with only what the claim uses: BackB. -/
import Derived.Test.YteaegfkgnmfleaaDoorBakP32
namespace Go.Proofs.YteaegfkgnmfleaaDoor.Sc
open Go.RowKit Tk Pr Go.Proofs.YteaegfkgnmfleaaDoorW.PrintWords

/-- A piece: its kind, its text, its gap. -/
abbrev Pi := Int × ByteArray × Int
def zPi : Pi := (0, ⟨#[]⟩, 0)
/-- The pieces that are handed in. -/
def Pcs (W : World) (A : Option Addr) (len : Nat) (ps : List Pi) : Prop :=
  ps.length = len ∧ ∀ i, i < len → ∃ a, A = some a ∧ W.cell? (a.add (i * 3)) = some (.int .i64 (ps.getD i zPi).1) ∧ W.cell? ⟨(a.add (i * 3)).block, (a.add (i * 3)).off + 1, none⟩ = some (.string (ps.getD i zPi).2.1) ∧ W.cell? ⟨(a.add (i * 3)).block, (a.add (i * 3)).off + 2, none⟩ = some (.int .i64 (ps.getD i zPi).2.2)
theorem Pcs.below {W W' : World} {A : Option Addr} {len : Nat} {ps : List Pi} (h : Pcs W A len ps) (hb : Below W.heap.size W W') : Pcs W' A len ps := by
  refine ⟨h.1, fun i hi => ?_⟩
  obtain ⟨a, e, c0, c1, c2⟩ := h.2 i hi
  exact ⟨a, e, (hb.cell (World.block_lt_of_cell? W _ c0)).trans c0, (hb.cell (World.block_lt_of_cell? W _ c1)).trans c1, (hb.cell (World.block_lt_of_cell? W _ c2)).trans c2⟩
abbrev Gaps : Obj := .cells #[.string ⟨#[32]⟩, .string ⟨#[10]⟩, .string ⟨#[32, 47, 47, 32, 97, 32, 34, 32, 49, 32, 47, 42, 10]⟩, .string ⟨#[32, 47, 42, 32, 47, 47, 32, 42, 42, 32, 42, 47, 32]⟩] 9
theorem gaps_cell {w W : World} (hb : Below (w.alloc Gaps).heap.size (w.alloc Gaps) W) (j : Nat) (hj : j < 4) : W.cell? ⟨w.heap.size, j, none⟩ = some (.string (gapB j)) := by
  refine (hb.cell (p := ⟨w.heap.size, j, none⟩) (by simp)).trans ?_
  rw [cell_of_row _ w.heap.size j _ 9 (0, 0) (blk_new w Gaps)]
  match j with
  | 0 => rfl
  | 1 => rfl
  | 2 => rfl
  | 3 => rfl
  | j + 4 => omega
theorem far5 {w1 w2 : World} {kd gp : Int} {tx : ByteArray} (hb : Below (w1.alloc (.cells #[.int .i64 kd, .string tx, .int .i64 gp] 41)).heap.size (w1.alloc (.cells #[.int .i64 kd, .string tx, .int .i64 gp] 41)) w2) : w2.cell? ⟨w1.heap.size, 0, none⟩ = some (.int .i64 kd) ∧ w2.cell? ⟨w1.heap.size, 1, none⟩ = some (.string tx) ∧ w2.cell? ⟨w1.heap.size, 2, none⟩ = some (.int .i64 gp) := by
  refine ⟨(hb.cell (by simp)).trans ?_, (hb.cell (by simp)).trans ?_, (hb.cell (by simp)).trans ?_⟩ <;> go_simp
theorem first_T37 {w : World} {A : Option Addr} {x : S37} (h : Kd.C k37 w A [x].length [x]) : ∃ ad, A = some ad ∧ w.cell? ad = some (.int .i64 x.f0) ∧ w.cell? ⟨ad.block, ad.off + 1, none⟩ = some (.int .i64 x.f1) ∧ w.cell? ⟨ad.block, ad.off + 2, none⟩ = some (.int .i64 x.f2) ∧ w.cell? ⟨ad.block, ad.off + 3, none⟩ = some (.int .i64 x.f3) := by
  obtain ⟨ad, e, c0, c1, c2, c3⟩ := at_T37 h 0 (by omega) (by simp)
  exact ⟨ad, e, c0, c1, c2, c3⟩
theorem own_ne' {w : World} {b1 b2 n m : Nat} {v1 v2 : Value} {xs ys : List Value} (h1 : w.ownsRow b1 5 1 v1 n xs) (h2 : w.ownsRow b2 37 4 v2 m ys) : v2.ownBlock = none ∨ v2.ownBlock ≠ v1.ownBlock := by
  rcases own_ne h1 h2 with h | h
  · rw [h]
    cases v2.ownBlock with
    | none => exact Or.inl rfl
    | some k => exact Or.inr (by simp)
  · exact Or.inr fun e => h e.symm
theorem grown_own {w w1 : World} {base n s : Nat} {e : TypeId} {v : Value} {xs : List Value} (hg : w.grownBy w1 v.ownBlock) (h : w.ownsRow base e s v n xs) (hb : base ≤ w.heap.size) : Below base w w1 :=
  ⟨hg.os, hg.tape, hg.output, hg.size, fun k hk => hg.block k (by omega) (fun e => by have := (h.lt k e.symm).1; omega)⟩
theorem flat_cells (pcs : List Pc) (g t : ByteArray) (kk v : Int) : u8s (flat (pcs ++ [(Sc.nums g, Sc.nums t, kk, v)])) = (u8s (flat pcs) ++ Lib.strCells g) ++ Lib.strCells t := by
  rw [flat_snoc, u8s_append, u8s_append, strCells_nums, strCells_nums, List.append_assoc]
theorem flat_len (pcs : List Pc) (g t : ByteArray) (kk v : Int) : (flat (pcs ++ [(Sc.nums g, Sc.nums t, kk, v)])).length = (flat pcs).length + g.size + t.size := by
  rw [flat_snoc, List.length_append, List.length_append, nums_length, nums_length]; omega
theorem want_cells (pcs : List Pc) (g t : ByteArray) (kk v : Int) : cellsOf ((toksOf 0 (pcs ++ [(Sc.nums g, Sc.nums t, kk, v)])).map z4) = cellsOf ((toksOf 0 pcs).map z4) ++ [.int .i64 kk, .int .i64 (((flat pcs).length + g.size : Nat) : Int), .int .i64 (((flat pcs).length + g.size + t.size : Nat) : Int), .int .i64 0] := by
  rw [toksOf_snoc, List.map_append, List.map_cons, List.map_nil, cellsOf_append]
  simp only [z4, Nat.zero_add, nums_length]
theorem lies_own {W : World} {base n c : Nat} {A : Option Addr} {xs : List Int} (h : W.ownsRow base 5 1 (.slice A n c) n (u8s xs)) : Lies W A n xs := by
  intro i hi
  have hl := h.1
  rcases h.2 with ⟨_, h0⟩ | ⟨g, cap, cur, e, _⟩
  · omega
  · injection e with e1 e2 e3
    subst e1
    refine ⟨_, rfl, ?_⟩
    refine h.cells (g := g) rfl i (.int .u8 (xs.getD i 0)) ?_
    have hx : xs.length = n := by simpa [u8s] using hl
    simp [u8s, List.getD, hx, hi]
/-- What the first loop keeps. -/
structure Lp (w : World) (k : Nat) (pcs : List Pc) (b wn : Value) (W : World) : Prop where
  ok : Ok pcs
  num : pcs.length ≤ k
  len : (flat pcs).length ≤ k * 1048600
  ob : W.ownsRow (w.heap.size + 1) 5 1 b (flat pcs).length (u8s (flat pcs))
  ow : W.ownsRow (w.heap.size + 1) 37 4 wn pcs.length (cellsOf ((toksOf 0 pcs).map z4))
  bel : Below (w.alloc Gaps).heap.size (w.alloc Gaps) W
  byt : ∀ c ∈ flat pcs, Byte c
theorem Lp.step {w W W' : World} {k : Nat} {pcs : List Pc} {b wn : Value} (h : Lp w k pcs b wn W) (hb : Below W.heap.size W W') : Lp w k pcs b wn W' :=
  ⟨h.ok, h.num, h.len, own_below h.ob hb, own_below h.ow hb, h.bel.trans (hb.mono h.bel.size), h.byt⟩
theorem Lp.next {w W : World} {k : Nat} {pcs : List Pc} {b wn : Value} (h : Lp w k pcs b wn W) : Lp w (k + 1) pcs b wn W :=
  ⟨h.ok, Nat.le_succ_of_le h.num, Nat.le_trans h.len (by omega), h.ob, h.ow, h.bel, h.byt⟩
set_option maxRecDepth 100000 in
set_option maxHeartbeats 4000000 in
theorem back_walk {A : Option Addr} {len cap : Nat} {ps : List Pi} (w : World) (_hcap : len ≤ cap) (hE : Env w) (hP : Pcs w A len ps) (hlen : len ≤ 1048576) (hI : ∀ x ∈ ps, (-9223372036854775808 ≤ x.1 ∧ x.1 ≤ 9223372036854775807) ∧ x.2.1.size ≤ 1048576) :
    Calls Tryd.prog 6 #[.slice A len cap] w fun e w' => e = .returned (.bool true) ∧ Below w.heap.size w w' := by
  have hinfo : (Tryd.prog.info? 5).map (fun i => (i.zero, i.size, i.bytes)) = some (some (.int .u8 0), 1, 1) := by kernel_rfl
  obtain ⟨i5, hi5, hz0, hz1, hz2⟩ := info_parts hinfo
  have hinfo2 : (Tryd.prog.info? 37).map (fun i => (i.zero, i.size, i.bytes)) = some (some (.agg #[.int .i64 0, .int .i64 0, .int .i64 0, .int .i64 0]), 4, 32) := by kernel_rfl
  obtain ⟨i37, hi37, hy0, hy1, hy2⟩ := info_parts hinfo2
  have hbW : ∀ {W}, Below (w.alloc Gaps).heap.size (w.alloc Gaps) W → Below w.heap.size w W := fun h => ((Below.refl _ _).alloc (Nat.le_refl _) Gaps).trans (h.mono (by simp))
  have hP2 : ∀ {W}, Below (w.alloc Gaps).heap.size (w.alloc Gaps) W → Pcs W A len ps := fun h => hP.below (hbW h)
  have hE2 : ∀ {W}, Below (w.alloc Gaps).heap.size (w.alloc Gaps) W → Env W := fun h => hE.below (hbW h)
  go_enter Tryd.func6, Tryd.ntmps6
  go_wp2
  go_loopw [3, 4, 20] (fun b wn i W => ∃ (k : Nat) (pcs : List Pc), i = .int .i64 k ∧ k ≤ len ∧ Lp w k pcs b wn W) (fun _ _ i _ => len - (intOf i).toNat)
  case atStart => exact ⟨0, [], rfl, by omega, fun x hx => by simp at hx, by simp, by simp [flat], own_nil _ _ _ _, own_nil _ _ _ _, Below.refl _ _, by simp [flat]⟩
  case round =>
    obtain ⟨k, pcs, rfl, hk, hLp⟩ := hrel
    have hB := hLp.bel
    have hB2 := hbW hB
    by_cases hkl : k < len
    · obtain ⟨a, rfl, c0, c1, c2⟩ := (hP2 hB).2 k hkl
      have hin : ps.getD k zPi ∈ ps := by
        have h : k < ps.length := by rw [hP.1]; exact hkl
        rw [List.getD_eq_getElem?_getD, List.getElem?_eq_getElem h]
        exact List.getElem_mem h
      obtain ⟨hi, hts⟩ := hI _ hin
      generalize ps.getD k zPi = pc at c0 c1 c2 hi hts
      obtain ⟨kd, tx, gp⟩ := pc
      simp only at c0 c1 c2 hi hts
      have d0 : decide ((k : Int) < (len : Int)) = true := decide_eq_true (by omega)
      have k0 : (0 : Int) ≤ (k : Int) := by omega
      have k1 : (k : Int) < (len : Int) := by omega
      go_upto_if 30 with (first | (go_at_call 10; with_reducible refine (gimbalref03_Text.calls kd _ _ (refText_f kd hi)).mono ?_; rintro e w2 ⟨rfl, hb2⟩; obtain ⟨x0, x1, x2⟩ := far5 hb2))
      have hLp2 := Aside0.mk (hLp.step (((Below.refl _ _).alloc (Nat.le_refl _) (.cells #[.int .i64 kd, .string tx, .int .i64 gp] 41)).trans (hb2.mono (by simp))))
      clear hLp hB hB2 c0 c1 c2
      go_cut [8, 9, 10, 11, 12] from 30 to 66 (fun s8 s9 _ _ _ W => ∃ (T : ByteArray) (kk v : Int), s8 = .string T ∧ s9 = .int .i64 kk ∧ Single KB (Sc.nums T) kk v ∧ T.size ≤ 1048576 ∧ Below w2.heap.size w2 W)
      case first =>
        by_cases ht : (textOf kd).toList = []
        · have he : (textOf kd).toList.isEmpty = true := by rw [ht]; rfl
          have cvs := run_bytes_of_string (P := Tryd.prog) w2 9 25 5 tx Tryd.underlying9 Tryd.underlying25 Tryd.underlying5
          have hge := grownCap_ge w2 tx.size 0 5
          generalize grownCap w2 tx.size 0 5 = cp at cvs hge
          have hRow : Below w2.heap.size w2 (w2.alloc (.cells (bytesRow tx cp) 5 ((bytesRow tx cp).size, (bytesRow tx cp).size + 1))).drew := ((Below.refl _ _).alloc (Nat.le_refl _) _).drew
          have hLR : Lies (w2.alloc (.cells (bytesRow tx cp) 5 ((bytesRow tx cp).size, (bytesRow tx cp).size + 1))).drew (some ⟨w2.heap.size, 0, none⟩) tx.size (Sc.nums tx) := fun i hi => lies_row w2 tx cp _ i hi
          generalize hans : ans (Sc.nums tx) = rr
          obtain ⟨r, q, er⟩ := rr
          have RF := ref_R (cap := cp) hge (nums_length tx) (lies_C (nums_length tx) (by omega) hLR) hans
          clear hLR
          rw [he]
          have wk : IntKind.i64.wrap ((k : Int) + 1) = (k : Int) + 1 := IntWalk.i64_in _ (by omega)
          by_cases e0 : er = 0
          · subst e0
            by_cases hr1 : r.length = 1
            · obtain ⟨x, rfl⟩ := List.length_eq_one_iff.mp hr1
              clear hr1
              by_cases hx2 : x.f2 = (tx.size : Int)
              · by_cases hx1 : x.f1 = 0
                · go_wp2_with (first | (go_at_call 12; with_reducible refine RF.mono ?_; rintro e w3 ⟨hb3, B1, c1, rfl, hc1, hR1⟩; obtain ⟨ad, rfl, q0, q1, q2, q3⟩ := first_T37 (Kd.R_reads' hR1).2.2))
                  go_meet
                  exact ⟨tx, x.f0, x.f3, rfl, rfl, single_of_ans hans rfl hx1 (by rw [nums_length]; exact hx2), hts, hRow.trans (hb3.mono hRow.size)⟩
                · have n1 : (x.f1 != 0) = true := bne_iff_ne.mpr hx1
                  go_wp2_with (first | (go_at_call 12; with_reducible refine RF.mono ?_; rintro e w3 ⟨hb3, B1, c1, rfl, hc1, hR1⟩; obtain ⟨ad, rfl, q0, q1, q2, q3⟩ := first_T37 (Kd.R_reads' hR1).2.2))
                  exact ⟨⟨k + 1, pcs, by push_cast; rfl, by omega, (hLp2.out.step (hRow.trans (hb3.mono hRow.size))).next⟩, by simp [intOf]; omega⟩
              · have n2 : (x.f2 != (tx.size : Int)) = true := bne_iff_ne.mpr hx2
                go_wp2_with (first | (go_at_call 12; with_reducible refine RF.mono ?_; rintro e w3 ⟨hb3, B1, c1, rfl, hc1, hR1⟩; obtain ⟨ad, rfl, q0, q1, q2, q3⟩ := first_T37 (Kd.R_reads' hR1).2.2))
                exact ⟨⟨k + 1, pcs, by push_cast; rfl, by omega, (hLp2.out.step (hRow.trans (hb3.mono hRow.size))).next⟩, by simp [intOf]; omega⟩
            · have n1 : ((r.length : Int) != 1) = true := bne_iff_ne.mpr (by omega)
              go_wp2_with (first | (go_at_call 12; with_reducible refine RF.mono ?_; rintro e w3 ⟨hb3, B1, c1, rfl, hc1, hR1⟩))
              exact ⟨⟨k + 1, pcs, by push_cast; rfl, by omega, (hLp2.out.step (hRow.trans (hb3.mono hRow.size))).next⟩, by simp [intOf]; omega⟩
          · have n0 : (er != 0) = true := bne_iff_ne.mpr e0
            go_wp2_with (first | (go_at_call 12; with_reducible refine RF.mono ?_; rintro e w3 ⟨hb3, B1, c1, rfl, hc1, hR1⟩))
            exact ⟨⟨k + 1, pcs, by push_cast; rfl, by omega, (hLp2.out.step (hRow.trans (hb3.mono hRow.size))).next⟩, by simp [intOf]; omega⟩
        · have he : (textOf kd).toList.isEmpty = false := by
            cases h : (textOf kd).toList with
            | nil => exact absurd h ht
            | cons x l => rfl
          obtain ⟨h1, h2⟩ := text_single kd ht
          rw [he]
          go_wp2
          go_meet
          exact ⟨_, _, 0, rfl, rfl, h1, by omega, Below.refl _ _⟩
      case rest =>
        obtain ⟨T, kk, v, rfl, rfl, hS, hT, hcw⟩ := hcut
        have hL3 := hLp2.out.step hcw
        have gx := (hcw.cell (p := ⟨wr.heap.size, 2, none⟩) (World.block_lt_of_cell? _ _ x2)).trans x2
        obtain ⟨j, hj, hbits⟩ := and3 gp
        have gc := gaps_cell hL3.bel j hj
        obtain ⟨hg1, hg2⟩ := gapB_ok j hj
        have hsz : w.heap.size + 1 ≤ wc.heap.size := by have := hL3.bel.size; simpa using this
        have HO := hL3.ob
        have HW := hL3.ow
        have hnl := hL3.len
        have hnn := hL3.num
        have j0 : (0 : Int) ≤ (j : Int) := by omega
        have j4 : (j : Int) < 4 := by omega
        clear x0 x1 x2
        obtain ⟨N, hN⟩ : ∃ N, (flat pcs).length = N := ⟨_, rfl⟩
        rw [hN] at HO hnl
        go_upto_region 15 with (first | (at_builtin; refine Lib.wpList_append_own_string _ rfl (.tmp 67) (.tmp 73) 25 9 rfl (w.heap.size + 1) 5 i5 Tryd.underlying25 Tryd.underlying9 hi5 hz0 hz1 hz2 _ _ _ rfl HO (gapB j) rfl (by unfold maxLen; omega) (by omega) (by omega) ?_; intro b1 w4 hob1 hgr1 _))
        obtain ⟨bA, bc, rfl⟩ := own_slice hob1
        have HW4 := HW.kept hgr1 (own_ne' HO HW)
        have h34 : Below (w.heap.size + 1) wc w4 := grown_own hgr1 HO hsz
        clear HW
        obtain ⟨P, hP1⟩ : ∃ P, N + (gapB j).size = P := ⟨_, rfl⟩
        obtain ⟨E, hE1⟩ : ∃ E, P + T.size = E := ⟨_, rfl⟩
        rw [hP1] at hob1
        have wE : IntKind.i64.wrap ((P : Int) + (T.size : Int)) = (E : Int) := by rw [IntWalk.i64_in _ (by omega)]; omega
        have HW5 := fun o => HW4.alloc o
        have h4sz : wc.heap.size ≤ w4.heap.size := h34.size
        rw [hP1]
        go_wp2_with (first | (at_builtin; refine wpList_append_own _ rfl (.tmp 75) (.tmp 85) 26 rfl (w.heap.size + 1) 37 i37 (.agg #[.int .i64 0, .int .i64 0, .int .i64 0, .int .i64 0]) 4 32 Tryd.underlying26 hi37 hy0 hy1 hy2 rfl (by decide) _ _ _ rfl (HW5 _) ⟨w4.heap.size, 0, none⟩ 1 1 [.int .i64 kk, .int .i64 P, .int .i64 E, .int .i64 0] rfl rfl ?c1 ?c2 ?c3 ?c4 ?c5 ?_))
        case c1 =>
          intro i u hu
          match i with
          | 0 => simp at hu; subst hu; unfold Addr.add; go_simp
          | 1 => simp at hu; subst hu; unfold Addr.add; go_simp
          | 2 => simp at hu; subst hu; unfold Addr.add; go_simp
          | 3 => simp at hu; subst hu; unfold Addr.add; go_simp
          | i + 4 => simp at hu
        case c2 =>
          intro u hu
          simp at hu
          rcases hu with rfl | rfl | rfl | rfl <;> rfl
        case c3 => unfold maxLen; omega
        case c4 => omega
        case c5 => simp; omega
        intro wn1 w5 how5 hgr5 _
        have HO4 := hob1.alloc (.cells #[.int .i64 kk, .int .i64 P, .int .i64 E, .int .i64 0] 37)
        have HWx := HW5 (.cells #[.int .i64 kk, .int .i64 P, .int .i64 E, .int .i64 0] 37)
        have HO5 := HO4.kept hgr5 (own_ne HO4 HWx)
        have h45 := (Below.refl w4.heap.size w4).alloc (Nat.le_refl _) (.cells #[.int .i64 kk, .int .i64 P, .int .i64 E, .int .i64 0] 37)
        have h55 := grown_own hgr5 HWx (by simp; omega)
        have h5sz : w4.heap.size + 1 ≤ w5.heap.size := by have := h55.size; simpa using this
        have h35 := (h34.trans (h45.mono (by omega))).trans h55
        clear HO4 HW5 HW4 HWx hgr5 HO hgr1
        go_wp2_with (first | (at_builtin; refine Lib.wpList_append_own_string _ rfl (.tmp 87) (.tmp 88) 25 9 rfl (w.heap.size + 1) 5 i5 Tryd.underlying25 Tryd.underlying9 hi5 hz0 hz1 hz2 _ _ _ rfl HO5 T rfl (by unfold maxLen; omega) (by omega) (by omega) ?_; intro b2 w6 hob2 hgr6 _))
        have how6 := how5.kept hgr6 (own_ne' HO5 how5)
        have h36 := h35.trans (grown_own hgr6 HO5 (by omega))
        refine ⟨⟨k + 1, pcs ++ [(Sc.nums (gapB j), Sc.nums T, kk, v)], by push_cast; rfl, by omega, ?_, by simp; omega, by rw [flat_len, hN]; omega, ?_, ?_, hL3.bel.trans (h36.mono (by simp)), ?_⟩, by simp [intOf]; omega⟩
        · intro x hx
          rcases List.mem_append.1 hx with hx | hx
          · exact hL3.ok x hx
          · simp only [List.mem_singleton] at hx
            subst hx
            exact ⟨hg1, hS⟩
        · rw [flat_cells, flat_len, hN, hP1]
          exact hob2
        · rw [want_cells, hN, hP1, hE1, List.length_append]
          exact how6
        · intro x hx
          rw [flat_snoc] at hx
          rcases List.mem_append.1 hx with hx | hx
          · exact hL3.byt x hx
          · rcases List.mem_append.1 hx with hx | hx
            · exact nums_byte _ x hx
            · exact nums_byte _ x hx
    · have hkl2 : k = len := by omega
      have d0 : decide ((k : Int) < (len : Int)) = false := decide_eq_false (by omega)
      have hEr := hE2 hB
      obtain ⟨bA, bc, rfl⟩ := own_slice hLp.ob
      obtain ⟨wA, wcc, rfl⟩ := own_slice hLp.ow
      have hLb : Lies wr bA (flat pcs).length (flat pcs) := lies_own hLp.ob
      have hAb : ∀ a, bA = some a → a.block < wr.heap.size := fun a e => by subst e; exact (hLp.ob.lt a.block rfl).2
      have hbc := own_le hLp.ob
      have hR := own_R (l := (toksOf 0 pcs).map z4) (W := wr) (base := w.heap.size + 1) (by rw [List.length_map, toksOf_length]; exact hLp.ow)
      have hfl := hLp.len
      have hnp := hLp.num
      have hby := hLp.byt
      clear hP hI hP2 hE2 hinfo hinfo2 hi5 hz0 hz1 hz2 hi37 hy0 hy1 hy2
      rcases ans_flat hLp.ok with ⟨⟨hl1, hl2⟩, ha⟩ | ⟨hlong, q, er, her, ha⟩
      · have SC := scan_env hbc rfl hby hEr hLb hAb ha
        rw [List.length_map, toksOf_length] at SC
        obtain ⟨_, _, hCw⟩ := Kd.R_reads' hR
        rw [List.length_map, List.length_map, toksOf_length] at hCw
        have hTl := toksOf_length pcs 0
        generalize toksOf 0 pcs = TK at SC hCw hTl
        have hCw := Aside0.mk hCw
        clear hR ha
        clear hLp hLb hAb hby
        generalize hN : (flat pcs).length = N at SC hbc hfl hl1 ⊢
        generalize hM : pcs.length = M at SC hnp hl2 hCw hTl ⊢
        have dN : decide ((65536 : Int) < (N : Int)) = false := decide_eq_false (by omega)
        have dM : decide ((16384 : Int) < (M : Int)) = false := decide_eq_false (by omega)
        go_upto_block 2 with (first | (go_at_call 11; with_reducible refine SC.mono ?_; rintro e w2 ⟨hb2, B1, c1, rfl, hc1, hC1⟩))
        have H2 := (Below.refl w2.heap.size w2).alloc (Nat.le_refl _) (.cells #[.int .i64 0, .int .i64 0] 29)
        have Hw := (hB2.trans (hb2.mono hB2.size)).alloc (by have := hB2.size; have := hb2.size; omega) (.cells #[.int .i64 0, .int .i64 0] 29)
        have C1 := Aside0.mk (Kd.C_below hC1 H2)
        have C2 := Aside0.mk (Kd.C_below (Kd.C_below hCw.out hb2) H2)
        have hE3 := Aside0.mk ((hEr.below hb2).below H2)
        have hc1M : M ≤ c1 := hc1
        clear hC1 hCw hEr SC H2 hb2
        generalize w2.alloc (.cells #[.int .i64 0, .int .i64 0] 29) = W1 at Hw C1 C2 hE3 ⊢
        go_wp2
        go_loopw [124] (fun i W => ∃ k : Nat, i = .int .i64 k ∧ k ≤ M ∧ Below W1.heap.size W1 W) (fun i _ => M - (intOf i).toNat)
        case atStart => exact ⟨0, rfl, by omega, Below.refl _ _⟩
        case round =>
          obtain ⟨i, rfl, hi, hW⟩ := hrel
          by_cases hiM : i < M
          · have di : decide ((i : Int) < (M : Int)) = true := decide_eq_true (by omega)
            have i0 : (0 : Int) ≤ (i : Int) := by omega
            have i1 : (i : Int) < (M : Int) := by omega
            have wk : IntKind.i64.wrap ((i : Int) + 1) = (i : Int) + 1 := IntWalk.i64_in _ (by omega)
            obtain ⟨ad, e1, p0, p1, p2, p3⟩ := at_T37 (Kd.C_below C1.out hW) (i : Int) i0 i1
            obtain ⟨bd, e2, q0, q1, q2, q3⟩ := at_T37 (Kd.C_below C2.out hW) (i : Int) i0 i1
            subst e1 e2
            have hiT : i < TK.length := by omega
            have t1 : rd_T37 (TK.map mkS) (i : Int) = mkS (TK[i]) := by simp [rd_T37, List.getD, hiT]
            have t2 : rd_T37 ((TK.map z4).map mkS) (i : Int) = mkS (z4 (TK[i])) := by simp [rd_T37, List.getD, hiT]
            rw [t1] at p0 p1 p2 p3
            rw [t2] at q0 q1 q2 q3
            generalize TK[i] = t at p0 p1 p2 p3 q0 q1 q2 q3
            obtain ⟨ta, tb, tc, td⟩ := t
            simp only [mkS, z4, Int.toNat_natCast] at p0 p1 p2 p3 q0 q1 q2 q3
            have q0' := fun o => Lib.cell?_alloc_marked o q0
            have q1' := fun o => Lib.cell?_alloc_marked o q1
            have q2' := fun o => Lib.cell?_alloc_marked o q2
            clear t1 t2 q0 q1 q2 q3
            go_wp2
            go_quiet (fail)
            go_wp2
            have B := hW.alloc hW.size (.cells #[.int .i64 ta, .int .i64 tb, .int .i64 tc, .int .i64 td] 37)
            exact ⟨⟨i + 1, by push_cast; rfl, by omega, B.os, B.tape, B.output, B.size, B.block⟩, by simp [intOf]; omega⟩
          · have di : decide ((i : Int) < (M : Int)) = false := decide_eq_false (by omega)
            have KW := kind_walk ⟨#[108, 111, 111, 112]⟩ _ (hE3.out.below hW).1
            rw [show kindOf ⟨#[108, 111, 111, 112]⟩ = 18 by decide +kernel] at KW
            go_wp2_with (first | (go_at_call 8; with_reducible refine KW.mono ?_; rintro e w' ⟨rfl, rfl⟩))
            go_ret
            exact ⟨rfl, Hw.trans (hW.mono Hw.size)⟩
      · have SC := scan_env hbc rfl hby hEr hLb hAb ha
        clear hLp hLb hAb hby hEr hR
        generalize (flat pcs).length = N at SC hbc hfl hlong
        generalize pcs.length = M at hnp hlong
        have e0 : (er != 0) = true := bne_iff_ne.mpr her
        by_cases hN : 65536 < N
        · have dN : decide ((65536 : Int) < (N : Int)) = true := decide_eq_true (by omega)
          go_wp2_with (first | (go_at_call 11; with_reducible refine SC.mono ?_; rintro e w2 ⟨hb2, B1, c1, rfl, hc1, hC1⟩))
          have L2 := hB2.trans (hb2.mono hB2.size)
          go_ret
          exact ⟨rfl, L2.alloc L2.size _⟩
        · have dN : decide ((65536 : Int) < (N : Int)) = false := decide_eq_false (by omega)
          have dM : decide ((16384 : Int) < (M : Int)) = true := decide_eq_true (by omega)
          go_wp2_with (first | (go_at_call 11; with_reducible refine SC.mono ?_; rintro e w2 ⟨hb2, B1, c1, rfl, hc1, hC1⟩))
          have L2 := hB2.trans (hb2.mono hB2.size)
          go_ret
          exact ⟨rfl, L2.alloc L2.size _⟩
end Go.Proofs.YteaegfkgnmfleaaDoor.Sc

