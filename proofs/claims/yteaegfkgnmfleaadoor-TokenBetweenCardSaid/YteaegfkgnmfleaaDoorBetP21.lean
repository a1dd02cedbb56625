/- This claim's own texts, joined, with only what the claim uses: BetA. -/
import Derived.Test.YteaegfkgnmfleaaDoorBetP20
import Derived.Lib.SlBytesConst
namespace Go.Proofs.YteaegfkgnmfleaaDoor.Sc
open Go.RowKit Tk Pr Go.Proofs.YteaegfkgnmfleaaDoorW.PrintWords

/-- The table and MaxLen stand where they stand. -/
def Env (W : World) : Prop := HasTab W ∧ ∃ m, W.cell? ⟨1, 0, none⟩ = some (.int .i64 m)
theorem Env.below {W W' : World} (h : Env W) (hb : Below W.heap.size W W') : Env W' := by
  obtain ⟨hT, m, hm⟩ := h
  exact ⟨hT.below hb hT.pos, m, (hb.cell (World.block_lt_of_cell? W _ hm)).trans hm⟩
theorem ans_x : ans [120] = ([⟨1, 0, 1, 0⟩], 0, 0) := by
  have : scan KB [120] 0 [] = .toks [(1, 0, 1, 0)] := by kernel_rfl
  unfold ans
  rw [if_neg (by decide), this]
  rfl
theorem scan_env {A : Option Addr} {n cap : Nat} {xs : List Int} {W : World} (hcap : n ≤ cap) (hx : xs.length = n) (hB : ∀ c ∈ xs, Byte c) (hE : Env W) (hL : Lies W A n xs) (hA : ∀ a, A = some a → a.block < W.heap.size)
    {r : List S37} {q er : Int} (hr : ans xs = (r, q, er)) :
    Calls Tryd.prog 11 #[.slice A n cap] W fun e w' => Below W.heap.size W w' ∧ ∃ B c, e = .returned (.tuple #[.slice B r.length c, .agg #[.int .i64 q, .int .i64 er]]) ∧ r.length ≤ c ∧ Kd.C k37 w' B r.length r := by
  refine (scan_walk A n cap xs W hcap hx hB hE.1 hL hA hE.2).mono ?_
  rintro e w' ⟨hb, v, rfl, hR⟩
  rw [hr] at hR
  obtain ⟨B, c, rfl, hc, hC⟩ := Kd.R_reads hR
  rw [hr]
  exact ⟨hb, B, c, rfl, hc, hC⟩
theorem bad_err {K : List Int → Int} : ∀ (f : Nat) (l : List Int) (p : Nat) (acc : List Tok) (q er : Int), l.length ≤ f → scan K l p acc = .bad q er → er ≠ 0
  | f, [], p, acc, q, er, _, h => by rw [scan_nil] at h; cases h
  | 0, c :: t, p, acc, q, er, hf, h => by simp at hf
  | f + 1, c :: t, p, acc, q, er, hf, h => by
    simp only [List.length_cons] at hf
    rw [scan_cons] at h
    split at h
    · exact bad_err f t _ _ _ _ (by omega) h
    · split at h
      · cases h; omega
      · rename_i k hk
        have := cmAt_long hk
        exact bad_err f _ _ _ _ _ (by simp only [List.length_drop, List.length_cons]; omega) h
      · split at h
        · rename_i e ho
          have := ref_err ho
          split at h
          · cases h; omega
          · split at h <;> cases h <;> omega
        · rename_i k n v ho
          have := one_len ho
          split at h
          · cases h; omega
          · exact bad_err f _ _ _ _ _ (by simp only [List.length_drop, List.length_cons]; omega) h
/-- Taken: the tokens rise; or a fault and no token. -/
theorem ans_form (xs : List Int) : (∃ ts : List Tok, ans xs = (ts.map mkS, 0, 0) ∧ xs.length ≤ 65536 ∧ scan KB xs 0 [] = .toks ts ∧ Chain xs 0 ts) ∨ ∃ q er, er ≠ 0 ∧ ans xs = ([], q, er) := by
  unfold ans
  by_cases hn : 65536 < xs.length
  · rw [if_pos hn]; exact Or.inr ⟨0, 30, by omega, rfl⟩
  · rw [if_neg hn]
    cases h : scan KB xs 0 [] with
    | toks ts =>
      obtain ⟨new, e, hc⟩ := scanF_chain KB xs.length xs 0 [] ts (Nat.le_refl _) h
      simp only [List.nil_append] at e
      subst e
      exact Or.inl ⟨ts, rfl, by omega, rfl, hc⟩
    | bad q er => exact Or.inr ⟨q, er, bad_err xs.length xs 0 [] q er (Nat.le_refl _) h, rfl⟩
theorem ans_gap {xs : List Int} {k : Nat} (h : Gap xs k) (hk : k ≤ 65536) : ans (xs.take k) = ([], 0, 0) := by
  unfold ans
  rw [if_neg (by simp; omega), h.none KB]
  rfl
theorem far2 {w1 w2 : World} {q er : Int} {o2 : Obj} (hb : Below ((w1.alloc (.cells #[.int .i64 q, .int .i64 er] 29)).alloc o2).heap.size ((w1.alloc (.cells #[.int .i64 q, .int .i64 er] 29)).alloc o2) w2) : w2.cell? ⟨w1.heap.size, 1, none⟩ = some (.int .i64 er) := by
  refine (hb.cell (by simp; omega)).trans ?_
  go_simp
theorem far3 {w1 w2 : World} {a s e v : Int} (hb : Below (w1.alloc (.cells #[.int .i64 a, .int .i64 s, .int .i64 e, .int .i64 v] 37)).heap.size (w1.alloc (.cells #[.int .i64 a, .int .i64 s, .int .i64 e, .int .i64 v] 37)) w2) : w2.cell? ⟨w1.heap.size, 2, none⟩ = some (.int .i64 e) := by
  refine (hb.cell (by simp)).trans ?_
  go_simp
theorem tl_block {A : Option Addr} {cap l b : Nat} (h : ∀ a, A = some a → a.block < b) : ∀ a, tl A cap l = some a → a.block < b := by
  intro a ha
  unfold tl at ha
  split at ha
  · exact h a ha
  · obtain ⟨a0, e, rfl⟩ := Option.map_eq_some_iff.mp ha
    have := h a0 e
    unfold Addr.add
    split <;> exact this
/-- Scan of what lies between two tokens: none, and no fault. -/
theorem gap_call {A : Option Addr} {n cap : Nat} {xs : List Int} {w : World} (hcap : n ≤ cap) (hx : xs.length = n) (hn6 : xs.length ≤ 65536) (hB : ∀ c ∈ xs, Byte c) (hE : Env w) (hL : Lies w A n xs) (hA : ∀ a, A = some a → a.block < w.heap.size) :
    ∀ (p k : Nat), p + k ≤ n → Gap (xs.drop p) k → ∀ W, Below w.heap.size w W → Calls Tryd.prog 11 #[.slice (tl A cap p) k (cap - p)] W fun e w' => Below W.heap.size W w' ∧ ∃ B c, e = .returned (.tuple #[.slice B 0 c, .agg #[.int .i64 0, .int .i64 0]]) := by
  intro p k hpk hg W hW
  refine (scan_env (xs := (xs.drop p).take k) (by omega) (by simp; omega) (fun c hc => hB c (List.mem_of_mem_drop (List.mem_of_mem_take hc))) (hE.below hW) ((hL.below hW).mid hcap hpk) (tl_block (fun a e => Nat.lt_of_lt_of_le (hA a e) hW.size)) (ans_gap hg (by omega))).mono ?_
  rintro e w' ⟨hb, B, c, rfl, _, _⟩
  exact ⟨hb, B, c, rfl⟩
set_option maxRecDepth 100000 in
set_option maxHeartbeats 4000000 in
theorem bet_walk {A : Option Addr} {n cap : Nat} {xs : List Int} (w : World) (hcap : n ≤ cap) (hx : xs.length = n) (hn : n ≤ 9223372036854775807) (hB : ∀ c ∈ xs, Byte c) (hE : Env w) (hL : Lies w A n xs) (hA : ∀ a, A = some a → a.block < w.heap.size) :
    Calls Tryd.prog 5 #[.slice A n cap] w fun e w' => e = .returned (.bool true) ∧ Below w.heap.size w w' := by
  have hb0 := Below.refl w.heap.size w
  have cv : ∀ (w : World) (o : Obj) (C : Array Value) (n c : Nat), (convert 25 25 (.slice (some ⟨w.heap.size + 1, 0, none⟩) n c)).run Tryd.prog ((w.alloc o).alloc (.cells C 5)) = .ok (.slice (some ⟨w.heap.size + 1, 0, none⟩) n c) ((w.alloc o).alloc (.cells C 5 (C.size, C.size + 1))) := fun w o C n c => by
    have := Lib.run_convert_bytes_const (P := Tryd.prog) (w.alloc o) 25 5 C n c Tryd.underlying25 Tryd.underlying5
    rwa [show (w.alloc o).heap.size = w.heap.size + 1 by simp] at this
  have hX : ∀ (W : World) (o : Obj), Env W → Calls Tryd.prog 11 #[.slice (some ⟨W.heap.size + 1, 0, none⟩) 1 1] ((W.alloc o).alloc (.cells #[.int .u8 120] 5 (1, 2))) fun e w' => Below ((W.alloc o).alloc (.cells #[.int .u8 120] 5 (1, 2))).heap.size ((W.alloc o).alloc (.cells #[.int .u8 120] 5 (1, 2))) w' ∧ ∃ ad c, e = .returned (.tuple #[.slice (some ad) 1 c, .agg #[.int .i64 0, .int .i64 0]]) ∧ 1 ≤ c ∧ w'.cell? ad = some (.int .i64 1) := fun W o hW => by
    have hE2 : Env ((W.alloc o).alloc (.cells #[.int .u8 120] 5 (1, 2))) := hW.below (((Below.refl _ _).alloc (Nat.le_refl _) o).alloc (by simp) _)
    have hL2 : Lies ((W.alloc o).alloc (.cells #[.int .u8 120] 5 (1, 2))) (some ⟨W.heap.size + 1, 0, none⟩) 1 [120] := fun i hi => by
      obtain rfl : i = 0 := by omega
      have := (cell_of_row ((W.alloc o).alloc (.cells #[.int .u8 120] 5 (1, 2))) (W.heap.size + 1) 0 #[.int .u8 120] 5 (1, 2) (by have := blk_new (W.alloc o) (.cells #[.int .u8 120] 5 (1, 2)); rwa [show (W.alloc o).heap.size = W.heap.size + 1 by simp] at this))
      exact ⟨_, rfl, this⟩
    refine (scan_env (xs := [120]) (Nat.le_refl _) rfl (by intro c hc; simp at hc; subst hc; unfold Byte; omega) hE2 hL2 (fun a ha => by cases ha; simp) ans_x).mono ?_
    rintro e w' ⟨hb, B, c, rfl, hc, hC⟩
    obtain ⟨ad, rfl, c0, _⟩ := at_T37 hC 0 (by omega) (by simp)
    refine ⟨hb, ad, c, rfl, hc, ?_⟩
    rw [← show ad.add ((0 : Int).toNat * 4) = ad from rfl, c0]; rfl
  rcases ans_form xs with ⟨ts, ha, hn6, hsc, hch⟩ | ⟨q, er, her, ha⟩
  · have hF := scan_env hcap hx hB hE hL hA ha
    rw [List.length_map] at hF
    go_enter Tryd.func5, Tryd.ntmps5
    go_wp2_with (first | (go_at_call 11; with_reducible refine hF.mono ?_; rintro e w1 ⟨hb1, B1, c1, rfl, hc1, hC1⟩; have hE1 := hE.below hb1) | (go_at_call 11; with_reducible refine (hX _ _ hE1).mono ?_; rintro e w2 ⟨hb2, ad2, c2, rfl, hc2, hC2⟩; have x2 := fun o => Lib.cell?_alloc_marked o hC2; have y2 := far2 hb2; have y3 := fun o => Lib.cell?_alloc_marked o y2))
    have H1 : Below w.heap.size w ((w1.alloc (.cells #[.int .i64 0, .int .i64 0] 29)).alloc (.cells #[.int .u8 120] 5 (1, 2))) := (hb1.alloc hb1.size _).alloc (by have := hb1.size; simp; omega) _
    have H2 := H1.trans (hb2.mono H1.size)
    have H3 := H2.alloc H2.size (.cells #[.int .i64 0, .int .i64 0] 29)
    have K1 : Below w1.heap.size w1 ((w1.alloc (.cells #[.int .i64 0, .int .i64 0] 29)).alloc (.cells #[.int .u8 120] 5 (1, 2))) := ((Below.refl _ _).alloc (Nat.le_refl _) _).alloc (by simp) _
    have K2 := K1.trans (hb2.mono K1.size)
    have hC0 := Aside0.mk (Kd.C_below hC1 (K2.alloc K2.size (.cells #[.int .i64 0, .int .i64 0] 29)))
    clear K1 K2 H1 H2 hb2 hb1 hE1 y2 y3 x2 hC2 hC1 hX hF cv ha hsc
    generalize w2.alloc (.cells #[.int .i64 0, .int .i64 0] 29) = W0 at hC0 H3 ⊢
    have GAP := gap_call (cap := cap) hcap hx hn6 hB hE hL hA
    clear hB hE hL hA hb0
    go_loopw [7, 48] (fun at_ i W => ∃ (p k : Nat) (us : List Tok), at_ = .int .i64 p ∧ i = .int .i64 k ∧ ts.drop k = us ∧ k ≤ ts.length ∧ p ≤ n ∧ Chain (xs.drop p) p us ∧ Below W0.heap.size W0 W) (fun _ i _ => ts.length - (intOf i).toNat)
    case atStart => exact ⟨0, 0, ts, rfl, rfl, rfl, by omega, by omega, hch, Below.refl _ _⟩
    case round =>
      obtain ⟨p, k, us, rfl, rfl, hus, hk, hp, hc, hB⟩ := hrel
      have hw := H3.trans (hB.mono H3.size)
      have hwB := Aside0.mk hB
      clear hB
      generalize hxp : xs.drop p = ys at hc
      cases hc with
      | done _ _ g =>
        have hll : ys.length + p = n := by rw [← hxp, List.length_drop]; omega
        have hkl : k = ts.length := by
          have := congrArg List.length hus
          rw [List.length_drop] at this
          simp at this
          omega
        obtain ⟨r, hr⟩ : ∃ r, n - p = r := ⟨_, rfl⟩
        have d0 : decide ((k : Int) < (ts.length : Int)) = false := decide_eq_false (by omega)
        have hsm : ∀ w, (Instr.sliceAt 25 (.slice A n cap) (some (.int .i64 (p : Int))) none none).run Tryd.prog w = .ok (.slice (tl A cap p) r (cap - p)) w := fun w => by
          rw [← hr]
          exact slice_from w A n cap p hp
        rw [← hxp, List.length_drop, hx, hr] at g
        have hG := fun o => GAP p r (by omega) g (wr.alloc o) (hw.alloc hw.size o)
        have hG0 := GAP p r (by omega) g wr hw
        clear GAP hus hch
        go_wp2_with (first | (go_at_call 11; with_reducible refine hG0.mono ?_; rintro e w3 ⟨hb3, B3, c3, rfl⟩))
        have L2 := hw.trans (hb3.mono hw.size)
        go_ret
        exact ⟨rfl, L2.alloc L2.size _⟩
      | tok _ _ k' m a v us' g h1 h2 hc' =>
        have hll : ys.length + p = n := by rw [← hxp, List.length_drop]; omega
        have hkl : k < ts.length := by
          rcases Nat.lt_or_ge k ts.length with h | h
          · exact h
          · rw [List.drop_eq_nil_of_le h] at hus; cases hus
        have hus2 := hus
        rw [List.drop_eq_getElem_cons hkl] at hus2
        have ht : rd_T37 (ts.map mkS) (k : Int) = mkS (a, ((p + k' : Nat) : Int), ((p + (k' + m) : Nat) : Int), v) := by
          have e1 : ts[k] = (a, ((p + k' : Nat) : Int), ((p + (k' + m) : Nat) : Int), v) := (List.cons.inj hus2).1
          rw [← e1]
          simp [rd_T37, List.getD, hkl]
        have hus3 : ts.drop (k + 1) = us' := (List.cons.inj hus2).2
        obtain ⟨s, hs⟩ : ∃ s, p + k' = s := ⟨_, rfl⟩
        obtain ⟨e2, he2⟩ : ∃ e2, p + (k' + m) = e2 := ⟨_, rfl⟩
        obtain ⟨ad, e, q0, q1, q2, q3⟩ := at_T37 (Kd.C_below hC0.out hwB.out) (k : Int) (by omega) (by omega)
        subst e
        rw [ht] at q0 q1 q2 q3
        simp only [mkS, hs, he2, Int.toNat_natCast] at q0 q1 q2 q3
        have d0 : decide ((k : Int) < (ts.length : Int)) = true := decide_eq_true (by omega)
        have k0 : (0 : Int) ≤ (k : Int) := by omega
        have k1 : (k : Int) < (ts.length : Int) := by omega
        have d1 : decide ((s : Int) < (p : Int)) = false := decide_eq_false (by omega)
        have d2 : decide ((e2 : Int) ≤ (s : Int)) = false := decide_eq_false (by omega)
        have d3 : decide ((n : Int) < (e2 : Int)) = false := decide_eq_false (by omega)
        have hsm : ∀ w, (Instr.sliceAt 25 (.slice A n cap) (some (.int .i64 (p : Int))) (some (.int .i64 (s : Int))) none).run Tryd.prog w = .ok (.slice (tl A cap p) k' (cap - p)) w := fun w => by
          have := slice_mid w A n cap p s (by omega) (by omega)
          rwa [show s - p = k' by omega] at this
        have wk : IntKind.i64.wrap ((k : Int) + 1) = (k : Int) + 1 := IntWalk.i64_in _ (by have := (hC0.out).2.1; omega)
        rw [← hxp] at g
        have hG := fun o => GAP p k' (by omega) g (wr.alloc o) (hw.alloc hw.size o)
        clear GAP hus hus2 hch
        clear ht
        go_wp2_with (first | (go_at_call 11; with_reducible refine (hG _).mono ?_; rintro e w3 ⟨hb3, B3, c3, rfl⟩; have y3 := far3 hb3; have y4 := fun o => Lib.cell?_alloc_marked o y3))
        have L1 := hwB.out.alloc hwB.out.size (.cells #[.int .i64 a, .int .i64 s, .int .i64 e2, .int .i64 v] 37)
        have L2 := L1.trans (hb3.mono L1.size)
        refine ⟨⟨e2, k + 1, us', rfl, by push_cast; rfl, hus3, by omega, by omega, ?_, L2.alloc L2.size _⟩, by simp [intOf]; omega⟩
        rw [← hxp, List.drop_drop, he2] at hc'
        exact hc'
  · have hF := scan_env hcap hx hB hE hL hA ha
    go_enter Tryd.func5, Tryd.ntmps5
    go_wp2_with (first | (go_at_call 11; with_reducible refine hF.mono ?_; rintro e w1 ⟨hb1, B1, c1, rfl, hc1, hC1⟩; have hE1 := hE.below hb1) | (go_at_call 11; with_reducible refine (hX _ _ hE1).mono ?_; rintro e w2 ⟨hb2, ad2, c2, rfl, hc2, hC2⟩; have x2 := fun o => Lib.cell?_alloc_marked o hC2; have y2 := far2 hb2; have y3 := fun o => Lib.cell?_alloc_marked o y2))
    have H1 : Below w.heap.size w ((w1.alloc (.cells #[.int .i64 q, .int .i64 er] 29)).alloc (.cells #[.int .u8 120] 5 (1, 2))) := (hb1.alloc hb1.size _).alloc (by have := hb1.size; simp; omega) _
    have H2 := H1.trans (hb2.mono H1.size)
    go_ret
    exact ⟨rfl, H2.alloc H2.size _⟩
end Go.Proofs.YteaegfkgnmfleaaDoor.Sc

