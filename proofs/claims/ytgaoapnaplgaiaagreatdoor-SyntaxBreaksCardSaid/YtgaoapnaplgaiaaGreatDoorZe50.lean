/- This claim's own texts, joined, with only what the claim uses: BrkC. -/
import Derived.Test.YtgaoapnaplgaiaaGreatDoorZe49
import Derived.Deep.CutRange
namespace Go.Proofs.YtgaoapnaplgaiaaGreatDoor.Sc
set_option maxRecDepth 100000
open Go.RowKit Tk Go.Proofs.YtgaoapnaplgaiaaGreatDoor.Wd

theorem slice_head (w : World) (a : Addr) (n cap h : Nat) (hh : h ≤ cap) : (Instr.sliceAt 22 (.slice (some a) n cap) none (some (.int .i64 (h : Int))) none).run Tryz.prog w = .ok (.slice (some a) h cap) w := by
  rw [run_sliceAt_slice (h := by rw [Tryz.underlying22]; rfl), run_slice_h (ht := by rw [Tryz.underlying22]; rfl) (h0 := by omega) (h2 := by omega)]
  go_simp
/-- A text that lies somewhere. -/
structure Txt (A : Option Addr) (n cap : Nat) (xs : List Int) (W : World) : Prop where
  hcap : n ≤ cap
  hx : xs.length = n
  hB : ∀ c ∈ xs, Byte c
  hL : Lies W A n xs
  hA : ∀ a, A = some a → a.block < W.heap.size
  hn : n + 2 ≤ 140737488355328
  h0 : A = none → n = 0 ∧ cap = 0
theorem Txt.below {A : Option Addr} {n cap : Nat} {xs : List Int} {W W' : World} (h : Txt A n cap xs W) (hb : Below W.heap.size W W') : Txt A n cap xs W' :=
  ⟨h.hcap, h.hx, h.hB, h.hL.below hb, fun a e => by have := h.hA a e; have := hb.size; omega, h.hn, h.h0⟩
theorem nums_of_bytes : ∀ {xs : List Int}, (∀ c ∈ xs, Byte c) → nums (strOfNums xs) = xs := by
  intro xs h
  unfold nums strOfNums
  simp only [List.map_map]
  conv => rhs; rw [← List.map_id xs]
  apply List.map_congr_left
  intro c hc
  have hb := h c hc
  unfold Byte at hb
  simp only [Function.comp, UInt8.toNat_ofNat', id]
  omega
theorem grown_own {w w1 : World} {base n s : Nat} {e : TypeId} {v : Value} {xs : List Value} (hg : w.grownBy w1 v.ownBlock) (h : w.ownsRow base e s v n xs) (hb : base ≤ w.heap.size) : Below base w w1 :=
  ⟨hg.os, hg.tape, hg.output, hg.size, fun k hk => hg.block k (by omega) (fun e => by have := (h.lt k e.symm).1; omega)⟩
set_option maxHeartbeats 8000000 in
theorem brk_walk (A : Option Addr) (n cap : Nat) (xs : List Int) (B : Option Addr) (m c2 : Nat) (ys : List Int) (W : World) (hE : Env W) (hS : Txt A n cap xs W) (hM : Txt B m c2 ys W) :
    Calls Tryz.prog 5 #[.slice A n cap, .slice B m c2] W fun e W' => e = .returned (.bool true) ∧ Below W.heap.size W W' := by
  have PC := Aside0.mk (parse_row A n cap xs W hS.hcap hS.hx hS.hB hE hS.hL hS.hA)
  have hS := Aside0.mk hS
  have hM := Aside0.mk hM
  have hE := Aside0.mk hE
  go_enter Tryz.func5, Tryz.ntmps5
  go_wp2_with (go_at_call 10; with_reducible refine PC.out.mono ?_)
  rintro e w1 ⟨hb1, o, p, er, A1, n1, c1, A2, n2, c2', A3, n3, c3, A4, n4, c4, hP, rfl⟩
  have hE1 := hE.out.grow hb1
  have hb1 := Aside0.mk hb1
  have hP := Aside0.mk hP
  have AW := Aside0.mk (fun o1 o2 => awake_call ((w1.alloc o1).alloc o2) ((hE1.alloc o1).alloc o2))
  clear PC
  by_cases her : er = 40 ∨ er = 41
  case neg =>
    have e1 : (er != 40) = true := bne_iff_ne.mpr (fun h => her (.inl h))
    have e2 : (er != 41) = true := bne_iff_ne.mpr (fun h => her (.inr h))
    clear her hP
    go_wp2_with (go_at_call 13; with_reducible refine (AW.out _ _).mono ?_)
    rintro e w2 ⟨rfl, hb2⟩
    have hb2 := Aside0.mk ((((Below.refl w1.heap.size w1).alloc (Nat.le_refl _) _).alloc (by simp) _).trans (hb2.mono (by simp; omega)))
    go_wp2
    go_ret
    exact ⟨rfl, hb1.out.trans (hb2.out.mono hb1.out.size)⟩
  case pos =>
    obtain ⟨hn, L, hsc, hend, hat⟩ := brk_at hS.out.hx hP.out her
    have hsc := Aside0.mk hsc
    have hend := Aside0.mk hend
    have hat := Aside0.mk hat
    have hn := Aside0.mk hn
    have hc : (er != 40) = false ∨ (er != 40) = true ∧ (er != 41) = false := by rcases her with rfl | rfl <;> simp
    have hS1 : ∀ o1 o2, Txt A n cap xs ((w1.alloc o1).alloc o2) := fun o1 o2 => hS.out.below (hb1.out.trans ((((Below.refl w1.heap.size w1).alloc (Nat.le_refl _) o1).alloc (by simp) o2).mono hb1.out.size))
    have SC := Aside0.mk (fun o1 o2 => scan_call A n cap xs ((w1.alloc o1).alloc o2) (hS1 o1 o2).hcap (hS1 o1 o2).hx (hS1 o1 o2).hB ((hE1.alloc o1).alloc o2) (hS1 o1 o2).hL (hS1 o1 o2).hA)
    clear hS1 her
    rcases hc with e1 | ⟨e1, e2⟩
    all_goals
      go_wp2_with (go_at_call 14; with_reducible refine (SC.out _ _).mono ?_)
      rintro e w2 hSO
      cases hSO with
      | long h hb2 => exact absurd hn.out (by omega)
      | bad p er h hs hb2 => exact absurd (hsc.out.symm.trans hs) (by intro h; cases h)
      | toks l B2 tc _ hs hb2 hle hBB ht =>
        obtain rfl : L = l := by injection hsc.out.symm.trans hs
        have hs := Aside0.mk hs
        have ht := Aside0.mk ht
        have hz1 : ((w1.alloc (.cells #[.slice A1 n1 c1, .slice A2 n2 c2', .slice A3 n3 c3, .slice A4 n4 c4] 27)).alloc (.cells #[.int .i64 p, .int .i64 er] 30)).heap.size = w1.heap.size + 2 := by simp
        have kf0 := blk_new (w1.alloc (.cells #[.slice A1 n1 c1, .slice A2 n2 c2', .slice A3 n3 c3, .slice A4 n4 c4] 27)) (.cells #[.int .i64 p, .int .i64 er] 30)
        rw [show (w1.alloc (.cells #[.slice A1 n1 c1, .slice A2 n2 c2', .slice A3 n3 c3, .slice A4 n4 c4] 27)).heap.size = w1.heap.size + 1 by simp] at kf0
        have kf := (hb2.block (w1.heap.size + 1) (by omega)).trans kf0
        have hbA := (hb1.out.trans ((((Below.refl w1.heap.size w1).alloc (Nat.le_refl _) (.cells #[.slice A1 n1 c1, .slice A2 n2 c2', .slice A3 n3 c3, .slice A4 n4 c4] 27)).alloc (by simp) (.cells #[.int .i64 p, .int .i64 er] 30)).mono hb1.out.size)).trans (hb2.mono (by rw [hz1]; have := hb1.out.size; omega))
        have hlt := (Array.getElem?_eq_some_iff.1 kf).1
        have hbA := Aside0.mk hbA
        have kf := Aside0.mk kf
        clear hBB hb2 hz1 SC hlt kf0
        go_upto_region 5 with fail
        have kf3 := Aside0.mk ((_root_.Go.heap_alloc_old w2 (.cells #[.int .i64 0, .int .i64 0] 30) (Array.getElem?_eq_some_iff.1 kf.out).1).trans kf.out)
        have hbB := Aside0.mk (hbA.out.alloc hbA.out.size (.cells #[.int .i64 0, .int .i64 0] 30))
        have ht3 : Aside0 (TokAt (w2.alloc (.cells #[.int .i64 0, .int .i64 0] 30)) B2 L) := ⟨fun i hi => by
          obtain ⟨b, e, q0, q1, q2, q3⟩ := ht.out i hi
          have hbl := (Below.refl w2.heap.size w2).alloc (Nat.le_refl _) (.cells #[.int .i64 0, .int .i64 0] 30)
          exact ⟨b, e, (hbl.cell (World.block_lt_of_cell? _ _ q0)).trans q0, (hbl.cell (World.block_lt_of_cell? _ _ q1)).trans q1, (hbl.cell (World.block_lt_of_cell? _ _ q2)).trans q2, (hbl.cell (World.block_lt_of_cell? _ _ q3)).trans q3⟩⟩
        generalize hX : w2.alloc (.cells #[.int .i64 0, .int .i64 0] 30) = w3 at kf3 hbB ht3 ⊢
        clear hX kf hbA ht
        have f0 : w3.cell? ⟨w1.heap.size + 1, 0, none⟩ = some (.int .i64 p) := blk_cell kf3.out 0
        have f1 : w3.cell? ⟨w1.heap.size + 1, 1, none⟩ = some (.int .i64 er) := blk_cell kf3.out 1
        have hAn : ∃ a, Aside0 (L = [] ∨ A = some a) := by
          cases A with
          | none =>
            cases L with
            | nil => exact ⟨⟨0, 0, none⟩, ⟨.inl rfl⟩⟩
            | cons t L =>
              have h1 := tok_in hsc.out (i := 0) (by simp)
              have h2 := (hS.out.h0 rfl).1
              have h3 := hS.out.hx
              omega
          | some a => exact ⟨a, ⟨.inr rfl⟩⟩
        obtain ⟨a, hAn⟩ := hAn
        go_wp2
        go_loopw [9] (fun i X => ∃ k q : Nat, i = .int .i64 (k : Int) ∧ k ≤ L.length ∧ X = w3.drewN q ∧ ∀ j, j < k → (L.getD j zTok).2.1 ≠ p) (fun i _ => L.length - (intOf i).toNat)
        case atStart => exact ⟨0, 0, rfl, Nat.zero_le _, rfl, fun j hj => by omega⟩
        case round =>
          obtain ⟨k, q, rfl, hk, rfl, hno⟩ := hrel
          have hno := Aside0.mk hno
          by_cases hkl : k < L.length
          · obtain ⟨b, rfl, q0, q1, q2, q3⟩ := ht3.out k hkl
            have d0 : decide ((k : Int) < (L.length : Int)) = true := decide_eq_true (by omega)
            have k0 : (0 : Int) ≤ (k : Int) := by omega
            have k1 : (k : Int) < (L.length : Int) := by omega
            obtain ⟨po, hpo⟩ : ∃ po, Aside0 ((L.getD k zTok).2.1 = po) := ⟨_, ⟨rfl⟩⟩
            rw [hpo.out] at q1
            by_cases hpp : po = p
            · subst hpp
              have e3 : (po != po) = false := by simp
              obtain ⟨h1, h2, h3⟩ := tok_in hsc.out hkl
              obtain ⟨e, he⟩ : ∃ e : Nat, (L.getD k zTok).2.2.1 = (e : Int) := Int.eq_ofNat_of_zero_le (by omega)
              rw [he] at q2 h3
              have hAe : A = some a := hAn.out.resolve_left (fun h => by rw [h] at hkl; simp at hkl)
              subst hAe
              have hT3 : Txt (some a) n cap xs w3 := hS.out.below hbB.out
              have hM3 : Txt B m c2 ys w3 := hM.out.below hbB.out
              have hE3 : Env w3 := hE.out.grow hbB.out
              have hlen := hT3.hx
              have hcp := hT3.hcap
              have hmn := hM3.hn
              have hAt := Aside0.mk (hat.out k hkl hpo.out e he)
              have hsl : ∀ w, (Instr.sliceAt 22 (.slice (some a) n cap) none (some (.int .i64 (e : Int))) none).run Tryz.prog w = .ok (.slice (some a) e cap) w := fun w => slice_head w a n cap e (by omega)
              have hLA : ∀ q, Lies (w3.drewN q) (some a) e (xs.take e) := fun q i hi => by
                refine ⟨a, rfl, ?_⟩
                have := hT3.hL.at i (by omega)
                simp only [List.getD_eq_getElem?_getD] at this ⊢
                rw [List.getElem?_take_of_lt hi]
                exact this
              have hinfo : (Tryz.prog.info? 5).map (fun i => (i.zero, i.size, i.bytes)) = some (some (.int .u8 0), 1, 1) := by kernel_rfl
              obtain ⟨i0, hi, hz0, hz1, hz2⟩ := info_parts hinfo
              have ele : e ≤ n := by omega
              have hnn := hn.out
              have hT3 := Aside0.mk hT3
              have hM3 := Aside0.mk hM3
              have hE3 := Aside0.mk hE3
              have hxt : (xs.take e).length = e := by rw [List.length_take]; omega
              have hxt := Aside0.mk hxt
              clear q0 q3 he h1 h2 h3 hinfo hlen
              go_wp2
              go_quiet (fail)
              go_upto_region 11 with (at_builtin; refine wpList_append_txt rfl (.tmp 46) (.tmp 53) rfl (base := w3.heap.size) hi hz0 hz1 hz2 (v := .slice none 0 0) (n := 0) (xs := []) rfl (World.ownsRow_nil _ _ _ _) (ys := xs.take e) rfl (hLA _) hxt.out (fun h => by cases h) (by omega) (Nat.le_refl _) ?_; intro v4 w4 hown4 hg4)
              have hb4 := (bel_drewN (Below.refl w3.heap.size w3) _).trans (grown_own hg4 (World.ownsRow_nil _ w3.heap.size 5 1) (Nat.le_refl _))
              rw [Nat.zero_add, List.nil_append] at hown4
              have z4 := hb4.size
              have hL32 : Lies (w4.alloc (.cells #[.int .u8 32] 5)) (some ⟨w4.heap.size, 0, none⟩) 1 [32] := fun i hi => by
                obtain rfl : i = 0 := by omega
                exact ⟨_, rfl, by rw [show (⟨w4.heap.size, 0, none⟩ : Addr).add 0 = ⟨w4.heap.size, 0, none⟩ by unfold Addr.add; simp]; exact blk_cell (blk_new w4 (.cells #[.int .u8 32] 5)) 0⟩
              have hown4' := hown4.alloc (.cells #[.int .u8 32] 5)
              have hb4 := Aside0.mk hb4
              have hL32 := Aside0.mk hL32
              have hown4' := Aside0.mk hown4'
              clear hown4 hg4 hLA hsl
              go_upto_region 12 with (at_builtin; refine wpList_append_txt rfl (.tmp 55) (.tmp 56) rfl (base := w3.heap.size) hi hz0 hz1 hz2 (v := v4) rfl hown4'.out (ys := [32]) rfl hL32.out rfl (fun h => by cases h) (by omega) (by simp; omega) ?_; intro v5 w5 hown5 hg5)
              have hb5 := hb4.out.trans (((Below.refl w3.heap.size w4).alloc z4 (.cells #[.int .u8 32] 5)).trans (grown_own hg5 hown4'.out (by simp; omega)))
              have z5 := hb5.size
              have hL5 := Aside0.mk (hM3.out.below hb5)
              have hb5 := Aside0.mk hb5
              have hown5 := Aside0.mk hown5
              clear hg5 hb4 hL32 hown4' z4
              go_upto_region 13 with (at_builtin; refine wpList_append_txt rfl (.tmp 58) (.tmp 59) rfl (base := w3.heap.size) hi hz0 hz1 hz2 (v := v5) rfl hown5.out (ys := ys) rfl hL5.out.hL hL5.out.hx (fun h => ⟨(hL5.out.h0 h).1, (hL5.out.h0 h).2⟩) (by omega) z5 ?_; intro v6 w6 hown6 hg6)
              have hb6 := hb5.out.trans (grown_own hg6 hown5.out z5)
              have ezs : xs.take e ++ [32] ++ ys = xs.take e ++ 32 :: ys := by simp
              rw [ezs] at hown6
              obtain ⟨n6, hn6⟩ : ∃ n6, Aside0 (n6 = e + 1 + m) := ⟨_, ⟨rfl⟩⟩
              rw [← hn6.out] at hown6
              obtain ⟨zs, hzs⟩ : ∃ zs, Aside0 (zs = xs.take e ++ 32 :: ys) := ⟨_, ⟨rfl⟩⟩
              rw [← hzs.out] at hown6
              obtain ⟨A6, c6, rfl, hc6, hA6, hL6, hz6⟩ := own_bytes hown6
              have hBz : ∀ c ∈ zs, Byte c := by
                rw [hzs.out]
                intro c hc
                rcases List.mem_append.1 hc with h | h
                · exact hT3.out.hB c (List.mem_of_mem_take h)
                · rcases List.mem_cons.1 h with rfl | h
                  · exact ⟨by omega, by omega⟩
                  · exact hM3.out.hB c h
              obtain ⟨S, hSd⟩ : ∃ S, Aside0 (strOfNums zs = S) := ⟨_, ⟨rfl⟩⟩
              have hnS : nums S = zs := by rw [← hSd.out]; exact nums_of_bytes hBz
              have hsS : S.size = n6 := by rw [← nums_len, hnS]; exact hz6
              have cv := hL6.bytes.convert hz6 c6 22 5 9 Tryz.underlying22 Tryz.underlying5 Tryz.underlying9
              rw [hSd.out] at cv
              have hE6 := hE3.out.grow hb6
              have WC := Aside0.mk (within_call S w6 hE6)
              have hL6 := Aside0.mk hL6
              have hA6 := Aside0.mk hA6
              have hnS := Aside0.mk hnS
              have hsS := Aside0.mk hsS
              have hBz := Aside0.mk hBz
              have hz6 := Aside0.mk hz6
              have hb6 := Aside0.mk hb6
              have hE6 := Aside0.mk hE6
              clear hown6 hg6 hown5 hb5 hL5 ezs z5
              go_wp2_with (go_at_call 17; with_reducible refine WC.out.mono ?_)
              rintro e' w7 ⟨hb7, bb, rfl, hbb⟩
              have hE7 := hE6.out.below hb7
              have AW7 := Aside0.mk (awake_call w7 hE7)
              have hb7' := Aside0.mk (hb6.out.trans (hb7.mono hb6.out.size))
              cases bb with
              | false =>
                clear WC cv
                go_wp2_with (go_at_call 13; with_reducible refine AW7.out.mono ?_)
                rintro e' w8 ⟨rfl, hb8⟩
                have hb8 := Aside0.mk (hb7'.out.trans (hb8.mono hb7'.out.size))
                clear hb7
                go_wp2
                go_ret
                exact ⟨rfl, hbB.out.trans (hb8.out.mono hbB.out.size)⟩
              | true =>
                obtain ⟨hs7, L7, hsc7⟩ := hbb rfl
                have hs7 := Aside0.mk hs7
                have hsc7 := Aside0.mk hsc7
                have PX := Aside0.mk (parse_row A6 n6 c6 zs w7 hc6 hz6.out hBz.out hE7 (hL6.out.below hb7) (fun a e => by have := hA6.out a e; have := hb7.size; omega))
                clear WC cv AW7 hbb hb7
                go_wp2_with (go_at_call 10; with_reducible refine PX.out.mono ?_)
                rintro e' w8 ⟨hb8, o2, p8, e8, D1, m1, r1, D2, m2, r2, D3, m3, r3, D4, m4, r4, hP2, rfl⟩
                obtain ⟨e3, e4⟩ := hAt.out ys n6 L7 (by rw [← hsS.out]; exact hs7.out) (by rw [← hzs.out, ← hnS.out]; exact hsc7.out) o2 p8 e8 (by rw [← hzs.out]; exact hP2)
                subst e3
                subst e4
                have hb8' := hb7'.out.trans (hb8.mono hb7'.out.size)
                have hlt := (Array.getElem?_eq_some_iff.1 kf3.out).1
                have kf8 := (hb8'.block (w1.heap.size + 1) hlt).trans kf3.out
                have kfo := fun o1 o2 => (_root_.Go.heap_alloc_old (w8.alloc o1) o2 (by have := (Array.getElem?_eq_some_iff.1 kf8).1; simp; omega)).trans ((_root_.Go.heap_alloc_old w8 o1 (Array.getElem?_eq_some_iff.1 kf8).1).trans kf8)
                have g0 : ∀ o1 o2, ((w8.alloc o1).alloc o2).cell? ⟨w1.heap.size + 1, 0, none⟩ = some (.int .i64 p8) := fun o1 o2 => blk_cell (kfo o1 o2) 0
                have g1 : ∀ o1 o2, ((w8.alloc o1).alloc o2).cell? ⟨w1.heap.size + 1, 1, none⟩ = some (.int .i64 e8) := fun o1 o2 => blk_cell (kfo o1 o2) 1
                have AW8 := Aside0.mk (fun o1 o2 => awake_call ((w8.alloc o1).alloc o2) (((hE7.below hb8).alloc o1).alloc o2))
                have hb8' := Aside0.mk hb8'
                clear PX hP2 hb8 kf8 kfo hlt f0 f1
                go_wp2_with (go_at_call 13; with_reducible refine (AW8.out _ _).mono ?_)
                rintro e' w9 ⟨rfl, hb9⟩
                have hb9 := Aside0.mk ((((Below.refl w8.heap.size w8).alloc (Nat.le_refl _) _).alloc (by simp) _).trans (hb9.mono (by simp; omega)))
                go_wp2
                go_ret
                exact ⟨rfl, hbB.out.trans ((hb8'.out.trans (hb9.out.mono hb8'.out.size)).mono hbB.out.size)⟩
            · have e3 : (po != p) = true := bne_iff_ne.mpr hpp
              have hL16 := (scan_fine hsc.out).1
              have wk : wrap64 ((k : Int) + 1) = ((k + 1 : Nat) : Int) := by rw [IntWalk.wrap64_in _ (by omega)]; rfl
              clear q0 q2 q3
              go_wp2
              go_quiet (fail)
              go_wp2
              go_round
              case rel => exact ⟨k + 1, _, by (try rw [wk]); rfl, hkl, rfl, fun j hj => by
                rcases Nat.lt_or_ge j k with h | h
                · exact hno.out j h
                · obtain rfl : j = k := by omega
                  rw [hpo.out]; exact hpp⟩
              case measure => (try rw [wk]); simp [intOf]; omega
          · obtain rfl : k = L.length := by omega
            have d0 : decide ((L.length : Int) < (L.length : Int)) = false := decide_eq_false (by omega)
            have hpn := hend.out (fun i hi => hno.out i hi)
            subst hpn
            have hbq := bel_drewN (Below.refl w3.heap.size w3) q
            have AWq := Aside0.mk (awake_call (w3.drewN q) ((hE.out.grow hbB.out).grow hbq))
            have hbq := Aside0.mk hbq
            go_wp2_with (go_at_call 13; with_reducible refine AWq.out.mono ?_)
            rintro e' w9 rfl hb9
            have hb9 := Aside0.mk (hbq.out.trans (hb9.mono hbq.out.size))
            go_wp2
            go_ret
            exact ⟨rfl, hbB.out.trans (hb9.out.mono hbB.out.size)⟩
end Go.Proofs.YtgaoapnaplgaiaaGreatDoor.Sc

