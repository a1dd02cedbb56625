/- This claim's own texts, joined, with only what the claim uses: BlkC. -/
import Derived.Test.YtgaoapnaplgaiaaGreatDoorZf49
import Derived.Deep.RegionHeld3
namespace Go.Proofs.YtgaoapnaplgaiaaGreatDoor.Sc
set_option maxRecDepth 100000
open Go.RowKit Tk Go.Proofs.YtgaoapnaplgaiaaGreatDoor.Wd

/-- The gaps that are handed in. -/
def Nums (W : World) (G : Option Addr) (gl : Nat) : Prop := ∀ i, i < gl → ∃ b z, G = some b ∧ W.cell? (b.add i) = some (.int .i64 z)
theorem Nums.below {W W' : World} {G : Option Addr} {gl : Nat} (h : Nums W G gl) (hb : Below W.heap.size W W') : Nums W' G gl := fun i hi => by
  obtain ⟨b, z, e, hc⟩ := h i hi
  exact ⟨b, z, e, (hb.cell (World.block_lt_of_cell? _ _ hc)).trans hc⟩
/-- What the first loop keeps. -/
structure LpB (W : World) (xs : List Int) (L : List Tok) (base : Nat) (k : Nat) (out at_ : Value) (X : World) : Prop where
  ex : ∃ (l : List Pc) (g : List Int) (m : Nat), l.length = k ∧ OkP l ∧ Same1 xs L l ∧ (g = [] ∨ IsGap g) ∧ (flat l ++ g).length = m ∧ m ≤ 65600 * k ∧ (∀ c ∈ flat l ++ g, Byte c) ∧ RowsX base X out at_ m (flat l ++ g) ((toksOf 0 l).map fun t => t.2.1)
  bel : Below base W X
theorem LpB.next {W X : World} {xs : List Int} {L : List Tok} {base k m s1 s2 s3 n1 n2 n3 : Nat} {pz : List Int} {out at_ : Value} {l : List Pc} {g : List Int} {j j2 p e : Nat} (hl : l.length = k) (hok : OkP l) (hs : Same1 xs L l) (hg : g = [] ∨ IsGap g) (hm : (flat l ++ g).length = m) (hmk : m ≤ 65600 * k) (hby : ∀ c ∈ flat l ++ g, Byte c) (hxb : ∀ c ∈ xs, Byte c)
    (hsc : scan KB xs 0 [] = .toks L) (hk : k < L.length) (hp : (L.getD k zTok).2.1 = (p : Int)) (he : (L.getD k zTok).2.2.1 = (e : Int)) (hx : xs.length ≤ 65536) (h1 : (btS j).size = s1) (h2 : e - p = s2) (h3 : (btS j2).size = s3) (hn1 : m + s1 = n1) (hn2 : n1 + s2 = n2) (hn3 : n2 + s3 = n3) (hpz : (toksOf 0 l).map (fun t => t.2.1) = pz)
    (hR : RowsX base X out at_ n3 (flat l ++ g ++ nums (btS j) ++ txt xs (L.getD k zTok) ++ nums (btS j2)) (pz ++ [(n1 : Int)])) (hb : Below base W X) : LpB W xs L base (k + 1) out at_ X := by
  subst hpz
  obtain ⟨t1, t2, t3⟩ := tok_in hsc hk
  have hb1 := btS_len j
  have hb2 := btS_len j2
  have hw1 := btw_len j
  have hw2 := btw_len j2
  have hgap : IsGap (g ++ btw j) := by
    rcases hg with rfl | hg
    · exact btw_gap j
    · exact hg.app (btw_gap j)
  have hfl : flat (l ++ [(g ++ btw j, txt xs (L.getD k zTok), (L.getD k zTok).1, (L.getD k zTok).2.2.2)]) ++ btw j2 = flat l ++ g ++ nums (btS j) ++ txt xs (L.getD k zTok) ++ nums (btS j2) := by
    rw [flat_snoc, btS_nums, btS_nums]; simp
  have hlen : (flat (l ++ [(g ++ btw j, txt xs (L.getD k zTok), (L.getD k zTok).1, (L.getD k zTok).2.2.2)]) ++ btw j2).length = n3 := by
    rw [hfl]
    have := hR.o.1
    simpa [u8s] using this
  refine ⟨⟨l ++ [(g ++ btw j, txt xs (L.getD k zTok), (L.getD k zTok).1, (L.getD k zTok).2.2.2)], btw j2, n3, by simp [hl], ?_, ?_, .inr (btw_gap j2), hlen, by omega, ?_, ?_⟩, hb⟩
  · intro x hx
    rcases List.mem_append.1 hx with hx | hx
    · exact hok x hx
    · simp only [List.mem_singleton] at hx
      subst hx
      exact ⟨hgap, toks_single hsc hk⟩
  · intro i x hi
    rcases Nat.lt_or_ge i l.length with h | h
    · rw [List.getElem?_append_left h] at hi
      exact hs i x hi
    · rw [List.getElem?_append_right h] at hi
      have : i - l.length = 0 := by
        rcases Nat.eq_zero_or_pos (i - l.length) with h0 | h0
        · exact h0
        · rw [List.getElem?_eq_none (by simp; omega)] at hi; cases hi
      rw [this] at hi
      simp only [List.getElem?_cons_zero, Option.some.injEq] at hi
      obtain rfl : i = k := by omega
      subst hi
      exact ⟨rfl, rfl, rfl⟩
  · rw [hfl]
    intro x hx
    rcases List.mem_append.1 hx with hx | hx
    · rcases List.mem_append.1 hx with hx | hx
      · rcases List.mem_append.1 hx with hx | hx
        · exact hby x hx
        · exact nums_byte _ x hx
      · exact hxb x (List.mem_of_mem_drop (List.mem_of_mem_take hx))
    · exact nums_byte _ x hx
  · rw [hfl, toksOf_snoc, List.map_append]
    have : (0 + (flat l).length + (g ++ btw j).length) = n1 := by
      rw [← hn1, ← hm, ← h1, hb1, List.length_append, List.length_append]; omega
    dsimp only [List.map_cons, List.map_nil]
    rw [this]
    exact hR
theorem box0 (w : World) (v : Value) (t : TypeId) : (w.alloc (.cells #[v] t)).cell? ((⟨w.heap.size, 0, none⟩ : Addr).add 0) = some v := by
  rw [show (⟨w.heap.size, 0, none⟩ : Addr).add 0 = ⟨w.heap.size, 0, none⟩ by unfold Addr.add; split <;> simp_all]
  exact blk_cell (blk_new w _) 0
set_option maxHeartbeats 8000000 in
theorem blank_walk (A : Option Addr) (n cap : Nat) (xs : List Int) (G : Option Addr) (gl gc : Nat) (W : World) (hE : Env W) (hS : Txt A n cap xs W) (hG : Nums W G gl) (hgl : gl ≤ 9223372036854775807) :
    Calls Tryz.prog 4 #[.slice A n cap, .slice G gl gc] W fun e W' => e = .returned (.bool true) ∧ Below W.heap.size W W' := by
  have SC := Aside0.mk (scan_call A n cap xs W hS.hcap hS.hx hS.hB hE hS.hL hS.hA)
  replace hS := Aside0.mk hS
  replace hE := Aside0.mk hE
  replace hG := Aside0.mk hG
  replace hgl := Aside0.mk hgl
  go_enter Tryz.func4, Tryz.ntmps4
  go_wp2_with (go_at_call 14; with_reducible refine SC.out.mono ?_)
  rintro e w1 hSO
  cases hSO with
  | long h hb =>
    have AW := Aside0.mk (fun o => awake_call (w1.alloc o) ((hE.out.grow hb).alloc o))
    replace hb := Aside0.mk hb
    clear SC
    go_wp2_with (go_at_call 13; with_reducible refine (AW.out _).mono ?_)
    rintro e w2 ⟨rfl, hb2⟩
    replace hb2 := Aside0.mk (((Below.refl w1.heap.size w1).alloc (Nat.le_refl _) _).trans (hb2.mono (by simp)))
    go_wp2
    go_ret
    exact ⟨rfl, hb.out.trans (hb2.out.mono hb.out.size)⟩
  | bad p er h hs hb =>
    have hne := scan_err hs
    have e0 : (er != 0) = true := bne_iff_ne.mpr (by omega)
    have AW := Aside0.mk (fun o => awake_call (w1.alloc o) ((hE.out.grow hb).alloc o))
    replace hb := Aside0.mk hb
    clear SC hs hne
    go_wp2_with (go_at_call 13; with_reducible refine (AW.out _).mono ?_)
    rintro e w2 ⟨rfl, hb2⟩
    replace hb2 := Aside0.mk (((Below.refl w1.heap.size w1).alloc (Nat.le_refl _) _).trans (hb2.mono (by simp)))
    go_wp2
    go_ret
    exact ⟨rfl, hb.out.trans (hb2.out.mono hb.out.size)⟩
  | toks L B2 tc hn hsc hb hle hBB ht =>
    replace hsc := Aside0.mk hsc
    have hL16 := (scan_fine hsc.out).1
    replace hn := Aside0.mk hn
    clear SC hBB
    go_upto_region 2 with fail
    have hb1 : Below W.heap.size W (w1.alloc (.cells #[.int .i64 0, .int .i64 0] 30)) := hb.alloc hb.size _
    have ht1 : Aside0 (TokAt (w1.alloc (.cells #[.int .i64 0, .int .i64 0] 30)) B2 L) := ⟨fun i hi => by
      obtain ⟨b, e, q0, q1, q2, q3⟩ := ht i hi
      have hbl := (Below.refl w1.heap.size w1).alloc (Nat.le_refl _) (.cells #[.int .i64 0, .int .i64 0] 30)
      exact ⟨b, e, (hbl.cell (World.block_lt_of_cell? _ _ q0)).trans q0, (hbl.cell (World.block_lt_of_cell? _ _ q1)).trans q1, (hbl.cell (World.block_lt_of_cell? _ _ q2)).trans q2, (hbl.cell (World.block_lt_of_cell? _ _ q3)).trans q3⟩⟩
    have f1 : (w1.alloc (.cells #[.int .i64 0, .int .i64 0] 30)).cell? ⟨w1.heap.size, 1, none⟩ = some (.int .i64 0) := blk_cell (blk_new w1 _) 1
    generalize w1.alloc (.cells #[.int .i64 0, .int .i64 0] 30) = Y at *
    have hS1 := Aside0.mk (hS.out.below hb1)
    have hG1 := Aside0.mk (hG.out.below hb1)
    have hE1 := Aside0.mk (hE.out.grow hb1)
    replace hb1 := Aside0.mk hb1
    replace hL16 := Aside0.mk hL16
    clear hb ht
    go_wp2
    go_loopw [7, 8, 9] (fun out at_ i X => ∃ k : Nat, i = .int .i64 (k : Int) ∧ k ≤ L.length ∧ LpB Y xs L Y.heap.size k out at_ X) (fun _ _ i _ => L.length - (intOf i).toNat)
    case atStart => exact ⟨0, rfl, Nat.zero_le _, ⟨⟨[], [], 0, rfl, (fun x hx => by cases hx), (fun i x h => by simp at h), .inl rfl, rfl, Nat.zero_le _, (fun c hc => by simp [flat] at hc), ⟨World.ownsRow_nil _ _ _ _, World.ownsRow_nil _ _ _ _⟩⟩, Below.refl _ _⟩⟩
    case round =>
      obtain ⟨k, rfl, hk, hLp⟩ := hrel
      by_cases hkl : k < L.length
      · have d0 : decide ((k : Int) < (L.length : Int)) = true := decide_eq_true (by omega)
        have hN : ∃ z : Int, Aside0 (gl = 0 ∧ z = (k : Int) ∨ 0 < gl ∧ ∃ b, G = some b ∧ wr.cell? (b.add (k % gl)) = some (.int .i64 z)) := by
          rcases Nat.eq_zero_or_pos gl with h | h
          · exact ⟨k, ⟨.inl ⟨h, rfl⟩⟩⟩
          · obtain ⟨b, z, e, hc⟩ := (hG1.out.below hLp.bel) (k % gl) (Nat.mod_lt _ h)
            exact ⟨z, ⟨.inr ⟨h, b, e, hc⟩⟩⟩
        obtain ⟨z, hz⟩ := hN
        obtain ⟨j, BT⟩ := between_call z
        replace BT := Aside0.mk BT
        obtain ⟨q, hq⟩ : ∃ q, Aside0 (q = if gl = 0 then (k : Int) / 6 else wrap64 (Int.tdiv z 6)) := ⟨_, ⟨rfl⟩⟩
        obtain ⟨j2, BT2⟩ := between_call q
        replace BT2 := Aside0.mk BT2
        obtain ⟨l, g, m, hl1, hl2, hl3, hg, hm, hsz, hby, hR⟩ := hLp.ex
        have hbX := Aside0.mk hLp.bel
        obtain ⟨t1, t2, t3⟩ := tok_in hsc.out hkl
        obtain ⟨p, hp⟩ : ∃ p : Nat, (L.getD k zTok).2.1 = (p : Int) := Int.eq_ofNat_of_zero_le (by omega)
        obtain ⟨e, he⟩ : ∃ e : Nat, (L.getD k zTok).2.2.1 = (e : Int) := Int.eq_ofNat_of_zero_le (by omega)
        rw [hp] at t1 t2
        rw [he] at t2 t3
        have hxn := hS1.out.hx
        have hnn := hn.out
        have hL16' := hL16.out
        have hcp := hS1.out.hcap
        have epn : e ≤ n := by omega
        have ple : p ≤ e := by omega
        obtain ⟨s1, h1⟩ : ∃ s1, Aside0 ((btS j).size = s1) := ⟨_, ⟨rfl⟩⟩
        have h13 : s1 ≤ 13 := by have := btS_len j; have := btw_len j; have := h1.out; omega
        obtain ⟨s2, h2⟩ : ∃ s2, Aside0 (e - p = s2) := ⟨_, ⟨rfl⟩⟩
        have h2n : s2 ≤ 65536 := by have := h2.out; omega
        obtain ⟨n1, hn1⟩ : ∃ n1, Aside0 (m + s1 = n1) := ⟨_, ⟨rfl⟩⟩
        obtain ⟨n2, hn2⟩ : ∃ n2, Aside0 (n1 + s2 = n2) := ⟨_, ⟨rfl⟩⟩
        have b1 : n1 ≤ 140737488355328 := by have := hn1.out; omega
        have b2 : n2 ≤ 140737488355328 := by have := hn1.out; have := hn2.out; omega
        obtain ⟨s3, h3⟩ : ∃ s3, Aside0 ((btS j2).size = s3) := ⟨_, ⟨rfl⟩⟩
        have h33 : s3 ≤ 13 := by have := btS_len j2; have := btw_len j2; have := h3.out; omega
        obtain ⟨n3, hn3⟩ : ∃ n3, Aside0 (n2 + s3 = n3) := ⟨_, ⟨rfl⟩⟩
        have wk : wrap64 ((k : Int) + 1) = ((k + 1 : Nat) : Int) := by rw [IntWalk.wrap64_in _ (by omega)]; rfl
        replace wk := Aside0.mk wk
        have b3 : n3 ≤ 140737488355328 := by have := hn1.out; have := hn2.out; have := hn3.out; omega
        have b3' : n2 + 13 ≤ 140737488355328 := by have := hn1.out; have := hn2.out; omega
        have hps : ((toksOf 0 l).map fun t => t.2.1).length = k := by rw [List.length_map, toksOf_length, hl1]
        have bps : ((toksOf 0 l).map fun t => t.2.1).length ≤ 1000000 := by omega
        have hLm := hS1.out.hL.mid hS1.out.hcap (l := p) (m := s2) (by have := h2.out; omega)
        have hym : ((xs.drop p).take s2).length = s2 := by rw [List.length_take, List.length_drop]; have := h2.out; omega
        have htx : (xs.drop p).take s2 = txt xs (L.getD k zTok) := by
          unfold txt
          rw [hp, he, show ((e : Int) - (p : Int)).toNat = s2 by have := h2.out; omega, Int.toNat_natCast]
        rw [htx] at hLm hym
        replace hLm := Aside0.mk hLm
        replace hym := Aside0.mk hym
        have hsm : ∀ w, (Instr.sliceAt 22 (.slice A n cap) (some (.int .i64 (p : Int))) (some (.int .i64 (e : Int))) none).run Tryz.prog w = .ok (.slice (tl A cap p) s2 (cap - p)) w := fun w => by
          have := slice_mid w A n cap p e (by omega) (by omega)
          rwa [h2.out] at this
        obtain ⟨b, hBe, q0, q1, q2, q3⟩ := ht1.out k hkl
        rw [hp] at q1
        rw [he] at q2
        replace hl1 := Aside0.mk hl1
        replace hl2 := Aside0.mk hl2
        replace hl3 := Aside0.mk hl3
        replace hg := Aside0.mk hg
        replace hm := Aside0.mk hm
        replace hsz := Aside0.mk hsz
        replace hby := Aside0.mk hby
        obtain ⟨pz, hpz⟩ : ∃ pz, Aside0 ((toksOf 0 l).map (fun t => t.2.1) = pz) := ⟨_, ⟨rfl⟩⟩
        rw [hpz.out] at hR bps hps
        replace hR := Aside0.mk hR
        replace hp := Aside0.mk hp
        replace he := Aside0.mk he
        replace hps := Aside0.mk hps
        clear t1 t2 t3 htx q0 q3
        have hinfo : (Tryz.prog.info? 5).map (fun i => (i.zero, i.size, i.bytes)) = some (some (.int .u8 0), 1, 1) := by kernel_rfl
        obtain ⟨i5, hi5, hz0, hz1, hz2⟩ := info_parts hinfo
        have hinfo3 : (Tryz.prog.info? 3).map (fun i => (i.zero, i.size, i.bytes)) = some (some (.int .i64 0), 1, 8) := by kernel_rfl
        obtain ⟨i3, hi3, hy0, hy1, hy2⟩ := info_parts hinfo3
        clear hinfo3
        clear hLp hinfo
        subst hBe
        have hbase : ∀ {Z : World}, Below wr.heap.size wr Z → Y.heap.size ≤ Z.heap.size := fun h => Nat.le_trans hbX.out.size h.size
        replace hbase := Aside0.mk (@hbase)
        rcases hz.out with ⟨h0, hzk⟩ | ⟨h0, b', hGb, hc⟩
        · have hq2 := hq.out
          rw [if_pos h0] at hq2
          clear hq
          subst hq2
          subst h0
          subst hzk
          go_upto_region 13 with (first | (go_at_call 15; with_reducible refine (BT.out _).mono ?_; rintro e w2 ⟨rfl, hb2⟩) | (at_builtin; refine wpList_append_str rfl (.tmp 42) (.tmp 44) rfl hi5 hz0 hz1 hz2 rfl (hR.out.below hb2) rfl h1.out hn1.out b1 (hbase.out hb2) ?_; rintro o1 w3 hR1 hb3 ⟨B1, c1, rfl⟩))
          have hY3 := (hbX.out.trans (hb2.mono hbX.out.size)).trans hb3
          have hbA3 : ∀ o, Y.heap.size ≤ (w3.alloc o).heap.size := fun o => by have := hY3.size; simp; omega
          replace hY3 := Aside0.mk hY3
          replace hbA3 := Aside0.mk hbA3
          replace hR1 := Aside0.mk hR1
          clear hb2 hb3 hR
          go_upto_region 14 with (first | (at_builtin; refine wpList_append_num rfl (.tmp 46) (.tmp 49) rfl hi3 hy0 hy1 hy2 rfl (hR1.out.below ((Below.refl _ _).alloc (Nat.le_refl _) _)) rfl (box0 _ _ _) bps (hbA3.out _) ?_; rintro a1 w4 hR2 hb4 ⟨B3, c3, rfl⟩))
          have hY4 := (hY3.out.alloc hY3.out.size (.cells #[.int .i64 n1] 3)).trans hb4
          have SK : ∀ Z, Below Y.heap.size Y Z → Z.cell? ⟨(b.add (k * 4)).block, (b.add (k * 4)).off + 1, none⟩ = some (.int .i64 (p : Int)) ∧ Z.cell? ⟨(b.add (k * 4)).block, (b.add (k * 4)).off + 2, none⟩ = some (.int .i64 (e : Int)) := fun Z hZ => ⟨(hZ.cell (World.block_lt_of_cell? _ _ q1)).trans q1, (hZ.cell (World.block_lt_of_cell? _ _ q2)).trans q2⟩
          replace SK := Aside0.mk SK
          have hS0 := Aside0.mk (SK.out _ hY4.drew)
          replace hY4 := Aside0.mk hY4
          have hR2 := Aside0.mk (hR2.below (Below.refl w4.heap.size w4).drew)
          have hL4 := Aside0.mk (hLm.out.below hY4.out.drew)
          have h40 := Aside0.mk (fun (h : tl A cap p = none) => (⟨by
            cases A with
            | none => have := (hS1.out.h0 rfl).1; have := h2.out; omega
            | some a => unfold tl at h; exact absurd h (by split <;> simp), by
            cases A with
            | none => have := (hS1.out.h0 rfl).2; omega
            | some a => unfold tl at h; exact absurd h (by split <;> simp)⟩ : s2 = 0 ∧ cap - p = 0))
          have hb44 := Aside0.mk hY4.out.size
          clear hb4 hbA3 hR1 q1 q2
          go_region_held3 (fun Z : World => Z.cell? ⟨(b.add (k * 4)).block, (b.add (k * 4)).off + 1, none⟩ = some (.int .i64 (p : Int)) ∧ Z.cell? ⟨(b.add (k * 4)).block, (b.add (k * 4)).off + 2, none⟩ = some (.int .i64 (e : Int)))
            (first | with_reducible exact hS0.out | exact SK.out _ hY5.out)
            (first | (refine step_append_txt2 rfl (.tmp 51) (.tmp 63) rfl hi5 hz0 hz1 hz2 rfl hR2.out rfl hL4.out hym.out h40.out hn2.out b2 hb44.out ?_; rintro o2 w5 hR3 hb5 ⟨B4, c4, rfl⟩; have hY5 := Aside0.mk (hY4.out.drew.trans hb5); replace hR3 := Aside0.mk hR3))
          clear hS0 SK
          have hY5s := Aside0.mk (fun Z (h : Below w5.heap.size w5 Z) => (Nat.le_trans hY5.out.size h.size : Y.heap.size ≤ Z.heap.size))
          go_wp2_with (first | (go_at_call 15; (with_reducible refine (BT2.out _).mono ?_); rintro e2 w6 ⟨rfl, hb6⟩) | (at_builtin; refine wpList_append_str rfl (.tmp 65) (.tmp 68) rfl hi5 hz0 hz1 hz2 rfl (hR3.out.below hb6) rfl h3.out hn3.out b3 (hY5s.out _ hb6) ?_; rintro o3 w7 hR4 hb7 ⟨B5, c5, rfl⟩))
          go_round
          case rel =>
            refine ⟨k + 1, by (try rw [wk.out]) <;> rfl, hkl, ?_⟩
            exact LpB.next hl1.out hl2.out hl3.out hg.out hm.out hsz.out hby.out hS1.out.hB hsc.out hkl hp.out he.out (by omega) h1.out h2.out h3.out hn1.out hn2.out hn3.out hpz.out hR4 ((hY5.out.trans (hb6.mono hY5.out.size)).trans hb7)
          case measure => (try rw [wk.out]) <;> simp [intOf] <;> omega
        · have g0 : decide ((gl : Int) > 0) = true := decide_eq_true (by omega)
          have tm : Int.tmod (k : Int) (gl : Int) = ((k % gl : Nat) : Int) := by rw [Int.tmod_eq_emod_of_nonneg (by omega)]; rfl
          have ti0 : (0 : Int) ≤ ((k % gl : Nat) : Int) := by omega
          have ti1 : ((k % gl : Nat) : Int) < (gl : Int) := by have := Nat.mod_lt k h0; omega
          have tz : ((gl : Int) == 0) = false := beq_eq_false_iff_ne.mpr (by omega)
          subst hGb
          generalize k % gl = ix at *
          have hq2 := hq.out
          rw [if_neg (by omega)] at hq2
          clear hq
          subst hq2
          go_upto_region 13 with (first | (go_at_call 15; with_reducible refine (BT.out _).mono ?_; rintro e w2 ⟨rfl, hb2⟩) | (at_builtin; refine wpList_append_str rfl (.tmp 42) (.tmp 44) rfl hi5 hz0 hz1 hz2 rfl (hR.out.below hb2) rfl h1.out hn1.out b1 (hbase.out hb2) ?_; rintro o1 w3 hR1 hb3 ⟨B1, c1, rfl⟩))
          have hY3 := (hbX.out.trans (hb2.mono hbX.out.size)).trans hb3
          have hbA3 : ∀ o, Y.heap.size ≤ (w3.alloc o).heap.size := fun o => by have := hY3.size; simp; omega
          replace hY3 := Aside0.mk hY3
          replace hbA3 := Aside0.mk hbA3
          replace hR1 := Aside0.mk hR1
          clear hb2 hb3 hR
          go_upto_region 14 with (first | (at_builtin; refine wpList_append_num rfl (.tmp 46) (.tmp 49) rfl hi3 hy0 hy1 hy2 rfl (hR1.out.below ((Below.refl _ _).alloc (Nat.le_refl _) _)) rfl (box0 _ _ _) bps (hbA3.out _) ?_; rintro a1 w4 hR2 hb4 ⟨B3, c3, rfl⟩))
          have hY4 := (hY3.out.alloc hY3.out.size (.cells #[.int .i64 n1] 3)).trans hb4
          have SK : ∀ Z, Below Y.heap.size Y Z → Z.cell? ⟨(b.add (k * 4)).block, (b.add (k * 4)).off + 1, none⟩ = some (.int .i64 (p : Int)) ∧ Z.cell? ⟨(b.add (k * 4)).block, (b.add (k * 4)).off + 2, none⟩ = some (.int .i64 (e : Int)) := fun Z hZ => ⟨(hZ.cell (World.block_lt_of_cell? _ _ q1)).trans q1, (hZ.cell (World.block_lt_of_cell? _ _ q2)).trans q2⟩
          replace SK := Aside0.mk SK
          have hS0 := Aside0.mk (SK.out _ hY4.drew)
          replace hY4 := Aside0.mk hY4
          have hR2 := Aside0.mk (hR2.below (Below.refl w4.heap.size w4).drew)
          have hL4 := Aside0.mk (hLm.out.below hY4.out.drew)
          have h40 := Aside0.mk (fun (h : tl A cap p = none) => (⟨by
            cases A with
            | none => have := (hS1.out.h0 rfl).1; have := h2.out; omega
            | some a => unfold tl at h; exact absurd h (by split <;> simp), by
            cases A with
            | none => have := (hS1.out.h0 rfl).2; omega
            | some a => unfold tl at h; exact absurd h (by split <;> simp)⟩ : s2 = 0 ∧ cap - p = 0))
          have hb44 := Aside0.mk hY4.out.size
          clear hb4 hbA3 hR1 q1 q2
          go_region_held3 (fun Z : World => Z.cell? ⟨(b.add (k * 4)).block, (b.add (k * 4)).off + 1, none⟩ = some (.int .i64 (p : Int)) ∧ Z.cell? ⟨(b.add (k * 4)).block, (b.add (k * 4)).off + 2, none⟩ = some (.int .i64 (e : Int)))
            (first | with_reducible exact hS0.out | exact SK.out _ hY5.out)
            (first | (refine step_append_txt2 rfl (.tmp 51) (.tmp 63) rfl hi5 hz0 hz1 hz2 rfl hR2.out rfl hL4.out hym.out h40.out hn2.out b2 hb44.out ?_; rintro o2 w5 hR3 hb5 ⟨B4, c4, rfl⟩; have hY5 := Aside0.mk (hY4.out.drew.trans hb5); replace hR3 := Aside0.mk hR3))
          clear hS0 SK
          have hY5s := Aside0.mk (fun Z (h : Below w5.heap.size w5 Z) => (Nat.le_trans hY5.out.size h.size : Y.heap.size ≤ Z.heap.size))
          go_wp2_with (first | (go_at_call 15; (with_reducible refine (BT2.out _).mono ?_); rintro e2 w6 ⟨rfl, hb6⟩) | (at_builtin; refine wpList_append_str rfl (.tmp 65) (.tmp 68) rfl hi5 hz0 hz1 hz2 rfl (hR3.out.below hb6) rfl h3.out hn3.out b3 (hY5s.out _ hb6) ?_; rintro o3 w7 hR4 hb7 ⟨B5, c5, rfl⟩))
          go_round
          case rel =>
            refine ⟨k + 1, by (try rw [wk.out]) <;> rfl, hkl, ?_⟩
            exact LpB.next hl1.out hl2.out hl3.out hg.out hm.out hsz.out hby.out hS1.out.hB hsc.out hkl hp.out he.out (by omega) h1.out h2.out h3.out hn1.out hn2.out hn3.out hpz.out hR4 ((hY5.out.trans (hb6.mono hY5.out.size)).trans hb7)
          case measure => (try rw [wk.out]) <;> simp [intOf] <;> omega
      · obtain rfl : k = L.length := by omega
        have d0 : decide ((L.length : Int) < (L.length : Int)) = false := decide_eq_false (by omega)
        obtain ⟨l, g, m, hl1, hl2, hl3, hg, hm, hsz, hby, hR⟩ := hLp.ex
        have hbX := hLp.bel
        obtain ⟨B5, c5, eo, hc5, hA5, hL5, hz5⟩ := own_bytes hR.o
        subst eo
        have hE2 := hE1.out.grow hbX
        have hS2 := hS1.out.below hbX
        have hb2 := hb1.out.trans (hbX.mono hb1.out.size)
        replace hb2 := Aside0.mk hb2
        have AW := Aside0.mk (awake_call wr hE2)
        replace hbX := Aside0.mk hbX
        replace hl1 := Aside0.mk hl1
        replace hl2 := Aside0.mk hl2
        replace hl3 := Aside0.mk hl3
        replace hg := Aside0.mk hg
        replace hm := Aside0.mk hm
        replace hsz := Aside0.mk hsz
        replace hby := Aside0.mk hby
        replace hR := Aside0.mk hR
        replace hL5 := Aside0.mk hL5
        replace hA5 := Aside0.mk hA5
        replace hc5 := Aside0.mk hc5
        replace hz5 := Aside0.mk hz5
        replace hE2 := Aside0.mk hE2
        replace hS2 := Aside0.mk hS2
        clear hLp hG1
        by_cases hmm : 65536 < m
        · have d1 : decide ((65536 : Int) < (m : Int)) = true := decide_eq_true (by omega)
          go_wp2_with (go_at_call 13; (with_reducible refine AW.out.mono ?_); rintro e w2 ⟨rfl, hb3⟩)
          go_ret
          exact ⟨rfl, hb2.out.trans (hb3.mono hb2.out.size)⟩
        · have d1 : decide ((65536 : Int) < (m : Int)) = false := decide_eq_false (by omega)
          clear AW
          have PT := Aside0.mk (parse_tree A n cap xs wr hS2.out.hcap hS2.out.hx hS2.out.hB hE2.out hS2.out.hL hS2.out.hA)
          go_upto_region 19 with (go_at_call 10; (with_reducible refine PT.out.mono ?_); rintro e w2 ⟨hb3, o, p, er, t, D1, r1, D2, r2, D3, r3, D4, r4, hP, ht, hT, rfl⟩; replace ht := Aside0.mk ht)
          have kt0 := blk_new w2 (.cells (C27 D1 t.decls.length r1 D2 t.procs.length r2 D3 t.init.length r3 D4 t.loop.length r4) 27)
          have kt := (_root_.Go.heap_alloc_old (w2.alloc (.cells (C27 D1 t.decls.length r1 D2 t.procs.length r2 D3 t.init.length r3 D4 t.loop.length r4) 27)) (.cells #[.int .i64 p, .int .i64 er] 30) (Array.getElem?_eq_some_iff.1 kt0).1).trans kt0
          have kf := blk_new (w2.alloc (.cells (C27 D1 t.decls.length r1 D2 t.procs.length r2 D3 t.init.length r3 D4 t.loop.length r4) 27)) (.cells #[.int .i64 p, .int .i64 er] 30)
          rw [show (w2.alloc (.cells (C27 D1 t.decls.length r1 D2 t.procs.length r2 D3 t.init.length r3 D4 t.loop.length r4) 27)).heap.size = w2.heap.size + 1 by simp] at kf
          have hbl := ((Below.refl w2.heap.size w2).alloc (Nat.le_refl _) (.cells (C27 D1 t.decls.length r1 D2 t.procs.length r2 D3 t.init.length r3 D4 t.loop.length r4) 27)).alloc (by simp) (.cells #[.int .i64 p, .int .i64 er] 30)
          have hT2 := hT.keep hbl
          have hbq := hb3.trans (hbl.mono hb3.size)
          clear kt0 hT hb3 PT
          replace kt := Aside0.mk kt
          replace kf := Aside0.mk kf
          generalize (w2.alloc (.cells (C27 D1 t.decls.length r1 D2 t.procs.length r2 D3 t.init.length r3 D4 t.loop.length r4) 27)).alloc (.cells #[.int .i64 p, .int .i64 er] 30) = X at kt kf hbl hT2 hbq ⊢
          have gt : w2.heap.size + 1 < X.heap.size := (Array.getElem?_eq_some_iff.1 kf.out).1
          generalize w2.heap.size = g1 at kt kf gt ⊢
          have hE3 := hE2.out.grow hbq
          have PU := Aside0.mk (parse_tree B5 m c5 (flat l ++ g) X hc5.out hm.out hby.out hE3 (hL5.out.below hbq) (fun a e => by have := hA5.out a e; have := hbq.size; omega))
          have hb4 := hb2.out.trans (hbq.mono hb2.out.size)
          have hR4 := hR.out.below hbq
          replace hT2 := Aside0.mk hT2
          replace hP := Aside0.mk hP
          replace hE3 := Aside0.mk hE3
          replace hR4 := Aside0.mk hR4
          replace hb4 := Aside0.mk hb4
          have hYX := Aside0.mk (hbX.out.trans (hbq.mono hbX.out.size))
          clear hbl hbq hb2 hR hL5 hA5
          go_upto_region 20 with (go_at_call 10; (with_reducible refine PU.out.mono ?_); rintro e w3 ⟨hb5, o2, p2, e2, u, G1, s1, G2, s2, G3, s3, G4, s4, hP2, hu, hU, rfl⟩; replace hu := Aside0.mk hu)
          have ku0 := blk_new w3 (.cells (C27 G1 u.decls.length s1 G2 u.procs.length s2 G3 u.init.length s3 G4 u.loop.length s4) 27)
          have ku := (_root_.Go.heap_alloc_old (w3.alloc (.cells (C27 G1 u.decls.length s1 G2 u.procs.length s2 G3 u.init.length s3 G4 u.loop.length s4) 27)) (.cells #[.int .i64 p2, .int .i64 e2] 30) (Array.getElem?_eq_some_iff.1 ku0).1).trans ku0
          have kg := blk_new (w3.alloc (.cells (C27 G1 u.decls.length s1 G2 u.procs.length s2 G3 u.init.length s3 G4 u.loop.length s4) 27)) (.cells #[.int .i64 p2, .int .i64 e2] 30)
          rw [show (w3.alloc (.cells (C27 G1 u.decls.length s1 G2 u.procs.length s2 G3 u.init.length s3 G4 u.loop.length s4) 27)).heap.size = w3.heap.size + 1 by simp] at kg
          have hbl := ((Below.refl w3.heap.size w3).alloc (Nat.le_refl _) (.cells (C27 G1 u.decls.length s1 G2 u.procs.length s2 G3 u.init.length s3 G4 u.loop.length s4) 27)).alloc (by simp) (.cells #[.int .i64 p2, .int .i64 e2] 30)
          have hU2 := hU.keep hbl
          have hbq := hb5.trans (hbl.mono hb5.size)
          have kt2 := (hbq.block g1 (by omega)).trans kt.out
          have kf2 := (hbq.block (g1 + 1) gt).trans kf.out
          clear ku0 hU hb5 PU kt kf
          replace ku := Aside0.mk ku
          replace kg := Aside0.mk kg
          replace kt2 := Aside0.mk kt2
          replace kf2 := Aside0.mk kf2
          generalize (w3.alloc (.cells (C27 G1 u.decls.length s1 G2 u.procs.length s2 G3 u.init.length s3 G4 u.loop.length s4) 27)).alloc (.cells #[.int .i64 p2, .int .i64 e2] 30) = Z at ku kg hbl hU2 hbq kt2 kf2 ⊢
          generalize w3.heap.size = g2 at ku kg ⊢
          have hE4 := hE3.out.grow hbq
          have hb6 := hb4.out.trans (hbq.mono hb4.out.size)
          have hR5 := hR4.out.below hbq
          have hT3 := hT2.out.keep hbq
          obtain ⟨hee, hcs⟩ := blk_plain hS2.out.hx hsc.out hl2.out hg.out hl3.out hl1.out hm.out (by omega) hP.out hP2 hn.out
          subst hee
          have hNF : treN t = treN u ∧ Few t := by
            rcases hcs with ⟨_, t', u', ho, hou, hN, hF⟩ | ⟨_, ho, hou, _⟩
            · rw [ht.out, hu.out, ho, hou]; exact ⟨hN, hF⟩
            · rw [ht.out, hu.out, ho, hou]; exact ⟨rfl, noTre_few⟩
          have SM := Aside0.mk (same_call t u hNF.1 hNF.2 Z D1 r1 D2 r2 D3 r3 D4 r4 G1 s1 G2 s2 G3 s3 G4 s4 hT3 hU2)
          have f1' : Z.cell? ⟨g1 + 1, 1, none⟩ = some (.int .i64 e2) := blk_cell kf2.out 1
          have f2' : Z.cell? ⟨g2 + 1, 1, none⟩ = some (.int .i64 e2) := blk_cell kg.out 1
          have t0 : Z.cell? ⟨g1, 0, none⟩ = some (.slice D1 t.decls.length r1) := blk_cell kt2.out 0
          have t1 : Z.cell? ⟨g1, 1, none⟩ = some (.slice D2 t.procs.length r2) := blk_cell kt2.out 1
          have t2 : Z.cell? ⟨g1, 2, none⟩ = some (.slice D3 t.init.length r3) := blk_cell kt2.out 2
          have t3 : Z.cell? ⟨g1, 3, none⟩ = some (.slice D4 t.loop.length r4) := blk_cell kt2.out 3
          have u0 : Z.cell? ⟨g2, 0, none⟩ = some (.slice G1 u.decls.length s1) := blk_cell ku.out 0
          have u1 : Z.cell? ⟨g2, 1, none⟩ = some (.slice G2 u.procs.length s2) := blk_cell ku.out 1
          have u2 : Z.cell? ⟨g2, 2, none⟩ = some (.slice G3 u.init.length s3) := blk_cell ku.out 2
          have u3 : Z.cell? ⟨g2, 3, none⟩ = some (.slice G4 u.loop.length s4) := blk_cell ku.out 3
          have hge : g1 < Z.heap.size ∧ g1 + 1 < Z.heap.size ∧ g2 + 1 < Z.heap.size := ⟨(Array.getElem?_eq_some_iff.1 kt2.out).1, (Array.getElem?_eq_some_iff.1 kf2.out).1, (Array.getElem?_eq_some_iff.1 kg.out).1⟩
          have hYZ := Aside0.mk (hYX.out.trans (hbq.mono hYX.out.size))
          replace hcs := Aside0.mk hcs
          replace hR5 := Aside0.mk hR5
          replace hb6 := Aside0.mk hb6
          replace hE4 := Aside0.mk hE4
          replace hge := Aside0.mk hge
          clear hbl hbq hb4 hR4 hE3 hT2 hT3 hU2 hNF hP hP2 ht hu gt
          go_upto_region 22 with (go_at_call 16; (with_reducible refine SM.out.mono ?_); rintro e w4 ⟨rfl, hb7⟩)
          have hb8 := hb6.out.trans (hb7.mono hb6.out.size)
          have hY8 := hYZ.out.trans (hb7.mono hYZ.out.size)
          have hE5 := hE4.out.below hb7
          have ht8 := tokat_below ht1.out hY8
          obtain ⟨A8, c8, e8, hat⟩ := own_nums (hR5.out.below hb7).a
          have hps : ((toksOf 0 l).map fun t => t.2.1).length = L.length := by rw [List.length_map, toksOf_length, hl1.out]
          rw [hps] at e8 hat
          have hgat : ∀ i, i < L.length → ((toksOf 0 l).map fun t => t.2.1).getD i 0 = ((toksOf 0 l).getD i zTok).2.1 := fun i hi => by
            have : i < (toksOf 0 l).length := by rw [toksOf_length, hl1.out]; exact hi
            simp [List.getD, List.getElem?_map, List.getElem?_eq_getElem this]
          have j1 : w4.cell? ⟨g1 + 1, 1, none⟩ = some (.int .i64 e2) := (hb7.cell (p := ⟨g1 + 1, 1, none⟩) hge.out.2.1).trans f1'
          have j0 : w4.cell? ⟨g1 + 1, 0, none⟩ = some (.int .i64 p) := (hb7.cell (p := ⟨g1 + 1, 0, none⟩) hge.out.2.1).trans (blk_cell kf2.out 0)
          have i0 : w4.cell? ⟨g2 + 1, 0, none⟩ = some (.int .i64 p2) := (hb7.cell (p := ⟨g2 + 1, 0, none⟩) hge.out.2.2).trans (blk_cell kg.out 0)
          subst e8
          replace hb8 := Aside0.mk hb8
          replace hE5 := Aside0.mk hE5
          replace ht8 := Aside0.mk ht8
          replace hat := Aside0.mk hat
          replace hgat := Aside0.mk hgat
          clear f1' f2' t0 t1 t2 t3 u0 u1 u2 u3 SM hps hY8 hb7 hge kt2 kf2 ku kg ht1 hYZ hYX hb6 hR5 hE4
          by_cases he0 : e2 = 0
          · have d2 : (e2 == 0) = true := beq_iff_eq.mpr he0
            have AW := Aside0.mk (awake_call w4 hE5.out)
            clear he0
            go_wp2_with (go_at_call 13; (with_reducible refine AW.out.mono ?_); rintro e w5 ⟨rfl, hb9⟩)
            go_ret
            exact ⟨rfl, hb8.out.trans (hb9.mono hb8.out.size)⟩
          · have d2 : (e2 == 0) = false := beq_eq_false_iff_ne.mpr he0
            have hpos := hcs.out.resolve_left (fun h => he0 h.1)
            replace hpos := Aside0.mk hpos.2.2.2
            clear he0 hcs
            go_wp2
            go_loopw [15] (fun i X => ∃ k q : Nat, i = .int .i64 (k : Int) ∧ k ≤ L.length ∧ X = w4.drewN q ∧ ∀ j, j < k → (L.getD j zTok).2.1 ≠ p) (fun i _ => L.length - (intOf i).toNat)
            case atStart => exact ⟨0, 0, rfl, Nat.zero_le _, rfl, fun j hj => by omega⟩
            case round =>
              obtain ⟨k, q, rfl, hk, rfl, hno⟩ := hrel
              replace hno := Aside0.mk hno
              by_cases hkl : k < L.length
              · obtain ⟨b, rfl, q0, q1, q2, q3⟩ := ht8.out k hkl
                have d0 : decide ((k : Int) < (L.length : Int)) = true := decide_eq_true (by omega)
                have k0 : (0 : Int) ≤ (k : Int) := by omega
                have k1 : (k : Int) < (L.length : Int) := by omega
                obtain ⟨po, hpo⟩ : ∃ po, Aside0 ((L.getD k zTok).2.1 = po) := ⟨_, ⟨rfl⟩⟩
                rw [hpo.out] at q1
                by_cases hpp : po = p
                · subst hpp
                  have e3 : (po == po) = true := by simp
                  obtain ⟨a8, rfl, hc8⟩ := hat.out k hkl
                  rw [hgat.out k hkl] at hc8
                  have hpk : ((toksOf 0 l).getD k zTok).2.1 = p2 := by
                    rcases hpos.out with ⟨i, hi, hi1, hi2⟩ | ⟨hn1, _⟩
                    · obtain rfl : i = k := by
                        rcases Nat.lt_trichotomy i k with h | h | h
                        · have h1 := chain_rise (scan_chain hsc.out) i k h hkl
                          have h2 := (tok_in hsc.out hi).2.1
                          rw [hpo.out] at h1
                          omega
                        · exact h
                        · have h1 := chain_rise (scan_chain hsc.out) k i h hi
                          have h2 := (tok_in hsc.out hkl).2.1
                          rw [hpo.out] at h2
                          omega
                      exact hi2
                    · obtain ⟨_, h2, h3⟩ := tok_in hsc.out hkl
                      rw [hpo.out] at h2
                      have := hS1.out.hx
                      omega
                  rw [hpk] at hc8
                  have e4 : (p2 == p2) = true := by simp
                  have AWd := fun j => awake_call (w4.drewN j) (hE5.out.grow (bel_drewN (Below.refl w4.heap.size w4) j))
                  have SK : ∀ j, (w4.drewN j).cell? ⟨g2 + 1, 0, none⟩ = some (.int .i64 p2) ∧ (w4.drewN j).cell? (a8.add k) = some (.int .i64 p2) := fun j => ⟨i0, hc8⟩
                  replace AWd := Aside0.mk AWd
                  replace SK := Aside0.mk SK
                  clear q0 q2 q3 hpk
                  go_wp2
                  go_quiet (fail)
                  rw [World.drewN_drewN]
                  go_upto_region 28 with fail
                  have hS0 := Aside0.mk (SK.out (q + nq + 1))
                  have AW0 := Aside0.mk (AWd.out (q + nq + 1))
                  go_region_held3 (fun w : World => w.cell? ⟨g2 + 1, 0, none⟩ = some (.int .i64 p2) ∧ w.cell? (a8.add k) = some (.int .i64 p2))
                    (first | with_reducible exact hS0.out | exact hS0.out | exact ⟨(hb9.cell (World.block_lt_of_cell? _ _ hS0.out.1)).trans hS0.out.1, (hb9.cell (World.block_lt_of_cell? _ _ hS0.out.2)).trans hS0.out.2⟩)
                    (first | (go_at_call 13; refine AW0.out.mono ?_; rintro e' w9 ⟨rfl, hb9⟩))
                  go_wp2
                  go_ret
                  exact ⟨rfl, hb8.out.trans (((bel_drewN (Below.refl w4.heap.size w4) (q + nq + 1)).trans hb9).mono hb8.out.size)⟩
                · have e3 : (po == p) = false := beq_eq_false_iff_ne.mpr hpp
                  have hL16 := hL16.out
                  have wk : wrap64 ((k : Int) + 1) = ((k + 1 : Nat) : Int) := by rw [IntWalk.wrap64_in _ (by omega)]; rfl
                  clear q0 q2 q3
                  go_wp2
                  go_quiet (fail)
                  go_wp2
                  go_round
                  case rel => exact ⟨k + 1, _, by (try rw [wk]); rfl, hkl, rfl, fun j hj => by
                    rcases Nat.lt_or_ge j k with h | h
                    · exact hno.out j h
                    · obtain rfl : j = k := by omega
                      rw [hpo.out]; exact hpp⟩
                  case measure => (try rw [wk]); simp [intOf]; omega
              · obtain rfl : k = L.length := by omega
                have d0 : decide ((L.length : Int) < (L.length : Int)) = false := decide_eq_false (by omega)
                have hpe : p = (n : Int) ∧ p2 = (m : Int) := hpos.out.resolve_left (fun ⟨i, hi, h, _⟩ => hno.out i hi h)
                obtain ⟨rfl, rfl⟩ := hpe
                have hbq := bel_drewN (Below.refl w4.heap.size w4) q
                have AWq := Aside0.mk (awake_call (w4.drewN q) (hE5.out.grow hbq))
                replace hbq := Aside0.mk hbq
                go_wp2_with (go_at_call 13; (with_reducible refine AWq.out.mono ?_); rintro e' w9 ⟨rfl, hb9⟩)
                replace hb9 := Aside0.mk (hbq.out.trans (hb9.mono hbq.out.size))
                go_wp2
                go_ret
                exact ⟨rfl, hb8.out.trans (hb9.out.mono hb8.out.size)⟩
end Go.Proofs.YtgaoapnaplgaiaaGreatDoor.Sc

