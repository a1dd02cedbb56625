/- This claim's own texts, joined, with only what the claim uses: ScnA. -/
import Derived.Test.YteaegfkgnmfleaaDoorScnP29
import Derived.Test.YteaegfkgnmfleaaDoorScnP31
import Derived.Laws.AppendOwnNone
import Derived.Laws.OwnMore
import Derived.Deep.CutRange
namespace Go.Proofs.YteaegfkgnmfleaaDoor.Sc
open Go.RowKit Tk Pr Go.Proofs.YteaegfkgnmfleaaDoorW.PrintWords

theorem lies_C {w : World} {A : Option Addr} {n : Nat} {xs : List Int} (hx : xs.length = n) (hn : n ≤ 9223372036854775807) (h : Lies w A n xs) : Kd.C (Kd.int .u8) w A n xs := by
  refine ⟨hx, hn, fun h0 => ?_⟩
  obtain ⟨a, e, _⟩ := h 0 h0
  refine ⟨a, e, fun j p hj => ?_⟩
  have hjn : j < n := by
    rw [← hx]
    exact (List.getElem?_eq_some_iff.1 hj).1
  obtain ⟨a', e', hc⟩ := h j hjn
  rw [e] at e'
  cases e'
  refine ⟨[.int .u8 p], rfl, rfl, fun i u hu => ?_⟩
  cases i with
  | zero =>
    simp at hu
    subst hu
    show w.cell? (a.add (j * 1 + 0)) = _
    rw [Nat.mul_one, Nat.add_zero, hc]
    simp [List.getD, hj]
  | succ i => simp at hu
theorem same_l0 (l : List S37) (hn : l.length ≤ 9223372036854775807) : ∀ (k i : Nat), i ≤ l.length → l.length - i < k → gimballaw03_same.l0 k l l (l.length : Int) (i : Int) = some true
  | 0, i, _, h => by omega
  | k + 1, i, hi, hk => by
    rw [gimballaw03_same.l0]
    by_cases h : i < l.length
    · rw [if_pos (by omega), if_pos (by omega), if_pos (by omega), if_pos (by omega), if_neg (by simp), wrap64_small _ (by omega)]
      have := same_l0 l hn k (i + 1) (by omega) (by omega)
      rw [show ((i : Int) + 1) = ((i + 1 : Nat) : Int) by push_cast; rfl, this]
    · rw [if_neg (by omega)]
theorem same_f (l : List S37) (hn : l.length ≤ 9223372036854775807) : gimballaw03_same.f (l.length + 1) l l = some true := by
  unfold gimballaw03_same.f
  rw [if_pos rfl]
  exact same_l0 l hn (l.length + 1) 0 (by omega) (by omega)
theorem same_call {l : List S37} {A B : Option Addr} {c d : Nat} {w : World} (h1 : Kd.C k37 w A l.length l) (k1 : l.length ≤ c) (h2 : Kd.C k37 w B l.length l) (k2 : l.length ≤ d) :
    Calls Tryd.prog 13 #[.slice A l.length c, .slice B l.length d] w fun e w' => e = .returned (.bool true) ∧ ∃ q, w' = w.drewN q :=
  (gimballaw03_same.calls (l.length + 1) A c l B d l true w h1 k1 h2 k2 (same_f l h1.2.1)).mono fun _ _ h => ⟨h.1, h.2.out⟩
theorem scan_R {A : Option Addr} {n cap : Nat} {xs : List Int} {W : World} (hcap : n ≤ cap) (hx : xs.length = n) (hB : ∀ c ∈ xs, Byte c) (hE : Env W) (hL : Lies W A n xs) (hA : ∀ a, A = some a → a.block < W.heap.size)
    {r : List S37} {q er : Int} (hr : ans xs = (r, q, er)) :
    Calls Tryd.prog 11 #[.slice A n cap] W fun e w' => Below W.heap.size W w' ∧ ∃ B c, e = .returned (.tuple #[.slice B r.length c, .agg #[.int .i64 q, .int .i64 er]]) ∧ r.length ≤ c ∧ Kd.R k37 37 w' W.heap.size (fun k => W.heap.size ≤ k) (.slice B r.length c) r := by
  refine (scan_walk A n cap xs W hcap hx hB hE.1 hL hA hE.2).mono ?_
  rintro e w' ⟨hb, v, rfl, hR⟩
  rw [hr] at hR
  obtain ⟨B, c, rfl, hc, _⟩ := Kd.R_reads hR
  rw [hr]
  exact ⟨hb, B, c, rfl, hc, Kd.R_mono (Kd.R_bound hR) (fun _ hk => hk.2.1)⟩
theorem ref_R {A : Option Addr} {n cap : Nat} {xs : List Int} {W : World} (hcap : n ≤ cap) (hx : xs.length = n) (hC : Kd.C (Kd.int .u8) W A n xs) {r : List S37} {q er : Int} (hr : ans xs = (r, q, er)) :
    Calls Tryd.prog 12 #[.slice A n cap] W fun e w' => Below W.heap.size W w' ∧ ∃ B c, e = .returned (.tuple #[.slice B r.length c, .int .i64 q, .int .i64 er]) ∧ r.length ≤ c ∧ Kd.R k37 37 w' W.heap.size (fun k => W.heap.size ≤ k) (.slice B r.length c) r := by
  subst hx
  refine (ref_walk A cap xs W hcap hC).mono ?_
  rintro e w' ⟨hb, v, rfl, hR⟩
  rw [hr] at hR
  obtain ⟨B, c, rfl, hc, _⟩ := Kd.R_reads hR
  rw [hr]
  exact ⟨hb, B, c, rfl, hc, Kd.R_mono (Kd.R_bound hR) (fun _ hk => hk.2.1)⟩
theorem R_below {w w1 : World} {base : Nat} {ok : Nat → Prop} {v : Value} {r : List S37} (h : Kd.R k37 37 w base ok v r) (hb : Below w.heap.size w w1) : Kd.R k37 37 w1 base ok v r :=
  Kd.R_step h (fun k _ hk => hb.block k hk)
theorem far4 {w1 w2 : World} {q er : Int} (hb : Below (w1.alloc (.cells #[.int .i64 q, .int .i64 er] 29)).heap.size (w1.alloc (.cells #[.int .i64 q, .int .i64 er] 29)) w2) : w2.cell? ⟨w1.heap.size, 0, none⟩ = some (.int .i64 q) ∧ w2.cell? ⟨w1.heap.size, 1, none⟩ = some (.int .i64 er) := by
  constructor
  · refine (hb.cell (by simp)).trans ?_
    go_simp
  · refine (hb.cell (by simp)).trans ?_
    go_simp
def u8s (xs : List Int) : List Value := xs.map (.int .u8)
set_option maxRecDepth 100000 in
set_option maxHeartbeats 4000000 in
theorem scn_walk {A : Option Addr} {n cap : Nat} {xs : List Int} (w : World) (hcap : n ≤ cap) (hx : xs.length = n) (hn : n + 2 ≤ 140737488355328) (hB : ∀ c ∈ xs, Byte c) (hE : Env w) (hL : Lies w A n xs) (hA : ∀ a, A = some a → a.block < w.heap.size) (hAn : A = none → n = 0 ∧ cap = 0) :
    Calls Tryd.prog 4 #[.slice A n cap] w fun e w' => e = .returned (.bool true) ∧ Below w.heap.size w w' := by
  have hinfo : (Tryd.prog.info? 5).map (fun i => (i.zero, i.size, i.bytes)) = some (some (.int .u8 0), 1, 1) := by kernel_rfl
  obtain ⟨i5, hi5, hz0, hz1, hz2⟩ := info_parts hinfo
  go_enter Tryd.func4, Tryd.ntmps4
  go_upto_region 2 with fail
  go_cut [3] from 10 to 12 (fun v W => W.ownsRow w.heap.size 5 1 v n (u8s xs) ∧ Below w.heap.size w W)
  case first =>
    cases A with
    | none =>
      obtain ⟨rfl, rfl⟩ := hAn rfl
      obtain rfl := List.eq_nil_of_length_eq_zero hx
      go_wp2_with (first | (at_builtin; refine wpList_append_own_none rfl (.tmp 10) (.tmp 11) 25 rfl w.heap.size 5 i5 1 Tryd.underlying25 hi5 _ 0 [] rfl (own_nil _ _ _ _) rfl ?_))
      go_meet
      exact ⟨own_nil _ _ _ _, Below.refl _ _⟩
    | some a =>
      go_wp2_with (first | (at_builtin; refine wpList_append_own _ rfl (.tmp 10) (.tmp 11) 25 rfl w.heap.size 5 i5 (.int .u8 0) 1 1 Tryd.underlying25 hi5 hz0 hz1 hz2 rfl (by decide) _ 0 [] rfl (own_nil _ _ _ _) a n cap (u8s xs) rfl ?c0 ?c1 ?c2 ?c3 ?c4 ?c5 ?_))
      case c0 => simp [u8s, hx]
      case c1 =>
        intro j u hu
        have hj : j < xs.length := by
          have := (List.getElem?_eq_some_iff.1 hu).1
          simpa [u8s] using this
        rw [hL.at j (by omega), ← hu]
        simp [u8s, List.getD, hj]
      case c2 =>
        intro u hu
        obtain ⟨c, _, rfl⟩ := List.mem_map.1 hu
        rfl
      case c3 => unfold maxLen; omega
      case c4 => omega
      case c5 => exact Nat.le_refl _
      intro v1 w1 hown hgr _
      go_wp2
      go_meet
      exact ⟨hown, hgr.os, hgr.tape, hgr.output, hgr.size, fun k hk => hgr.block k hk (by simp [Value.ownBlock])⟩
  case rest =>
    obtain ⟨hown, hb⟩ := hcut
    go_upto_region 3 with fail
    go_cut [3] from 13 to 15 (fun v W => ∃ g c : Nat, v = .slice (some ⟨g, 0, none⟩) ((n + 2 : Nat) : Nat) c ∧ n + 2 ≤ c ∧ W.ownsRow w.heap.size 5 1 v (n + 2) (u8s xs ++ [.int .u8 47, .int .u8 42]) ∧ Below w.heap.size w W)
    case first =>
      have hb2 := hb.alloc hb.size (.cells #[.int .u8 47, .int .u8 42] 5)
      have hown2 := fun o => hown.alloc o
      go_wp2_with (first | (at_builtin; refine wpList_append_own _ rfl (.tmp 13) (.tmp 14) 25 rfl w.heap.size 5 i5 (.int .u8 0) 1 1 Tryd.underlying25 hi5 hz0 hz1 hz2 rfl (by decide) _ _ _ rfl (hown2 _) ⟨wc.heap.size, 0, none⟩ 2 2 [.int .u8 47, .int .u8 42] rfl rfl ?c1 ?c2 ?c3 ?c4 ?c5 ?_))
      case c1 =>
        intro j u hu
        match j with
        | 0 => simp at hu; subst hu; unfold Addr.add; go_simp
        | 1 => simp at hu; subst hu; unfold Addr.add; go_simp
        | j + 2 => simp at hu
      case c2 =>
        intro u hu
        simp at hu
        rcases hu with rfl | rfl <;> rfl
      case c3 => unfold maxLen; omega
      case c4 => omega
      case c5 => exact hb2.size
      intro v1 w1 hown3 hgr _
      go_wp2
      go_meet
      have hform : ∃ g c : Nat, v1 = .slice (some ⟨g, 0, none⟩) (n + 2) c ∧ n + 2 ≤ c := by
        rcases hown3.2 with ⟨_, h⟩ | ⟨g, c, _, e, _, _, h, _⟩
        · omega
        · exact ⟨g, c, e, h⟩
      obtain ⟨g, c, rfl, hc⟩ := hform
      refine ⟨g, c, rfl, hc, hown3, hgr.os.trans hb2.os, hgr.tape.trans hb2.tape, hgr.output.trans hb2.output, Nat.le_trans hb2.size hgr.size, fun k hk => (hgr.block k (Nat.lt_of_lt_of_le hk hb2.size) ?_).trans (hb2.block k hk)⟩
      intro e
      have := (hown.lt k e.symm).1
      omega
    case rest =>
      obtain ⟨g, c, rfl, hgc, hown2, hb2⟩ := hcut
      clear hown hb
      have gl := hown2.lt g rfl
      have hsl : ∀ w, (Instr.sliceAt 25 (.slice (some ⟨g, 0, none⟩) (n + 2) c) none (some (.int .i64 (n : Int))) none).run Tryd.prog w = .ok (.slice (some ⟨g, 0, none⟩) n c) w := fun w => by
        rw [run_sliceAt_slice (h := by rw [Tryd.underlying25]; rfl), run_slice_h (ht := by rw [Tryd.underlying25]; rfl) (h0 := by omega) (h2 := by omega)]
        go_simp
      have hcell : ∀ j u, (u8s xs ++ [.int .u8 47, .int .u8 42])[j]? = some u → wc.cell? ⟨g, j, none⟩ = some u := fun j u hu => by
        have := hown2.cells (g := g) rfl j u hu
        unfold Addr.add at this
        split at this
        · rename_i h; subst h; exact this
        · simpa using this
      have hlen : (u8s xs).length = n := by simp [u8s, hx]
      have L2 : Lies wc (some ⟨g, 0, none⟩) n xs := fun i hi => by
        refine ⟨_, rfl, ?_⟩
        have := hown2.cells (g := g) rfl i (.int .u8 (xs.getD i 0)) (by
          rw [List.getElem?_append_left (by omega)]
          simp [u8s, List.getD, hx, hi])
        exact this
      generalize ha : ans xs = rr
      obtain ⟨r, q, er⟩ := rr
      have SC := scan_R (cap := c) (by omega) hx hB (hE.below hb2) L2 (fun a e => by cases e; exact gl.2) ha
      have RC : ∀ W, Below w.heap.size w W → _ := fun W hW => ref_R (W := W) hcap hx (Kd.C_below (lies_C hx (by omega) hL) hW) ha
      go_upto_region 6 with (first | (go_at_call 11; with_reducible refine SC.mono ?_; rintro e w3 ⟨hb3, B1, c1, rfl, hc1, hR1⟩; have H3 := (hb2.trans (hb3.mono hb2.size)).alloc (by have := hb2.size; have := hb3.size; omega) (.cells #[.int .i64 q, .int .i64 er] 29)) | (go_at_call 12; with_reducible refine (RC _ H3).mono ?_; rintro e w4 ⟨hb4, B2, c2, rfl, hc2, hR2⟩))
      have H3' := fun o => (Below.refl wc.heap.size wc).trans hb3 |>.alloc hb3.size o
      have H4 : Below wc.heap.size wc w4 := (H3' _).trans (hb4.mono (H3' (.cells #[.int .i64 q, .int .i64 er] 29)).size)
      have Hw4 := hb2.trans (H4.mono hb2.size)
      obtain ⟨x0, x1⟩ := far4 hb4
      have full0 : w4.cell? ⟨g, n, none⟩ = some (.int .u8 47) := (H4.cell (p := ⟨g, n, none⟩) gl.2).trans (hcell n _ (by rw [List.getElem?_append_right (by omega), hlen]; simp))
      have full1 : w4.cell? ⟨g, n + 1, none⟩ = some (.int .u8 42) := (H4.cell (p := ⟨g, n + 1, none⟩) gl.2).trans (hcell (n + 1) _ (by rw [List.getElem?_append_right (by omega), hlen]; simp))
      have l1 : ∀ j, Lies (w4.drewN j) (some ⟨g, 0, none⟩) n xs := fun j i hi => (L2.below H4) i hi
      have l2 : ∀ j, Lies (w4.drewN j) A n xs := fun j i hi => (hL.below Hw4) i hi
      have cv1 : ∀ j, (convert 25 9 (.slice (some ⟨g, 0, none⟩) n c)).run Tryd.prog (w4.drewN j) = .ok (.string (strOfNums xs)) (w4.drewN j) := fun j =>
        (l1 j).bytes.convert hx _ 25 5 9 Tryd.underlying25 Tryd.underlying5 Tryd.underlying9
      have cv2 : ∀ j, (convert 25 9 (.slice A n cap)).run Tryd.prog (w4.drewN j) = .ok (.string (strOfNums xs)) (w4.drewN j) := fun j =>
        (l2 j).bytes.convert hx _ 25 5 9 Tryd.underlying25 Tryd.underlying5 Tryd.underlying9
      have R1 := R_below (R_below hR1 ((Below.refl _ _).alloc (Nat.le_refl _) (.cells #[.int .i64 q, .int .i64 er] 29))) hb4
      obtain ⟨_, _, k1⟩ := Kd.R_reads' R1
      obtain ⟨_, _, k2⟩ := Kd.R_reads' hR2
      have SM : ∀ j, Calls Tryd.prog 13 #[.slice B1 r.length c1, .slice B2 r.length c2] (w4.drewN j) fun e w' => e = .returned (.bool true) ∧ ∃ q, w' = w4.drewN q := fun j =>
        (same_call (w := w4.drewN j) k1 hc1 k2 hc2).mono fun _ _ ⟨h, q, hq⟩ => ⟨h, j + q, by rw [hq, World.drewN_drewN]⟩
      generalize strOfNums xs = S at cv1 cv2
      have n0 : (0 : Int) ≤ (n : Int) := by omega
      have n1 : IntKind.i64.wrap ((n : Int) + 1) = ((n + 1 : Nat) : Int) := by rw [IntWalk.i64_in _ (by omega)]; push_cast; rfl
      have n2 : (n : Int) < ((n + 2 : Nat) : Int) := by omega
      have n3 : ((n + 1 : Nat) : Int) < ((n + 2 : Nat) : Int) := by omega
      go_quiet (first | (go_at_call 13; refine (SM _).mono ?_; rintro e w2 ⟨rfl, q2, rfl⟩; exact ⟨rfl, q2, rfl⟩))
      go_wp2
      have O4 : w4.ownsRow w.heap.size 5 1 (.slice (some ⟨g, 0, none⟩) (n + 2) c) (n + 2) (u8s xs ++ [.int .u8 47, .int .u8 42]) := own_move hown2 (fun k hk => by
        have : g = k := by simpa [Value.ownBlock] using hk
        subst this
        exact H4.block g gl.2)
      have Q1 : Kd.R k37 37 w4 0 (fun k => wc.heap.size ≤ k) (.slice B1 r.length c1) r := Kd.R_lower R1 (by omega)
      have Q2 : Kd.R k37 37 w4 0 (fun k => wc.heap.size ≤ k) (.slice B2 r.length c2) r := Kd.R_lower (Kd.R_mono hR2 (fun k hk => Nat.le_trans (H3' _).size hk)) (by omega)
      clear SM cv1 cv2 full0 full1 l1 l2 x0 x1 R1 k1 k2 hcell L2 SC RC hR1 hR2 hb3 hb4 H3 hown2
      go_loopw [75] (fun i W => ∃ (k : Nat) (zs : List Value), i = .int .i64 k ∧ k ≤ n + 2 ∧ zs.length = n + 2 ∧ W.ownsRow w.heap.size 5 1 (.slice (some ⟨g, 0, none⟩) (n + 2) c) (n + 2) zs ∧ Kd.R k37 37 W 0 (fun k => wc.heap.size ≤ k) (.slice B1 r.length c1) r ∧ Kd.R k37 37 W 0 (fun k => wc.heap.size ≤ k) (.slice B2 r.length c2) r ∧ Below w.heap.size w W) (fun i _ => n + 2 - (intOf i).toNat)
      case atStart =>
        have D := fun j => show Below w4.heap.size w4 (w4.drewN j) from ⟨rfl, rfl, rfl, Nat.le_refl _, fun _ _ => rfl⟩
        exact ⟨0, _, rfl, by omega, by simp [hlen], own_move O4 (fun _ _ => rfl), R_below Q1 (D _), R_below Q2 (D _), Hw4.trans ((D _).mono Hw4.size)⟩
      case round =>
        obtain ⟨k, zs, rfl, hk, hz, hO, P1, P2, hW⟩ := hrel
        clear O4 Q1 Q2
        by_cases hkn : k < n + 2
        · have d0 : decide ((k : Int) < ((n + 2 : Nat) : Int)) = true := decide_eq_true (by omega)
          have k0 : (0 : Int) ≤ (k : Int) := by omega
          have k1 : (k : Int) < ((n + 2 : Nat) : Int) := by omega
          have wk : IntKind.i64.wrap ((k : Int) + 1) = (k : Int) + 1 := IntWalk.i64_in _ (by omega)
          have hc0 : wr.cell? ⟨g, k, none⟩ = some (zs[k]'(by omega)) := by
            rw [hO.cellAt k (by omega)]
            exact List.getElem?_eq_getElem (by omega)
          have hf0 := hO.frozenAt k
          go_wp2
          have hfar : ∀ i, wc.heap.size ≤ i → i < wr.heap.size → (wr.setCell ⟨g, k, none⟩ (.int .u8 120)).heap[i]? = wr.heap[i]? := fun i hi _ => Below.heap_setCell _ _ _ _ (by dsimp only; omega)
          exact ⟨⟨k + 1, zs.set k (.int .u8 120), by push_cast; rfl, by omega, by simp [hz], (hO.stored k _).1, Kd.R_step P1 hfar, Kd.R_step P2 hfar, hW.setCell gl.1 _⟩, by simp [intOf]; omega⟩
        · have d0 : decide ((k : Int) < ((n + 2 : Nat) : Int)) = false := decide_eq_false (by omega)
          obtain ⟨_, _, k1⟩ := Kd.R_reads' P1
          obtain ⟨_, _, k2⟩ := Kd.R_reads' P2
          have SM := same_call k1 hc1 k2 hc2
          clear P1 P2 hO
          go_wp2_with (first | (go_at_call 13; with_reducible refine SM.mono ?_; rintro e w5 ⟨rfl, q5, rfl⟩))
          go_ret
          exact ⟨rfl, hW.os, hW.tape, hW.output, hW.size, hW.block⟩
end Go.Proofs.YteaegfkgnmfleaaDoor.Sc

