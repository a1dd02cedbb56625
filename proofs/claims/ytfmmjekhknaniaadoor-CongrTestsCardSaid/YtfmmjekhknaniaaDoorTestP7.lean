/- This claim's own texts, joined, with only what the claim uses: Hx25, Hx31, Hx32, Hx33, Hx34, Hx35, Hx36. -/
import Derived.Test.YtfmmjekhknaniaaDoorTestP5
import Derived.Test.YtfmmjekhknaniaaDoorTestP6
namespace Go.Proofs.YtfmmjekhknaniaaDoor.Pr
open Go.RowKit Go.Proofs.YtfmmjekhknaniaaDoor.Given Go.Proofs.YtfmmjekhknaniaaDoorW.PrintWords Go.Proofs.YtfmmjekhknaniaaDoorW.PrintLast Go.Proofs.YtfmmjekhknaniaaDoorW.PrintMore
attribute [local go_sem] max2_int min2_int max_two min_two max_three min_three max_four min_four   -- for this text's walks alone
set_option linter.unusedVariables false
set_option linter.unusedSimpArgs false

mutual
def congr_Test.j0 : Nat → Int → Bool → Bool → Int → Int → Bool → Int → Int → Option (Bool × Int × Int × Bool × Int × Int)
 | 0, _, _, _, _, _, _, _, _ => none
 | k + 1, x0, x9, x231000, x231001, x231002, x232000, x232001, x232002 => if x9 = true then (some (x231000, x231001, x231002, x232000, x232001, x232002)) else (if x231000 = true then (congr_Test.j1 k x0 true x231000 x231001 x231002 x232000 x232001 x232002) else (if x232000 = true then (congr_Test.j1 k x0 true x231000 x231001 x231002 x232000 x232001 x232002) else (if x231001 = 0 then (if x232001 = 0 then ((congr_holds.f x0 x231002 x232002).bind fun t234 => (congr_Test.j1 k x0 (!t234) x231000 x231001 x231002 x232000 x232001 x232002)) else (congr_Test.j1 k x0 false x231000 x231001 x231002 x232000 x232001 x232002)) else (congr_Test.j1 k x0 false x231000 x231001 x231002 x232000 x232001 x232002))))
def congr_Test.j1 : Nat → Int → Bool → Bool → Int → Int → Bool → Int → Int → Option (Bool × Int × Int × Bool × Int × Int)
 | 0, _, _, _, _, _, _, _, _ => none
 | k + 1, x0, x18, x231000, x231001, x231002, x232000, x232001, x232002 => if x18 = true then ((congr_none.f).bind fun bt235 => ((congr_none.f).bind fun bt238 => (some (bt235.1, bt235.2.1, bt235.2.2, bt238.1, bt238.2.1, bt238.2.2)))) else (if x0 = 14 then ((congr_Meet.f k x231000 x231001 x231002 x232000 x232001 x232002).bind fun bt241 => (some (bt241.1, bt241.2.1, bt241.2.2, bt241.1, bt241.2.1, bt241.2.2))) else (some (x231000, x231001, x231002, x232000, x232001, x232002)))
end
def congr_Test.f (k : Nat) (a0 : Int) (a1_0 : Bool) (a1_1 : Int) (a1_2 : Int) (a2_0 : Bool) (a2_1 : Int) (a2_2 : Int) : Option (Bool × Int × Int × Bool × Int × Int) := if a0 < 14 then (congr_Test.j0 k a0 true a1_0 a1_1 a1_2 a2_0 a2_1 a2_2) else (congr_Test.j0 k a0 (decide (a0 > 19)) a1_0 a1_1 a1_2 a2_0 a2_1 a2_2)
set_option maxHeartbeats 8000000 in
set_option maxRecDepth 100000 in
theorem congr_Test.calls (k : Nat) (a0 : Int) (a1_0 : Bool) (a1_1 : Int) (a1_2 : Int) (a2_0 : Bool) (a2_1 : Int) (a2_2 : Int) (r1 : Bool) (r2 : Int) (r3 : Int) (r4 : Bool) (r5 : Int) (r6 : Int) (w : World) (h : congr_Test.f k a0 a1_0 a1_1 a1_2 a2_0 a2_1 a2_2 = some (r1, r2, r3, r4, r5, r6)) :
  Calls Tryd.prog 24 #[.int .i64 a0, .agg #[.bool a1_0, .int .i64 a1_1, .int .i64 a1_2], .agg #[.bool a2_0, .int .i64 a2_1, .int .i64 a2_2]] w fun e w' => e = .returned (.tuple #[.agg #[.bool r1, .int .i64 r2, .int .i64 r3], .agg #[.bool r4, .int .i64 r5, .int .i64 r6]]) ∧ Below w.heap.size w w' := by
 have hu23 := Tryd.underlying23
 have HB := Aside0.mk (Below.refl w.heap.size w)
 have H : (if a0 < 14 then (congr_Test.j0 k a0 true a1_0 a1_1 a1_2 a2_0 a2_1 a2_2) else (congr_Test.j0 k a0 (decide (a0 > 19)) a1_0 a1_1 a1_2 a2_0 a2_1 a2_2)) = some (r1, r2, r3, r4, r5, r6) := h
 clear h
 have HC4 := Aside0.mk H
 clear H
 go_enter Tryd.func24, Tryd.ntmps24
 go_upto_region 1 with (first | ((with_reducible refine gate_dst (N := 4) rfl ?_); refine box_event ?hg (N := 4) ?hd (cs := #[.bool a1_0, .int .i64 a1_1, .int .i64 a1_2]) (t := 23) ?hr ?_; (case hd => rfl); (case hg => rfl); (case hr => first | (go_simp; done) | (go_simp; rfl)); intro gb230 hg w5 hbox hb; have n0_ := kW HB hb; have n1_ := Aside0.mk (hbox); have n2_ := Aside0.mk ((by rw [hg]; exact (below_size (bS HB)) : w.heap.size ≤ gb230)); have n3_ := Aside0.mk ((by rw [hg]; exact (below_size (bS HB)) : w.heap.size ≤ gb230)); clear HB; have HB := n0_; have BK230 := n1_; have GW230 := n2_; have GE230 := n3_; clear n0_ n1_ n2_ n3_; clear hb hbox hg) | ((with_reducible refine gate_dst (N := 5) rfl ?_); refine box_event ?hg (N := 5) ?hd (cs := #[.bool a2_0, .int .i64 a2_1, .int .i64 a2_2]) (t := 23) ?hr ?_; (case hd => rfl); (case hg => rfl); (case hr => first | (go_simp; done) | (go_simp; rfl)); intro gb231 hg w6 hbox hb; have n0_ := kB BK230 hb; have n1_ := kW HB hb; have n2_ := Aside0.mk (hbox); have n3_ := Aside0.mk ((by rw [hg]; exact (below_size (bS HB)) : w.heap.size ≤ gb231)); have n4_ := Aside0.mk ((by rw [hg]; exact (below_size (bS HB)) : w.heap.size ≤ gb231)); have n5_ := Aside0.mk ((by rw [hg]; exact Nat.ne_of_lt (blk_lt (bkS BK230)) : gb230 ≠ gb231)); have n6_ := Aside0.mk ((by rw [hg]; exact Nat.ne_of_gt (blk_lt (bkS BK230)) : gb231 ≠ gb230)); clear BK230; clear HB; have BK230 := n0_; have HB := n1_; have BK231 := n2_; have GW231 := n3_; have GE231 := n4_; have NB230_231 := n5_; have NB231_230 := n6_; clear n0_ n1_ n2_ n3_ n4_ n5_ n6_; clear hb hbox hg) | ((with_reducible refine gate_dst (N := 6) rfl ?_); refine box_event ?hg (N := 6) ?hd (cs := #[.bool false, .int .i64 0, .int .i64 0]) (t := 23) ?hr ?_; (case hd => rfl); (case hg => rfl); (case hr => first | (go_simp; done) | (go_simp; rfl)); intro gb232 hg w7 hbox hb; have n0_ := kB BK230 hb; have n1_ := kB BK231 hb; have n2_ := kW HB hb; have n3_ := Aside0.mk (hbox); have n4_ := Aside0.mk ((by rw [hg]; exact (below_size (bS HB)) : w.heap.size ≤ gb232)); have n5_ := Aside0.mk ((by rw [hg]; exact (below_size (bS HB)) : w.heap.size ≤ gb232)); have n6_ := Aside0.mk ((by rw [hg]; exact Nat.ne_of_lt (blk_lt (bkS BK230)) : gb230 ≠ gb232)); have n7_ := Aside0.mk ((by rw [hg]; exact Nat.ne_of_gt (blk_lt (bkS BK230)) : gb232 ≠ gb230)); have n8_ := Aside0.mk ((by rw [hg]; exact Nat.ne_of_lt (blk_lt (bkS BK231)) : gb231 ≠ gb232)); have n9_ := Aside0.mk ((by rw [hg]; exact Nat.ne_of_gt (blk_lt (bkS BK231)) : gb232 ≠ gb231)); clear BK230; clear BK231; clear HB; have BK230 := n0_; have BK231 := n1_; have HB := n2_; have BK232 := n3_; have GW232 := n4_; have GE232 := n5_; have NB230_232 := n6_; have NB232_230 := n7_; have NB231_232 := n8_; have NB232_231 := n9_; clear n0_ n1_ n2_ n3_ n4_ n5_ n6_ n7_ n8_ n9_; clear hb hbox hg) | ((with_reducible refine gate_dst (N := 7) rfl ?_); refine box_event ?hg (N := 7) ?hd (cs := #[.bool false, .int .i64 0, .int .i64 0]) (t := 23) ?hr ?_; (case hd => rfl); (case hg => rfl); (case hr => first | (go_simp; done) | (go_simp; rfl)); intro gb233 hg w8 hbox hb; have n0_ := kB BK230 hb; have n1_ := kB BK231 hb; have n2_ := kB BK232 hb; have n3_ := kW HB hb; have n4_ := Aside0.mk (hbox); have n5_ := Aside0.mk ((by rw [hg]; exact (below_size (bS HB)) : w.heap.size ≤ gb233)); have n6_ := Aside0.mk ((by rw [hg]; exact (below_size (bS HB)) : w.heap.size ≤ gb233)); have n7_ := Aside0.mk ((by rw [hg]; exact Nat.ne_of_lt (blk_lt (bkS BK230)) : gb230 ≠ gb233)); have n8_ := Aside0.mk ((by rw [hg]; exact Nat.ne_of_gt (blk_lt (bkS BK230)) : gb233 ≠ gb230)); have n9_ := Aside0.mk ((by rw [hg]; exact Nat.ne_of_lt (blk_lt (bkS BK231)) : gb231 ≠ gb233)); have n10_ := Aside0.mk ((by rw [hg]; exact Nat.ne_of_gt (blk_lt (bkS BK231)) : gb233 ≠ gb231)); have n11_ := Aside0.mk ((by rw [hg]; exact Nat.ne_of_lt (blk_lt (bkS BK232)) : gb232 ≠ gb233)); have n12_ := Aside0.mk ((by rw [hg]; exact Nat.ne_of_gt (blk_lt (bkS BK232)) : gb233 ≠ gb232)); clear BK230; clear BK231; clear BK232; clear HB; have BK230 := n0_; have BK231 := n1_; have BK232 := n2_; have HB := n3_; have BK233 := n4_; have GW233 := n5_; have GE233 := n6_; have NB230_233 := n7_; have NB233_230 := n8_; have NB231_233 := n9_; have NB233_231 := n10_; have NB232_233 := n11_; have NB233_232 := n12_; clear n0_ n1_ n2_ n3_ n4_ n5_ n6_ n7_ n8_ n9_ n10_ n11_ n12_; clear hb hbox hg))
 (try simp only [Act.put, lA, lB, lC])
 go_cut [9] (fun v9 wc => ∃ (kq : Nat) (x9_3 : Bool), v9 = .bool x9_3 ∧ Aside0 (congr_Test.j0 kq a0 x9_3 a1_0 a1_1 a1_2 a2_0 a2_1 a2_2 = some (r1, r2, r3, r4, r5, r6)) ∧ Aside0 (kq ≤ k) ∧ Aside0 (wc.heap[gb230]? = some (.cells #[.bool a1_0, .int .i64 a1_1, .int .i64 a1_2] 23 (0, 0))) ∧ Aside0 (wc.heap[gb231]? = some (.cells #[.bool a2_0, .int .i64 a2_1, .int .i64 a2_2] 23 (0, 0))) ∧ Aside0 (wc.heap[gb232]? = some (.cells #[.bool false, .int .i64 0, .int .i64 0] 23 (0, 0))) ∧ Aside0 (wc.heap[gb233]? = some (.cells #[.bool false, .int .i64 0, .int .i64 0] 23 (0, 0))) ∧ Aside0 (Below w.heap.size w wc))
 case first =>
  have H := HC4.out
  clear HC4
  by_cases c9 : a0 < 14
  ·
   rw [if_pos c9] at H
   have c9b0 : decide (a0 < 14) = true := decide_eq_true c9
   clear c9
   (first | rw [c9b0] | (simp only [i64_w, i32_w]; rw [c9b0]) | skip)
   have H' := Aside0.mk H
   clear H
   go_wp2
   go_meet
   case rel => exact ⟨_, (true), (by first | rfl | (simp; done) | (simp [*]; done)), H', ⟨by first | omega | exact Nat.le_refl _⟩, ⟨bkS BK230⟩, ⟨bkS BK231⟩, ⟨bkS BK232⟩, ⟨bkS BK233⟩, ⟨bS HB⟩⟩
  ·
   rw [if_neg c9] at H
   have c9b0 : decide (a0 < 14) = false := decide_eq_false c9
   clear c9
   (first | rw [c9b0] | (simp only [i64_w, i32_w]; rw [c9b0]) | skip)
   have H' := Aside0.mk H
   clear H
   go_wp2
   go_meet
   case rel => exact ⟨_, (decide (a0 > 19)), (by first | rfl | (simp; done) | (simp [*]; done)), H', ⟨by first | omega | exact Nat.le_refl _⟩, ⟨bkS BK230⟩, ⟨bkS BK231⟩, ⟨bkS BK232⟩, ⟨bkS BK233⟩, ⟨bS HB⟩⟩
 case rest =>
  clear HC4
  try clear c2
  try clear p2
  try clear c9
  try clear c9b0
  obtain ⟨kq, x9_3, rfl, HA, HJ3, BK230, BK231, BK232, BK233, HB⟩ := hcut
  cases kq with
  | zero => exact absurd HA.out (by simp [congr_Test.j0])
  | succ kj3 =>
   have H := HA.out
   clear HA
   simp only [congr_Test.j0] at H
   by_cases c10 : x9_3 = true
   ·
    subst c10
    have H1 : (some (a1_0, a1_1, a1_2, a2_0, a2_1, a2_2)) = some (r1, r2, r3, r4, r5, r6) := by rw [if_pos rfl] at H; exact H
    clear H
    have H := H1
    clear H1
    simp only [Option.some.injEq, Prod.mk.injEq] at H
    obtain ⟨rfl, rfl, rfl, rfl, rfl, rfl⟩ := H
    try go_wp2
    replace BK230 := Aside0.mk (blk_drew BK230.out)
    replace BK231 := Aside0.mk (blk_drew BK231.out)
    replace BK232 := Aside0.mk (blk_drew BK232.out)
    replace BK233 := Aside0.mk (blk_drew BK233.out)
    replace HB := Aside0.mk (below_drew1 HB.out)
    refine start_ (n := 4) (S := fun w' => w'.cell? ⟨gb230, 0, none⟩ = some (.bool a1_0) ∧ w'.cell? ⟨gb230, 1, none⟩ = some (.int .i64 a1_1) ∧ w'.cell? ⟨gb230, 2, none⟩ = some (.int .i64 a1_2) ∧ w'.cell? ⟨gb231, 0, none⟩ = some (.bool a2_0) ∧ w'.cell? ⟨gb231, 1, none⟩ = some (.int .i64 a2_1) ∧ w'.cell? ⟨gb231, 2, none⟩ = some (.int .i64 a2_2)) (ds := []) #[false, false, false, false] (by kernel_rfl) rfl rfl ⟨cz0 BK230, cz1 BK230, cz2 BK230, cz0 BK231, cz1 BK231, cz2 BK231⟩ (fun hHeld => ?_)
    generalize wc.drew = w11 at BK230 BK231 BK232 BK233 HB hHeld ⊢
    refine take_ (i := 0) (N := some 16) (v := ?_) (a' := ?_) #[true, false, false, false] rfl rfl (by kernel_rfl) (fun _ _ _ h => h) (Or.inl ⟨by rfl, ?_⟩) hHeld ?_ ?_
    rotate_left
    ·
     rintro w' ⟨s0, s1, s2, s3, s4, s5⟩
     go_simp
     with_reducible rfl
    rotate_left
    ·
     simp only [Act.put, lA, lB, lC, i64_w, i32_w]
     rfl
    refine take_ (i := 1) (N := some 17) (v := ?_) (a' := ?_) #[true, true, false, false] rfl rfl (by kernel_rfl) (fun _ _ _ h => h) (Or.inl ⟨by rfl, ?_⟩) hHeld ?_ ?_
    rotate_left
    ·
     rintro w' ⟨s0, s1, s2, s3, s4, s5⟩
     go_simp
     with_reducible rfl
    rotate_left
    ·
     simp only [Act.put, lA, lB, lC, i64_w, i32_w]
     rfl
    refine one_ (i := 2) (N := none) #[true, true, true, false] rfl rfl (by kernel_rfl) (by decide) (fun K hK => ?_)
    have hs12 : w11.cell? ⟨gb232, 0, none⟩ = some (.bool false) := cz0 BK232
    have hfs12 := fz BK232 0
    have hns12_0 := NB230_232.out
    have hns12_1 := NB231_232.out
    have hns12_3 := NB233_232.out
    have hms12_0 := NB232_230.out
    have hms12_1 := NB232_231.out
    have hms12_3 := NB232_233.out
    have hs13 : w11.cell? ⟨gb232, 1, none⟩ = some (.int .i64 0) := cz1 BK232
    have hfs13 := fz BK232 1
    have hns13_0 := NB230_232.out
    have hns13_1 := NB231_232.out
    have hns13_3 := NB233_232.out
    have hms13_0 := NB232_230.out
    have hms13_1 := NB232_231.out
    have hms13_3 := NB232_233.out
    have hs14 : w11.cell? ⟨gb232, 2, none⟩ = some (.int .i64 0) := cz2 BK232
    have hfs14 := fz BK232 2
    have hns14_0 := NB230_232.out
    have hns14_1 := NB231_232.out
    have hns14_3 := NB233_232.out
    have hms14_0 := NB232_230.out
    have hms14_1 := NB232_231.out
    have hms14_3 := NB232_233.out
    refine skip_ (w1 := ?_) (by rfl) rfl ?_ ?_
    rotate_left
    ·
     go_simp
     rfl
    refine hK.out _ _ ⟨((cell_far (p := ⟨gb232, _, none⟩) NB230_232.out _).trans (((cell_far (p := ⟨gb232, _, none⟩) NB230_232.out _).trans (((cell_far (p := ⟨gb232, _, none⟩) NB230_232.out _).trans (hHeld.1)))))), ((cell_far (p := ⟨gb232, _, none⟩) NB230_232.out _).trans (((cell_far (p := ⟨gb232, _, none⟩) NB230_232.out _).trans (((cell_far (p := ⟨gb232, _, none⟩) NB230_232.out _).trans (hHeld.2.1)))))), ((cell_far (p := ⟨gb232, _, none⟩) NB230_232.out _).trans (((cell_far (p := ⟨gb232, _, none⟩) NB230_232.out _).trans (((cell_far (p := ⟨gb232, _, none⟩) NB230_232.out _).trans (hHeld.2.2.1)))))), ((cell_far (p := ⟨gb232, _, none⟩) NB231_232.out _).trans (((cell_far (p := ⟨gb232, _, none⟩) NB231_232.out _).trans (((cell_far (p := ⟨gb232, _, none⟩) NB231_232.out _).trans (hHeld.2.2.2.1)))))), ((cell_far (p := ⟨gb232, _, none⟩) NB231_232.out _).trans (((cell_far (p := ⟨gb232, _, none⟩) NB231_232.out _).trans (((cell_far (p := ⟨gb232, _, none⟩) NB231_232.out _).trans (hHeld.2.2.2.2.1)))))), ((cell_far (p := ⟨gb232, _, none⟩) NB231_232.out _).trans (((cell_far (p := ⟨gb232, _, none⟩) NB231_232.out _).trans (((cell_far (p := ⟨gb232, _, none⟩) NB231_232.out _).trans (hHeld.2.2.2.2.2))))))⟩ (fun hHeld => ?_)
    clear hK K
    refine one_ (i := 3) (N := none) #[true, true, true, true] rfl rfl (by kernel_rfl) (by decide) (fun K hK => ?_)
    have hs15 : w11.cell? ⟨gb233, 0, none⟩ = some (.bool false) := cz0 BK233
    have hfs15 := fz BK233 0
    have hns15_0 := NB230_233.out
    have hns15_1 := NB231_233.out
    have hns15_2 := NB232_233.out
    have hms15_0 := NB233_230.out
    have hms15_1 := NB233_231.out
    have hms15_2 := NB233_232.out
    have hs16 : w11.cell? ⟨gb233, 1, none⟩ = some (.int .i64 0) := cz1 BK233
    have hfs16 := fz BK233 1
    have hns16_0 := NB230_233.out
    have hns16_1 := NB231_233.out
    have hns16_2 := NB232_233.out
    have hms16_0 := NB233_230.out
    have hms16_1 := NB233_231.out
    have hms16_2 := NB233_232.out
    have hs17 : w11.cell? ⟨gb233, 2, none⟩ = some (.int .i64 0) := cz2 BK233
    have hfs17 := fz BK233 2
    have hns17_0 := NB230_233.out
    have hns17_1 := NB231_233.out
    have hns17_2 := NB232_233.out
    have hms17_0 := NB233_230.out
    have hms17_1 := NB233_231.out
    have hms17_2 := NB233_232.out
    refine skip_ (w1 := ?_) (by rfl) rfl ?_ ?_
    rotate_left
    ·
     go_simp
     rfl
    refine hK.out _ _ ⟨((cell_far (p := ⟨gb233, _, none⟩) NB230_233.out _).trans (((cell_far (p := ⟨gb233, _, none⟩) NB230_233.out _).trans (((cell_far (p := ⟨gb233, _, none⟩) NB230_233.out _).trans (hHeld.1)))))), ((cell_far (p := ⟨gb233, _, none⟩) NB230_233.out _).trans (((cell_far (p := ⟨gb233, _, none⟩) NB230_233.out _).trans (((cell_far (p := ⟨gb233, _, none⟩) NB230_233.out _).trans (hHeld.2.1)))))), ((cell_far (p := ⟨gb233, _, none⟩) NB230_233.out _).trans (((cell_far (p := ⟨gb233, _, none⟩) NB230_233.out _).trans (((cell_far (p := ⟨gb233, _, none⟩) NB230_233.out _).trans (hHeld.2.2.1)))))), ((cell_far (p := ⟨gb233, _, none⟩) NB231_233.out _).trans (((cell_far (p := ⟨gb233, _, none⟩) NB231_233.out _).trans (((cell_far (p := ⟨gb233, _, none⟩) NB231_233.out _).trans (hHeld.2.2.2.1)))))), ((cell_far (p := ⟨gb233, _, none⟩) NB231_233.out _).trans (((cell_far (p := ⟨gb233, _, none⟩) NB231_233.out _).trans (((cell_far (p := ⟨gb233, _, none⟩) NB231_233.out _).trans (hHeld.2.2.2.2.1)))))), ((cell_far (p := ⟨gb233, _, none⟩) NB231_233.out _).trans (((cell_far (p := ⟨gb233, _, none⟩) NB231_233.out _).trans (((cell_far (p := ⟨gb233, _, none⟩) NB231_233.out _).trans (hHeld.2.2.2.2.2))))))⟩ (fun hHeld => ?_)
    clear hK K
    refine done_ (by kernel_rfl) ?_
    try go_wp2
    refine bodyPost_ret (results_cc rfl _ _ gb232 gb233 23 23 #[.bool a1_0, .int .i64 a1_1, .int .i64 a1_2] #[.bool a2_0, .int .i64 a2_1, .int .i64 a2_2] (0, 0) (0, 0) _ _ rfl (by (with_reducible repeat (first | refine b1 ?_ _ | refine b2 ?_ | refine b3 ?_ _)); refine blk_far ?_ NB232_233.out _; (with_reducible repeat (first | refine b1 ?_ _ | refine b2 ?_ | refine b3 ?_ _)); refine blk_far ?_ NB232_233.out _; (with_reducible repeat (first | refine b1 ?_ _ | refine b2 ?_ | refine b3 ?_ _)); refine blk_far ?_ NB232_233.out _; (with_reducible repeat (first | refine b1 ?_ _ | refine b2 ?_ | refine b3 ?_ _)); refine blk_put (cs := #[.bool a1_0, .int .i64 a1_1, .int .i64 0]) ?_ 2 _ rfl; (with_reducible repeat (first | refine b1 ?_ _ | refine b2 ?_ | refine b3 ?_ _)); refine blk_put (cs := #[.bool a1_0, .int .i64 0, .int .i64 0]) ?_ 1 _ rfl; (with_reducible repeat (first | refine b1 ?_ _ | refine b2 ?_ | refine b3 ?_ _)); refine blk_put (cs := #[.bool false, .int .i64 0, .int .i64 0]) ?_ 0 _ rfl; (with_reducible repeat (first | refine b1 ?_ _ | refine b2 ?_ | refine b3 ?_ _)); exact BK232.out) Tryd.underlying23 rfl (by kernel_rfl) rfl (by (with_reducible repeat (first | refine b1 ?_ _ | refine b2 ?_ | refine b3 ?_ _)); refine blk_put (cs := #[.bool a2_0, .int .i64 a2_1, .int .i64 0]) ?_ 2 _ rfl; (with_reducible repeat (first | refine b1 ?_ _ | refine b2 ?_ | refine b3 ?_ _)); refine blk_put (cs := #[.bool a2_0, .int .i64 0, .int .i64 0]) ?_ 1 _ rfl; (with_reducible repeat (first | refine b1 ?_ _ | refine b2 ?_ | refine b3 ?_ _)); refine blk_put (cs := #[.bool false, .int .i64 0, .int .i64 0]) ?_ 0 _ rfl; (with_reducible repeat (first | refine b1 ?_ _ | refine b2 ?_ | refine b3 ?_ _)); refine blk_far ?_ NB233_232.out _; (with_reducible repeat (first | refine b1 ?_ _ | refine b2 ?_ | refine b3 ?_ _)); refine blk_far ?_ NB233_232.out _; (with_reducible repeat (first | refine b1 ?_ _ | refine b2 ?_ | refine b3 ?_ _)); refine blk_far ?_ NB233_232.out _; (with_reducible repeat (first | refine b1 ?_ _ | refine b2 ?_ | refine b3 ?_ _)); exact BK233.out) Tryd.underlying23 rfl (by kernel_rfl)) rfl ?_
    exact ⟨eS, bS HB⟩
   ·
    replace c10 := Bool.eq_false_iff.mpr c10
    subst c10
    have H1 : (if a1_0 = true then (congr_Test.j1 kj3 a0 true a1_0 a1_1 a1_2 a2_0 a2_1 a2_2) else (if a2_0 = true then (congr_Test.j1 kj3 a0 true a1_0 a1_1 a1_2 a2_0 a2_1 a2_2) else (if a1_1 = 0 then (if a2_1 = 0 then ((congr_holds.f a0 a1_2 a2_2).bind fun t234 => (congr_Test.j1 kj3 a0 (!t234) a1_0 a1_1 a1_2 a2_0 a2_1 a2_2)) else (congr_Test.j1 kj3 a0 false a1_0 a1_1 a1_2 a2_0 a2_1 a2_2)) else (congr_Test.j1 kj3 a0 false a1_0 a1_1 a1_2 a2_0 a2_1 a2_2)))) = some (r1, r2, r3, r4, r5, r6) := by rw [if_neg (show ¬ (false = true) by decide)] at H; exact H
    clear H
    have H := H1
    clear H1
    have HC18 := Aside0.mk H
    clear H
    go_upto_region 3 with (fail)
    go_cut [18] (fun v18 wc => ∃ (kq : Nat) (x18_17 : Bool), v18 = .bool x18_17 ∧ Aside0 (congr_Test.j1 kq a0 x18_17 a1_0 a1_1 a1_2 a2_0 a2_1 a2_2 = some (r1, r2, r3, r4, r5, r6)) ∧ Aside0 (kq ≤ kj3) ∧ Aside0 (wc.heap[gb230]? = some (.cells #[.bool a1_0, .int .i64 a1_1, .int .i64 a1_2] 23 (0, 0))) ∧ Aside0 (wc.heap[gb231]? = some (.cells #[.bool a2_0, .int .i64 a2_1, .int .i64 a2_2] 23 (0, 0))) ∧ Aside0 (wc.heap[gb232]? = some (.cells #[.bool false, .int .i64 0, .int .i64 0] 23 (0, 0))) ∧ Aside0 (wc.heap[gb233]? = some (.cells #[.bool false, .int .i64 0, .int .i64 0] 23 (0, 0))) ∧ Aside0 (Below w.heap.size w wc))
    case first =>
     have H := HC18.out
     clear HC18
     by_cases c19 : a1_0 = true
     ·
      subst c19
      have H1 : (congr_Test.j1 kj3 a0 true true a1_1 a1_2 a2_0 a2_1 a2_2) = some (r1, r2, r3, r4, r5, r6) := by rw [if_pos rfl] at H; exact H
      clear H
      have H := H1
      clear H1
      have H' := Aside0.mk H
      clear H
      have hnb20 := NB230_231.out
      have hnc20 := NB231_230.out
      have hnb21 := NB230_232.out
      have hnc21 := NB232_230.out
      have hnb22 := NB230_233.out
      have hnc22 := NB233_230.out
      have hcz23_0 : wc.cell? ⟨gb230, 0, none⟩ = some (.bool true) := cz0 BK230
      have hcz23_1 : wc.cell? ⟨gb230, 1, none⟩ = some (.int .i64 a1_1) := cz1 BK230
      have hcz23_2 : wc.cell? ⟨gb230, 2, none⟩ = some (.int .i64 a1_2) := cz2 BK230
      have hfz23_0 := fz BK230 0
      have hfz23_1 := fz BK230 1
      have hfz23_2 := fz BK230 2
      go_wp2
      go_meet
      case rel => exact ⟨_, (true), (by first | rfl | (simp; done) | (simp [*]; done)), H', ⟨by have := HJ3.out; first | omega | exact Nat.le_refl _⟩, ⟨bkS BK230⟩, ⟨bkS BK231⟩, ⟨bkS BK232⟩, ⟨bkS BK233⟩, ⟨bS HB⟩⟩
     ·
      replace c19 := Bool.eq_false_iff.mpr c19
      subst c19
      have H1 : (if a2_0 = true then (congr_Test.j1 kj3 a0 true false a1_1 a1_2 a2_0 a2_1 a2_2) else (if a1_1 = 0 then (if a2_1 = 0 then ((congr_holds.f a0 a1_2 a2_2).bind fun t234 => (congr_Test.j1 kj3 a0 (!t234) false a1_1 a1_2 a2_0 a2_1 a2_2)) else (congr_Test.j1 kj3 a0 false false a1_1 a1_2 a2_0 a2_1 a2_2)) else (congr_Test.j1 kj3 a0 false false a1_1 a1_2 a2_0 a2_1 a2_2))) = some (r1, r2, r3, r4, r5, r6) := by rw [if_neg (show ¬ (false = true) by decide)] at H; exact H
      clear H
      have H := H1
      clear H1
      by_cases c24 : a2_0 = true
      ·
       subst c24
       have H1 : (congr_Test.j1 kj3 a0 true false a1_1 a1_2 true a2_1 a2_2) = some (r1, r2, r3, r4, r5, r6) := by rw [if_pos rfl] at H; exact H
       clear H
       have H := H1
       clear H1
       have H' := Aside0.mk H
       clear H
       have hnb25 := NB230_231.out
       have hnc25 := NB231_230.out
       have hnb26 := NB230_232.out
       have hnc26 := NB232_230.out
       have hnb27 := NB230_233.out
       have hnc27 := NB233_230.out
       have hcz28_0 : wc.cell? ⟨gb230, 0, none⟩ = some (.bool false) := cz0 BK230
       have hcz28_1 : wc.cell? ⟨gb230, 1, none⟩ = some (.int .i64 a1_1) := cz1 BK230
       have hcz28_2 : wc.cell? ⟨gb230, 2, none⟩ = some (.int .i64 a1_2) := cz2 BK230
       have hfz28_0 := fz BK230 0
       have hfz28_1 := fz BK230 1
       have hfz28_2 := fz BK230 2
       have hnb29 := NB231_232.out
       have hnc29 := NB232_231.out
       have hnb30 := NB231_233.out
       have hnc30 := NB233_231.out
       have hcz31_0 : wc.cell? ⟨gb231, 0, none⟩ = some (.bool true) := cz0 BK231
       have hcz31_1 : wc.cell? ⟨gb231, 1, none⟩ = some (.int .i64 a2_1) := cz1 BK231
       have hcz31_2 : wc.cell? ⟨gb231, 2, none⟩ = some (.int .i64 a2_2) := cz2 BK231
       have hfz31_0 := fz BK231 0
       have hfz31_1 := fz BK231 1
       have hfz31_2 := fz BK231 2
       go_wp2
       go_meet
       case rel => exact ⟨_, (true), (by first | rfl | (simp; done) | (simp [*]; done)), H', ⟨by have := HJ3.out; first | omega | exact Nat.le_refl _⟩, ⟨bkS BK230⟩, ⟨bkS BK231⟩, ⟨bkS BK232⟩, ⟨bkS BK233⟩, ⟨bS HB⟩⟩
      ·
       replace c24 := Bool.eq_false_iff.mpr c24
       subst c24
       have H1 : (if a1_1 = 0 then (if a2_1 = 0 then ((congr_holds.f a0 a1_2 a2_2).bind fun t234 => (congr_Test.j1 kj3 a0 (!t234) false a1_1 a1_2 false a2_1 a2_2)) else (congr_Test.j1 kj3 a0 false false a1_1 a1_2 false a2_1 a2_2)) else (congr_Test.j1 kj3 a0 false false a1_1 a1_2 false a2_1 a2_2)) = some (r1, r2, r3, r4, r5, r6) := by rw [if_neg (show ¬ (false = true) by decide)] at H; exact H
       clear H
       have H := H1
       clear H1
       by_cases c32 : a1_1 = 0
       ·
        rw [if_pos c32] at H
        have c32b0 : (a1_1 == 0) = true := beq_iff_eq.mpr c32
        have c32b1 : (a1_1 != 0) = false := bne_eq_false_iff_eq.mpr c32
        clear c32
        (first | rw [c32b0] | (simp only [i64_w, i32_w]; rw [c32b0]) | skip)
        by_cases c33 : a2_1 = 0
        ·
         rw [if_pos c33] at H
         have c33b0 : (a2_1 == 0) = true := beq_iff_eq.mpr c33
         have c33b1 : (a2_1 != 0) = false := bne_eq_false_iff_eq.mpr c33
         clear c33
         replace H := Option.bind_eq_some_iff.mp H
         obtain ⟨t234, A340, H⟩ := H
         replace H : (congr_Test.j1 kj3 a0 (!t234) false a1_1 a1_2 false a2_1 a2_2) = some (r1, r2, r3, r4, r5, r6) := H
         have A34 := Aside0.mk A340
         clear A340
         have H' := Aside0.mk H
         clear H
         have hnb35 := NB230_231.out
         have hnc35 := NB231_230.out
         have hnb36 := NB230_232.out
         have hnc36 := NB232_230.out
         have hnb37 := NB230_233.out
         have hnc37 := NB233_230.out
         have hcz38_0 : wc.cell? ⟨gb230, 0, none⟩ = some (.bool false) := cz0 BK230
         have hcz38_1 : wc.cell? ⟨gb230, 1, none⟩ = some (.int .i64 a1_1) := cz1 BK230
         have hcz38_2 : wc.cell? ⟨gb230, 2, none⟩ = some (.int .i64 a1_2) := cz2 BK230
         have hfz38_0 := fz BK230 0
         have hfz38_1 := fz BK230 1
         have hfz38_2 := fz BK230 2
         have hnb39 := NB231_232.out
         have hnc39 := NB232_231.out
         have hnb40 := NB231_233.out
         have hnc40 := NB233_231.out
         have hcz41_0 : wc.cell? ⟨gb231, 0, none⟩ = some (.bool false) := cz0 BK231
         have hcz41_1 : wc.cell? ⟨gb231, 1, none⟩ = some (.int .i64 a2_1) := cz1 BK231
         have hcz41_2 : wc.cell? ⟨gb231, 2, none⟩ = some (.int .i64 a2_2) := cz2 BK231
         have hfz41_0 := fz BK231 0
         have hfz41_1 := fz BK231 1
         have hfz41_2 := fz BK231 2
         go_wp2_with (first | (go_at_call 67; (with_reducible refine (congr_holds.calls a0 a1_2 a2_2 t234 _ A34.out).mono ?_); rintro e w' ⟨rfl, ⟨nd, rfl⟩⟩))
         go_meet
         case rel => exact ⟨_, (!t234), (by first | rfl | (simp; done) | (simp [*]; done)), H', ⟨by have := HJ3.out; first | omega | exact Nat.le_refl _⟩, ⟨bkS BK230⟩, ⟨bkS BK231⟩, ⟨bkS BK232⟩, ⟨bkS BK233⟩, ⟨bS HB⟩⟩
        ·
         rw [if_neg c33] at H
         have c33b0 : (a2_1 == 0) = false := beq_eq_false_iff_ne.mpr c33
         have c33b1 : (a2_1 != 0) = true := bne_iff_ne.mpr c33
         have H' := Aside0.mk H
         clear H
         have hnb42 := NB230_231.out
         have hnc42 := NB231_230.out
         have hnb43 := NB230_232.out
         have hnc43 := NB232_230.out
         have hnb44 := NB230_233.out
         have hnc44 := NB233_230.out
         have hcz45_0 : wc.cell? ⟨gb230, 0, none⟩ = some (.bool false) := cz0 BK230
         have hcz45_1 : wc.cell? ⟨gb230, 1, none⟩ = some (.int .i64 a1_1) := cz1 BK230
         have hcz45_2 : wc.cell? ⟨gb230, 2, none⟩ = some (.int .i64 a1_2) := cz2 BK230
         have hfz45_0 := fz BK230 0
         have hfz45_1 := fz BK230 1
         have hfz45_2 := fz BK230 2
         have hnb46 := NB231_232.out
         have hnc46 := NB232_231.out
         have hnb47 := NB231_233.out
         have hnc47 := NB233_231.out
         have hcz48_0 : wc.cell? ⟨gb231, 0, none⟩ = some (.bool false) := cz0 BK231
         have hcz48_1 : wc.cell? ⟨gb231, 1, none⟩ = some (.int .i64 a2_1) := cz1 BK231
         have hcz48_2 : wc.cell? ⟨gb231, 2, none⟩ = some (.int .i64 a2_2) := cz2 BK231
         have hfz48_0 := fz BK231 0
         have hfz48_1 := fz BK231 1
         have hfz48_2 := fz BK231 2
         go_wp2
         go_meet
         case rel => exact ⟨_, (false), (by first | rfl | (simp; done) | (simp [*]; done)), H', ⟨by have := HJ3.out; first | omega | exact Nat.le_refl _⟩, ⟨bkS BK230⟩, ⟨bkS BK231⟩, ⟨bkS BK232⟩, ⟨bkS BK233⟩, ⟨bS HB⟩⟩
       ·
        rw [if_neg c32] at H
        have c32b0 : (a1_1 == 0) = false := beq_eq_false_iff_ne.mpr c32
        have c32b1 : (a1_1 != 0) = true := bne_iff_ne.mpr c32
        (first | rw [c32b0] | (simp only [i64_w, i32_w]; rw [c32b0]) | skip)
        have H' := Aside0.mk H
        clear H
        have hnb49 := NB230_231.out
        have hnc49 := NB231_230.out
        have hnb50 := NB230_232.out
        have hnc50 := NB232_230.out
        have hnb51 := NB230_233.out
        have hnc51 := NB233_230.out
        have hcz52_0 : wc.cell? ⟨gb230, 0, none⟩ = some (.bool false) := cz0 BK230
        have hcz52_1 : wc.cell? ⟨gb230, 1, none⟩ = some (.int .i64 a1_1) := cz1 BK230
        have hcz52_2 : wc.cell? ⟨gb230, 2, none⟩ = some (.int .i64 a1_2) := cz2 BK230
        have hfz52_0 := fz BK230 0
        have hfz52_1 := fz BK230 1
        have hfz52_2 := fz BK230 2
        have hnb53 := NB231_232.out
        have hnc53 := NB232_231.out
        have hnb54 := NB231_233.out
        have hnc54 := NB233_231.out
        have hcz55_0 : wc.cell? ⟨gb231, 0, none⟩ = some (.bool false) := cz0 BK231
        have hcz55_1 : wc.cell? ⟨gb231, 1, none⟩ = some (.int .i64 a2_1) := cz1 BK231
        have hcz55_2 : wc.cell? ⟨gb231, 2, none⟩ = some (.int .i64 a2_2) := cz2 BK231
        have hfz55_0 := fz BK231 0
        have hfz55_1 := fz BK231 1
        have hfz55_2 := fz BK231 2
        go_wp2
        go_meet
        case rel => exact ⟨_, (false), (by first | rfl | (simp; done) | (simp [*]; done)), H', ⟨by have := HJ3.out; first | omega | exact Nat.le_refl _⟩, ⟨bkS BK230⟩, ⟨bkS BK231⟩, ⟨bkS BK232⟩, ⟨bkS BK233⟩, ⟨bS HB⟩⟩
    case rest =>
     clear HC18
     try clear c1
     try clear c2
     try clear p2
     try clear c3
     try clear c4
     try clear c5
     try clear c9
     try clear c9b0
     try clear c10
     try clear c19
     try clear c20
     try clear c21
     try clear c22
     try clear c24
     try clear c25
     try clear c26
     try clear c27
     try clear c29
     try clear c30
     try clear c32
     try clear c32b0
     try clear c32b1
     try clear c33
     try clear c33b0
     try clear c33b1
     try clear c35
     try clear c36
     try clear c37
     try clear c39
     try clear c40
     try clear c42
     try clear c43
     try clear c44
     try clear c46
     try clear c47
     try clear c49
     try clear c50
     try clear c51
     try clear c53
     try clear c54
     try clear hcz23_0
     try clear hcz23_1
     try clear hcz23_2
     try clear hcz28_0
     try clear hcz28_1
     try clear hcz28_2
     try clear hcz31_0
     try clear hcz31_1
     try clear hcz31_2
     try clear hcz38_0
     try clear hcz38_1
     try clear hcz38_2
     try clear hcz41_0
     try clear hcz41_1
     try clear hcz41_2
     try clear hcz45_0
     try clear hcz45_1
     try clear hcz45_2
     try clear hcz48_0
     try clear hcz48_1
     try clear hcz48_2
     try clear hcz52_0
     try clear hcz52_1
     try clear hcz52_2
     try clear hcz55_0
     try clear hcz55_1
     try clear hcz55_2
     try clear hfz23_0
     try clear hfz23_1
     try clear hfz23_2
     try clear hfz28_0
     try clear hfz28_1
     try clear hfz28_2
     try clear hfz31_0
     try clear hfz31_1
     try clear hfz31_2
     try clear hfz38_0
     try clear hfz38_1
     try clear hfz38_2
     try clear hfz41_0
     try clear hfz41_1
     try clear hfz41_2
     try clear hfz45_0
     try clear hfz45_1
     try clear hfz45_2
     try clear hfz48_0
     try clear hfz48_1
     try clear hfz48_2
     try clear hfz52_0
     try clear hfz52_1
     try clear hfz52_2
     try clear hfz55_0
     try clear hfz55_1
     try clear hfz55_2
     try clear p2
     obtain ⟨kq, x18_17, rfl, HA, HJ17, BK230, BK231, BK232, BK233, HB⟩ := hcut
     cases kq with
     | zero => exact absurd HA.out (by simp [congr_Test.j1])
     | succ kj17 =>
      have H := HA.out
      clear HA
      simp only [congr_Test.j1] at H
      by_cases c56 : x18_17 = true
      ·
       subst c56
       have H1 : ((congr_none.f).bind fun bt235 => ((congr_none.f).bind fun bt238 => (some (bt235.1, bt235.2.1, bt235.2.2, bt238.1, bt238.2.1, bt238.2.2)))) = some (r1, r2, r3, r4, r5, r6) := by rw [if_pos rfl] at H; exact H
       clear H
       have H := H1
       clear H1
       replace H := Option.bind_eq_some_iff.mp H
       obtain ⟨⟨t235, t236, t237⟩, A570, H⟩ := H
       replace H : ((congr_none.f).bind fun bt238 => (some (t235, t236, t237, bt238.1, bt238.2.1, bt238.2.2))) = some (r1, r2, r3, r4, r5, r6) := H
       have A57 := Aside0.mk A570
       clear A570
       replace H := Option.bind_eq_some_iff.mp H
       obtain ⟨⟨t238, t239, t240⟩, A580, H⟩ := H
       replace H : (some (t235, t236, t237, t238, t239, t240)) = some (r1, r2, r3, r4, r5, r6) := H
       have A58 := Aside0.mk A580
       clear A580
       simp only [Option.some.injEq, Prod.mk.injEq] at H
       obtain ⟨rfl, rfl, rfl, rfl, rfl, rfl⟩ := H
       go_wp2_with (first | ((with_reducible refine gate_callee (f := 56) rfl ?_); refine goesL_ (some 44) rfl rfl Tryd.func56 (by kernel_rfl) rfl #[] rfl mS ?_; (with_reducible refine (congr_none.calls  t235 t236 t237 _ A57.out).mono ?_); rintro e w59 ⟨rfl, hb⟩; refine ⟨_, rfl, ?_⟩; replace BK230 := kB BK230 hb; replace BK231 := kB BK231 hb; replace BK232 := kB BK232 hb; replace BK233 := kB BK233 hb; replace HB := kW HB hb; (try clear hb); (try clear hb2); (try clear hk); (try clear hi)) | ((with_reducible refine gate_callee (f := 56) rfl ?_); refine goesL_ (some 45) rfl rfl Tryd.func56 (by kernel_rfl) rfl #[] rfl mS ?_; (with_reducible refine (congr_none.calls  t238 t239 t240 _ A58.out).mono ?_); rintro e w60 ⟨rfl, hb⟩; refine ⟨_, rfl, ?_⟩; replace BK230 := kB BK230 hb; replace BK231 := kB BK231 hb; replace BK232 := kB BK232 hb; replace BK233 := kB BK233 hb; replace HB := kW HB hb; (try clear hb); (try clear hb2); (try clear hk); (try clear hi); have hnb61 := NB232_230.out; have hnc61 := NB230_232.out; have hnb62 := NB232_231.out; have hnc62 := NB231_232.out; have hnb63 := NB232_233.out; have hnc63 := NB233_232.out; have hcz64_0 := cz0 BK232; have hcz64_1 := cz1 BK232; have hcz64_2 := cz2 BK232; have hfz64_0 := fz BK232 0; have hfz64_1 := fz BK232 1; have hfz64_2 := fz BK232 2; have hnb65 := NB233_230.out; have hnc65 := NB230_233.out; have hnb66 := NB233_231.out; have hnc66 := NB231_233.out; have hcz67_0 := cz0 BK233; have hcz67_1 := cz1 BK233; have hcz67_2 := cz2 BK233; have hfz67_0 := fz BK233 0; have hfz67_1 := fz BK233 1; have hfz67_2 := fz BK233 2))
       refine bodyPost_ret (results_cc rfl _ _ gb232 gb233 23 23 #[.bool t235, .int .i64 t236, .int .i64 t237] #[.bool t238, .int .i64 t239, .int .i64 t240] (0, 0) (0, 0) _ _ rfl (by (with_reducible repeat (first | refine b1 ?_ _ | refine b2 ?_ | refine b3 ?_ _)); refine blk_far ?_ NB232_233.out _; (with_reducible repeat (first | refine b1 ?_ _ | refine b2 ?_ | refine b3 ?_ _)); refine blk_far ?_ NB232_233.out _; (with_reducible repeat (first | refine b1 ?_ _ | refine b2 ?_ | refine b3 ?_ _)); refine blk_far ?_ NB232_233.out _; (with_reducible repeat (first | refine b1 ?_ _ | refine b2 ?_ | refine b3 ?_ _)); refine blk_put (cs := #[.bool t235, .int .i64 t236, .int .i64 0]) ?_ 2 _ rfl; (with_reducible repeat (first | refine b1 ?_ _ | refine b2 ?_ | refine b3 ?_ _)); refine blk_put (cs := #[.bool t235, .int .i64 0, .int .i64 0]) ?_ 1 _ rfl; (with_reducible repeat (first | refine b1 ?_ _ | refine b2 ?_ | refine b3 ?_ _)); refine blk_put (cs := #[.bool false, .int .i64 0, .int .i64 0]) ?_ 0 _ rfl; (with_reducible repeat (first | refine b1 ?_ _ | refine b2 ?_ | refine b3 ?_ _)); exact BK232.out) Tryd.underlying23 rfl (by kernel_rfl) rfl (by (with_reducible repeat (first | refine b1 ?_ _ | refine b2 ?_ | refine b3 ?_ _)); refine blk_put (cs := #[.bool t238, .int .i64 t239, .int .i64 0]) ?_ 2 _ rfl; (with_reducible repeat (first | refine b1 ?_ _ | refine b2 ?_ | refine b3 ?_ _)); refine blk_put (cs := #[.bool t238, .int .i64 0, .int .i64 0]) ?_ 1 _ rfl; (with_reducible repeat (first | refine b1 ?_ _ | refine b2 ?_ | refine b3 ?_ _)); refine blk_put (cs := #[.bool false, .int .i64 0, .int .i64 0]) ?_ 0 _ rfl; (with_reducible repeat (first | refine b1 ?_ _ | refine b2 ?_ | refine b3 ?_ _)); refine blk_far ?_ NB233_232.out _; (with_reducible repeat (first | refine b1 ?_ _ | refine b2 ?_ | refine b3 ?_ _)); refine blk_far ?_ NB233_232.out _; (with_reducible repeat (first | refine b1 ?_ _ | refine b2 ?_ | refine b3 ?_ _)); refine blk_far ?_ NB233_232.out _; (with_reducible repeat (first | refine b1 ?_ _ | refine b2 ?_ | refine b3 ?_ _)); exact BK233.out) Tryd.underlying23 rfl (by kernel_rfl)) rfl ?_
       exact ⟨eS, bS HB⟩
      ·
       replace c56 := Bool.eq_false_iff.mpr c56
       subst c56
       have H1 : (if a0 = 14 then ((congr_Meet.f kj17 a1_0 a1_1 a1_2 a2_0 a2_1 a2_2).bind fun bt241 => (some (bt241.1, bt241.2.1, bt241.2.2, bt241.1, bt241.2.1, bt241.2.2))) else (some (a1_0, a1_1, a1_2, a2_0, a2_1, a2_2))) = some (r1, r2, r3, r4, r5, r6) := by rw [if_neg (show ¬ (false = true) by decide)] at H; exact H
       clear H
       have H := H1
       clear H1
       by_cases c68 : a0 = 14
       ·
        rw [if_pos c68] at H
        have c68b0 : (a0 == 14) = true := beq_iff_eq.mpr c68
        have c68b1 : (a0 != 14) = false := bne_eq_false_iff_eq.mpr c68
        clear c68
        replace H := Option.bind_eq_some_iff.mp H
        obtain ⟨⟨t241, t242, t243⟩, A690, H⟩ := H
        replace H : (some (t241, t242, t243, t241, t242, t243)) = some (r1, r2, r3, r4, r5, r6) := H
        have A69 := Aside0.mk A690
        clear A690
        simp only [Option.some.injEq, Prod.mk.injEq] at H
        obtain ⟨rfl, rfl, rfl, rfl, rfl, rfl⟩ := H
        have hnb70 := NB230_231.out
        have hnc70 := NB231_230.out
        have hnb71 := NB230_232.out
        have hnc71 := NB232_230.out
        have hnb72 := NB230_233.out
        have hnc72 := NB233_230.out
        have hcz73_0 : wc.cell? ⟨gb230, 0, none⟩ = some (.bool a1_0) := cz0 BK230
        have hcz73_1 : wc.cell? ⟨gb230, 1, none⟩ = some (.int .i64 a1_1) := cz1 BK230
        have hcz73_2 : wc.cell? ⟨gb230, 2, none⟩ = some (.int .i64 a1_2) := cz2 BK230
        have hfz73_0 := fz BK230 0
        have hfz73_1 := fz BK230 1
        have hfz73_2 := fz BK230 2
        have hnb74 := NB231_232.out
        have hnc74 := NB232_231.out
        have hnb75 := NB231_233.out
        have hnc75 := NB233_231.out
        have hcz76_0 : wc.cell? ⟨gb231, 0, none⟩ = some (.bool a2_0) := cz0 BK231
        have hcz76_1 : wc.cell? ⟨gb231, 1, none⟩ = some (.int .i64 a2_1) := cz1 BK231
        have hcz76_2 : wc.cell? ⟨gb231, 2, none⟩ = some (.int .i64 a2_2) := cz2 BK231
        have hfz76_0 := fz BK231 0
        have hfz76_1 := fz BK231 1
        have hfz76_2 := fz BK231 2
        try go_wp2_with (first | ((with_reducible refine gate_callee (f := 20) rfl ?_); refine goesL_ (some 51) rfl rfl Tryd.func20 (by kernel_rfl) rfl #[.agg #[.bool a1_0, .int .i64 a1_1, .int .i64 a1_2], .agg #[.bool a2_0, .int .i64 a2_1, .int .i64 a2_2]] rfl mS ?_; (with_reducible refine (congr_Meet.calls kj17 a1_0 a1_1 a1_2 a2_0 a2_1 a2_2 t241 t242 t243 _ A69.out).mono ?_); rintro e w77 ⟨rfl, hb⟩; refine ⟨_, rfl, ?_⟩; replace BK230 := kB BK230 hb; replace BK231 := kB BK231 hb; replace BK232 := kB BK232 hb; replace BK233 := kB BK233 hb; replace HB := kW HB hb; (try clear hb); (try clear hb2); (try clear hk); (try clear hi)) | ((with_reducible refine gate_dst (N := 8) rfl ?_); refine box_event ?hg (N := 8) ?hd (cs := #[.bool false, .int .i64 0, .int .i64 0]) (t := 23) ?hr ?_; (case hd => rfl); (case hg => rfl); (case hr => first | (go_simp; done) | (go_simp; rfl)); intro gb244 hg w78 hbox hb; have n0_ := kB BK230 hb; have n1_ := kB BK231 hb; have n2_ := kB BK232 hb; have n3_ := kB BK233 hb; have n4_ := kW HB hb; have n5_ := Aside0.mk (hbox); have n6_ := Aside0.mk ((by rw [hg]; exact (below_size (bS HB)) : w.heap.size ≤ gb244)); have n7_ := Aside0.mk ((by rw [hg]; exact (below_size (bS HB)) : w.heap.size ≤ gb244)); have n8_ := Aside0.mk ((by rw [hg]; exact Nat.ne_of_lt (blk_lt (bkS BK230)) : gb230 ≠ gb244)); have n9_ := Aside0.mk ((by rw [hg]; exact Nat.ne_of_gt (blk_lt (bkS BK230)) : gb244 ≠ gb230)); have n10_ := Aside0.mk ((by rw [hg]; exact Nat.ne_of_lt (blk_lt (bkS BK231)) : gb231 ≠ gb244)); have n11_ := Aside0.mk ((by rw [hg]; exact Nat.ne_of_gt (blk_lt (bkS BK231)) : gb244 ≠ gb231)); have n12_ := Aside0.mk ((by rw [hg]; exact Nat.ne_of_lt (blk_lt (bkS BK232)) : gb232 ≠ gb244)); have n13_ := Aside0.mk ((by rw [hg]; exact Nat.ne_of_gt (blk_lt (bkS BK232)) : gb244 ≠ gb232)); have n14_ := Aside0.mk ((by rw [hg]; exact Nat.ne_of_lt (blk_lt (bkS BK233)) : gb233 ≠ gb244)); have n15_ := Aside0.mk ((by rw [hg]; exact Nat.ne_of_gt (blk_lt (bkS BK233)) : gb244 ≠ gb233)); clear BK230; clear BK231; clear BK232; clear BK233; clear HB; have BK230 := n0_; have BK231 := n1_; have BK232 := n2_; have BK233 := n3_; have HB := n4_; have BK244 := n5_; have GW244 := n6_; have GE244 := n7_; have NB230_244 := n8_; have NB244_230 := n9_; have NB231_244 := n10_; have NB244_231 := n11_; have NB232_244 := n12_; have NB244_232 := n13_; have NB233_244 := n14_; have NB244_233 := n15_; clear n0_ n1_ n2_ n3_ n4_ n5_ n6_ n7_ n8_ n9_ n10_ n11_ n12_ n13_ n14_ n15_; clear hb hbox hg; have hnb79 := NB244_230.out; have hnc79 := NB230_244.out; have hnb80 := NB244_231.out; have hnc80 := NB231_244.out; have hnb81 := NB244_232.out; have hnc81 := NB232_244.out; have hnb82 := NB244_233.out; have hnc82 := NB233_244.out; have hcz83_0 := cz0 BK244; have hcz83_1 := cz1 BK244; have hcz83_2 := cz2 BK244; have hfz83_0 := fz BK244 0; have hfz83_1 := fz BK244 1; have hfz83_2 := fz BK244 2))
        have n0_ : Aside0 ((((w78.setCell ⟨gb244, 0, none⟩ (.bool t241)).setCell ⟨gb244, 1, none⟩ (.int .i64 t242)).setCell ⟨gb244, 2, none⟩ (.int .i64 t243)).heap[gb230]? = some (.cells #[.bool a1_0, .int .i64 a1_1, .int .i64 a1_2] 23 (0, 0))) := ⟨bkS BK230⟩
        have n1_ : Aside0 ((((w78.setCell ⟨gb244, 0, none⟩ (.bool t241)).setCell ⟨gb244, 1, none⟩ (.int .i64 t242)).setCell ⟨gb244, 2, none⟩ (.int .i64 t243)).heap[gb231]? = some (.cells #[.bool a2_0, .int .i64 a2_1, .int .i64 a2_2] 23 (0, 0))) := ⟨bkS BK231⟩
        have n2_ : Aside0 ((((w78.setCell ⟨gb244, 0, none⟩ (.bool t241)).setCell ⟨gb244, 1, none⟩ (.int .i64 t242)).setCell ⟨gb244, 2, none⟩ (.int .i64 t243)).heap[gb232]? = some (.cells #[.bool false, .int .i64 0, .int .i64 0] 23 (0, 0))) := ⟨bkS BK232⟩
        have n3_ : Aside0 ((((w78.setCell ⟨gb244, 0, none⟩ (.bool t241)).setCell ⟨gb244, 1, none⟩ (.int .i64 t242)).setCell ⟨gb244, 2, none⟩ (.int .i64 t243)).heap[gb233]? = some (.cells #[.bool false, .int .i64 0, .int .i64 0] 23 (0, 0))) := ⟨bkS BK233⟩
        have n4_ : Aside0 ((((w78.setCell ⟨gb244, 0, none⟩ (.bool t241)).setCell ⟨gb244, 1, none⟩ (.int .i64 t242)).setCell ⟨gb244, 2, none⟩ (.int .i64 t243)).heap[gb244]? = some (.cells #[.bool t241, .int .i64 t242, .int .i64 t243] 23 (0, 0))) := ⟨by (with_reducible repeat (first | refine b1 ?_ _ | refine b2 ?_ | refine b3 ?_ _)); refine blk_put (cs := #[.bool t241, .int .i64 t242, .int .i64 0]) ?_ 2 _ rfl; (with_reducible repeat (first | refine b1 ?_ _ | refine b2 ?_ | refine b3 ?_ _)); refine blk_put (cs := #[.bool t241, .int .i64 0, .int .i64 0]) ?_ 1 _ rfl; (with_reducible repeat (first | refine b1 ?_ _ | refine b2 ?_ | refine b3 ?_ _)); refine blk_put (cs := #[.bool false, .int .i64 0, .int .i64 0]) ?_ 0 _ rfl; (with_reducible repeat (first | refine b1 ?_ _ | refine b2 ?_ | refine b3 ?_ _)); exact BK244.out⟩
        have n5_ : Aside0 (Below w.heap.size w (((w78.setCell ⟨gb244, 0, none⟩ (.bool t241)).setCell ⟨gb244, 1, none⟩ (.int .i64 t242)).setCell ⟨gb244, 2, none⟩ (.int .i64 t243))) := ⟨bS HB⟩
        (try clear BK230)
        (try clear BK231)
        (try clear BK232)
        (try clear BK233)
        (try clear BK244)
        (try clear HB)
        generalize (((w78.setCell ⟨gb244, 0, none⟩ (.bool t241)).setCell ⟨gb244, 1, none⟩ (.int .i64 t242)).setCell ⟨gb244, 2, none⟩ (.int .i64 t243)) = w84 at n0_ n1_ n2_ n3_ n4_ n5_ ⊢
        have BK230 := n0_
        have BK231 := n1_
        have BK232 := n2_
        have BK233 := n3_
        have BK244 := n4_
        have HB := n5_
        clear n0_ n1_ n2_ n3_ n4_ n5_
        replace BK230 := Aside0.mk (blk_drew BK230.out)
        replace BK231 := Aside0.mk (blk_drew BK231.out)
        replace BK232 := Aside0.mk (blk_drew BK232.out)
        replace BK233 := Aside0.mk (blk_drew BK233.out)
        replace BK244 := Aside0.mk (blk_drew BK244.out)
        replace HB := Aside0.mk (below_drew1 HB.out)
        refine start_ (n := 4) (S := fun w' => w'.cell? ⟨gb244, 0, none⟩ = some (.bool t241) ∧ w'.cell? ⟨gb244, 1, none⟩ = some (.int .i64 t242) ∧ w'.cell? ⟨gb244, 2, none⟩ = some (.int .i64 t243)) (ds := []) #[false, false, false, false] (by kernel_rfl) rfl rfl ⟨cz0 BK244, cz1 BK244, cz2 BK244⟩ (fun hHeld => ?_)
        generalize w84.drew = w85 at BK230 BK231 BK232 BK233 BK244 HB hHeld ⊢
        refine take_ (i := 0) (N := some 52) (v := ?_) (a' := ?_) #[true, false, false, false] rfl rfl (by kernel_rfl) (fun _ _ _ h => h) (Or.inl ⟨by rfl, ?_⟩) hHeld ?_ ?_
        rotate_left
        ·
         rintro w' ⟨s0, s1, s2⟩
         go_simp
         with_reducible rfl
        rotate_left
        ·
         simp only [Act.put, lA, lB, lC, i64_w, i32_w]
         rfl
        refine take_ (i := 1) (N := some 53) (v := ?_) (a' := ?_) #[true, true, false, false] rfl rfl (by kernel_rfl) (fun _ _ _ h => h) (Or.inl ⟨by rfl, ?_⟩) hHeld ?_ ?_
        rotate_left
        ·
         rintro w' ⟨s0, s1, s2⟩
         go_simp
         with_reducible rfl
        rotate_left
        ·
         simp only [Act.put, lA, lB, lC, i64_w, i32_w]
         rfl
        refine one_ (i := 2) (N := none) #[true, true, true, false] rfl rfl (by kernel_rfl) (by decide) (fun K hK => ?_)
        have hs86 : w85.cell? ⟨gb232, 0, none⟩ = some (.bool false) := cz0 BK232
        have hfs86 := fz BK232 0
        have hns86_0 := NB230_232.out
        have hns86_1 := NB231_232.out
        have hns86_3 := NB233_232.out
        have hns86_4 := NB244_232.out
        have hms86_0 := NB232_230.out
        have hms86_1 := NB232_231.out
        have hms86_3 := NB232_233.out
        have hms86_4 := NB232_244.out
        have hs87 : w85.cell? ⟨gb232, 1, none⟩ = some (.int .i64 0) := cz1 BK232
        have hfs87 := fz BK232 1
        have hns87_0 := NB230_232.out
        have hns87_1 := NB231_232.out
        have hns87_3 := NB233_232.out
        have hns87_4 := NB244_232.out
        have hms87_0 := NB232_230.out
        have hms87_1 := NB232_231.out
        have hms87_3 := NB232_233.out
        have hms87_4 := NB232_244.out
        have hs88 : w85.cell? ⟨gb232, 2, none⟩ = some (.int .i64 0) := cz2 BK232
        have hfs88 := fz BK232 2
        have hns88_0 := NB230_232.out
        have hns88_1 := NB231_232.out
        have hns88_3 := NB233_232.out
        have hns88_4 := NB244_232.out
        have hms88_0 := NB232_230.out
        have hms88_1 := NB232_231.out
        have hms88_3 := NB232_233.out
        have hms88_4 := NB232_244.out
        refine skip_ (w1 := ?_) (by rfl) rfl ?_ ?_
        rotate_left
        ·
         go_simp
         rfl
        refine hK.out _ _ ⟨((cell_far (p := ⟨gb232, _, none⟩) NB244_232.out _).trans (((cell_far (p := ⟨gb232, _, none⟩) NB244_232.out _).trans (((cell_far (p := ⟨gb232, _, none⟩) NB244_232.out _).trans (hHeld.1)))))), ((cell_far (p := ⟨gb232, _, none⟩) NB244_232.out _).trans (((cell_far (p := ⟨gb232, _, none⟩) NB244_232.out _).trans (((cell_far (p := ⟨gb232, _, none⟩) NB244_232.out _).trans (hHeld.2.1)))))), ((cell_far (p := ⟨gb232, _, none⟩) NB244_232.out _).trans (((cell_far (p := ⟨gb232, _, none⟩) NB244_232.out _).trans (((cell_far (p := ⟨gb232, _, none⟩) NB244_232.out _).trans (hHeld.2.2))))))⟩ (fun hHeld => ?_)
        clear hK K
        refine one_ (i := 3) (N := none) #[true, true, true, true] rfl rfl (by kernel_rfl) (by decide) (fun K hK => ?_)
        have hs89 : w85.cell? ⟨gb233, 0, none⟩ = some (.bool false) := cz0 BK233
        have hfs89 := fz BK233 0
        have hns89_0 := NB230_233.out
        have hns89_1 := NB231_233.out
        have hns89_2 := NB232_233.out
        have hns89_4 := NB244_233.out
        have hms89_0 := NB233_230.out
        have hms89_1 := NB233_231.out
        have hms89_2 := NB233_232.out
        have hms89_4 := NB233_244.out
        have hs90 : w85.cell? ⟨gb233, 1, none⟩ = some (.int .i64 0) := cz1 BK233
        have hfs90 := fz BK233 1
        have hns90_0 := NB230_233.out
        have hns90_1 := NB231_233.out
        have hns90_2 := NB232_233.out
        have hns90_4 := NB244_233.out
        have hms90_0 := NB233_230.out
        have hms90_1 := NB233_231.out
        have hms90_2 := NB233_232.out
        have hms90_4 := NB233_244.out
        have hs91 : w85.cell? ⟨gb233, 2, none⟩ = some (.int .i64 0) := cz2 BK233
        have hfs91 := fz BK233 2
        have hns91_0 := NB230_233.out
        have hns91_1 := NB231_233.out
        have hns91_2 := NB232_233.out
        have hns91_4 := NB244_233.out
        have hms91_0 := NB233_230.out
        have hms91_1 := NB233_231.out
        have hms91_2 := NB233_232.out
        have hms91_4 := NB233_244.out
        refine skip_ (w1 := ?_) (by rfl) rfl ?_ ?_
        rotate_left
        ·
         go_simp
         rfl
        refine hK.out _ _ ⟨((cell_far (p := ⟨gb233, _, none⟩) NB244_233.out _).trans (((cell_far (p := ⟨gb233, _, none⟩) NB244_233.out _).trans (((cell_far (p := ⟨gb233, _, none⟩) NB244_233.out _).trans (hHeld.1)))))), ((cell_far (p := ⟨gb233, _, none⟩) NB244_233.out _).trans (((cell_far (p := ⟨gb233, _, none⟩) NB244_233.out _).trans (((cell_far (p := ⟨gb233, _, none⟩) NB244_233.out _).trans (hHeld.2.1)))))), ((cell_far (p := ⟨gb233, _, none⟩) NB244_233.out _).trans (((cell_far (p := ⟨gb233, _, none⟩) NB244_233.out _).trans (((cell_far (p := ⟨gb233, _, none⟩) NB244_233.out _).trans (hHeld.2.2))))))⟩ (fun hHeld => ?_)
        clear hK K
        refine done_ (by kernel_rfl) ?_
        try go_wp2
        refine bodyPost_ret (results_cc rfl _ _ gb232 gb233 23 23 #[.bool t241, .int .i64 t242, .int .i64 t243] #[.bool t241, .int .i64 t242, .int .i64 t243] (0, 0) (0, 0) _ _ rfl (by (with_reducible repeat (first | refine b1 ?_ _ | refine b2 ?_ | refine b3 ?_ _)); refine blk_far ?_ NB232_233.out _; (with_reducible repeat (first | refine b1 ?_ _ | refine b2 ?_ | refine b3 ?_ _)); refine blk_far ?_ NB232_233.out _; (with_reducible repeat (first | refine b1 ?_ _ | refine b2 ?_ | refine b3 ?_ _)); refine blk_far ?_ NB232_233.out _; (with_reducible repeat (first | refine b1 ?_ _ | refine b2 ?_ | refine b3 ?_ _)); refine blk_put (cs := #[.bool t241, .int .i64 t242, .int .i64 0]) ?_ 2 _ rfl; (with_reducible repeat (first | refine b1 ?_ _ | refine b2 ?_ | refine b3 ?_ _)); refine blk_put (cs := #[.bool t241, .int .i64 0, .int .i64 0]) ?_ 1 _ rfl; (with_reducible repeat (first | refine b1 ?_ _ | refine b2 ?_ | refine b3 ?_ _)); refine blk_put (cs := #[.bool false, .int .i64 0, .int .i64 0]) ?_ 0 _ rfl; (with_reducible repeat (first | refine b1 ?_ _ | refine b2 ?_ | refine b3 ?_ _)); exact BK232.out) Tryd.underlying23 rfl (by kernel_rfl) rfl (by (with_reducible repeat (first | refine b1 ?_ _ | refine b2 ?_ | refine b3 ?_ _)); refine blk_put (cs := #[.bool t241, .int .i64 t242, .int .i64 0]) ?_ 2 _ rfl; (with_reducible repeat (first | refine b1 ?_ _ | refine b2 ?_ | refine b3 ?_ _)); refine blk_put (cs := #[.bool t241, .int .i64 0, .int .i64 0]) ?_ 1 _ rfl; (with_reducible repeat (first | refine b1 ?_ _ | refine b2 ?_ | refine b3 ?_ _)); refine blk_put (cs := #[.bool false, .int .i64 0, .int .i64 0]) ?_ 0 _ rfl; (with_reducible repeat (first | refine b1 ?_ _ | refine b2 ?_ | refine b3 ?_ _)); refine blk_far ?_ NB233_232.out _; (with_reducible repeat (first | refine b1 ?_ _ | refine b2 ?_ | refine b3 ?_ _)); refine blk_far ?_ NB233_232.out _; (with_reducible repeat (first | refine b1 ?_ _ | refine b2 ?_ | refine b3 ?_ _)); refine blk_far ?_ NB233_232.out _; (with_reducible repeat (first | refine b1 ?_ _ | refine b2 ?_ | refine b3 ?_ _)); exact BK233.out) Tryd.underlying23 rfl (by kernel_rfl)) rfl ?_
        exact ⟨eS, bS HB⟩
       ·
        rw [if_neg c68] at H
        have c68b0 : (a0 == 14) = false := beq_eq_false_iff_ne.mpr c68
        have c68b1 : (a0 != 14) = true := bne_iff_ne.mpr c68
        simp only [Option.some.injEq, Prod.mk.injEq] at H
        obtain ⟨rfl, rfl, rfl, rfl, rfl, rfl⟩ := H
        try go_wp2
        replace BK230 := Aside0.mk (blk_drew BK230.out)
        replace BK231 := Aside0.mk (blk_drew BK231.out)
        replace BK232 := Aside0.mk (blk_drew BK232.out)
        replace BK233 := Aside0.mk (blk_drew BK233.out)
        replace HB := Aside0.mk (below_drew1 HB.out)
        refine start_ (n := 4) (S := fun w' => w'.cell? ⟨gb230, 0, none⟩ = some (.bool a1_0) ∧ w'.cell? ⟨gb230, 1, none⟩ = some (.int .i64 a1_1) ∧ w'.cell? ⟨gb230, 2, none⟩ = some (.int .i64 a1_2) ∧ w'.cell? ⟨gb231, 0, none⟩ = some (.bool a2_0) ∧ w'.cell? ⟨gb231, 1, none⟩ = some (.int .i64 a2_1) ∧ w'.cell? ⟨gb231, 2, none⟩ = some (.int .i64 a2_2)) (ds := []) #[false, false, false, false] (by kernel_rfl) rfl rfl ⟨cz0 BK230, cz1 BK230, cz2 BK230, cz0 BK231, cz1 BK231, cz2 BK231⟩ (fun hHeld => ?_)
        generalize wc.drew = w92 at BK230 BK231 BK232 BK233 HB hHeld ⊢
        refine take_ (i := 0) (N := some 54) (v := ?_) (a' := ?_) #[true, false, false, false] rfl rfl (by kernel_rfl) (fun _ _ _ h => h) (Or.inl ⟨by rfl, ?_⟩) hHeld ?_ ?_
        rotate_left
        ·
         rintro w' ⟨s0, s1, s2, s3, s4, s5⟩
         go_simp
         with_reducible rfl
        rotate_left
        ·
         simp only [Act.put, lA, lB, lC, i64_w, i32_w]
         rfl
        refine take_ (i := 1) (N := some 55) (v := ?_) (a' := ?_) #[true, true, false, false] rfl rfl (by kernel_rfl) (fun _ _ _ h => h) (Or.inl ⟨by rfl, ?_⟩) hHeld ?_ ?_
        rotate_left
        ·
         rintro w' ⟨s0, s1, s2, s3, s4, s5⟩
         go_simp
         with_reducible rfl
        rotate_left
        ·
         simp only [Act.put, lA, lB, lC, i64_w, i32_w]
         rfl
        refine one_ (i := 2) (N := none) #[true, true, true, false] rfl rfl (by kernel_rfl) (by decide) (fun K hK => ?_)
        have hs93 : w92.cell? ⟨gb232, 0, none⟩ = some (.bool false) := cz0 BK232
        have hfs93 := fz BK232 0
        have hns93_0 := NB230_232.out
        have hns93_1 := NB231_232.out
        have hns93_3 := NB233_232.out
        have hms93_0 := NB232_230.out
        have hms93_1 := NB232_231.out
        have hms93_3 := NB232_233.out
        have hs94 : w92.cell? ⟨gb232, 1, none⟩ = some (.int .i64 0) := cz1 BK232
        have hfs94 := fz BK232 1
        have hns94_0 := NB230_232.out
        have hns94_1 := NB231_232.out
        have hns94_3 := NB233_232.out
        have hms94_0 := NB232_230.out
        have hms94_1 := NB232_231.out
        have hms94_3 := NB232_233.out
        have hs95 : w92.cell? ⟨gb232, 2, none⟩ = some (.int .i64 0) := cz2 BK232
        have hfs95 := fz BK232 2
        have hns95_0 := NB230_232.out
        have hns95_1 := NB231_232.out
        have hns95_3 := NB233_232.out
        have hms95_0 := NB232_230.out
        have hms95_1 := NB232_231.out
        have hms95_3 := NB232_233.out
        refine skip_ (w1 := ?_) (by rfl) rfl ?_ ?_
        rotate_left
        ·
         go_simp
         rfl
        refine hK.out _ _ ⟨((cell_far (p := ⟨gb232, _, none⟩) NB230_232.out _).trans (((cell_far (p := ⟨gb232, _, none⟩) NB230_232.out _).trans (((cell_far (p := ⟨gb232, _, none⟩) NB230_232.out _).trans (hHeld.1)))))), ((cell_far (p := ⟨gb232, _, none⟩) NB230_232.out _).trans (((cell_far (p := ⟨gb232, _, none⟩) NB230_232.out _).trans (((cell_far (p := ⟨gb232, _, none⟩) NB230_232.out _).trans (hHeld.2.1)))))), ((cell_far (p := ⟨gb232, _, none⟩) NB230_232.out _).trans (((cell_far (p := ⟨gb232, _, none⟩) NB230_232.out _).trans (((cell_far (p := ⟨gb232, _, none⟩) NB230_232.out _).trans (hHeld.2.2.1)))))), ((cell_far (p := ⟨gb232, _, none⟩) NB231_232.out _).trans (((cell_far (p := ⟨gb232, _, none⟩) NB231_232.out _).trans (((cell_far (p := ⟨gb232, _, none⟩) NB231_232.out _).trans (hHeld.2.2.2.1)))))), ((cell_far (p := ⟨gb232, _, none⟩) NB231_232.out _).trans (((cell_far (p := ⟨gb232, _, none⟩) NB231_232.out _).trans (((cell_far (p := ⟨gb232, _, none⟩) NB231_232.out _).trans (hHeld.2.2.2.2.1)))))), ((cell_far (p := ⟨gb232, _, none⟩) NB231_232.out _).trans (((cell_far (p := ⟨gb232, _, none⟩) NB231_232.out _).trans (((cell_far (p := ⟨gb232, _, none⟩) NB231_232.out _).trans (hHeld.2.2.2.2.2))))))⟩ (fun hHeld => ?_)
        clear hK K
        refine one_ (i := 3) (N := none) #[true, true, true, true] rfl rfl (by kernel_rfl) (by decide) (fun K hK => ?_)
        have hs96 : w92.cell? ⟨gb233, 0, none⟩ = some (.bool false) := cz0 BK233
        have hfs96 := fz BK233 0
        have hns96_0 := NB230_233.out
        have hns96_1 := NB231_233.out
        have hns96_2 := NB232_233.out
        have hms96_0 := NB233_230.out
        have hms96_1 := NB233_231.out
        have hms96_2 := NB233_232.out
        have hs97 : w92.cell? ⟨gb233, 1, none⟩ = some (.int .i64 0) := cz1 BK233
        have hfs97 := fz BK233 1
        have hns97_0 := NB230_233.out
        have hns97_1 := NB231_233.out
        have hns97_2 := NB232_233.out
        have hms97_0 := NB233_230.out
        have hms97_1 := NB233_231.out
        have hms97_2 := NB233_232.out
        have hs98 : w92.cell? ⟨gb233, 2, none⟩ = some (.int .i64 0) := cz2 BK233
        have hfs98 := fz BK233 2
        have hns98_0 := NB230_233.out
        have hns98_1 := NB231_233.out
        have hns98_2 := NB232_233.out
        have hms98_0 := NB233_230.out
        have hms98_1 := NB233_231.out
        have hms98_2 := NB233_232.out
        refine skip_ (w1 := ?_) (by rfl) rfl ?_ ?_
        rotate_left
        ·
         go_simp
         rfl
        refine hK.out _ _ ⟨((cell_far (p := ⟨gb233, _, none⟩) NB230_233.out _).trans (((cell_far (p := ⟨gb233, _, none⟩) NB230_233.out _).trans (((cell_far (p := ⟨gb233, _, none⟩) NB230_233.out _).trans (hHeld.1)))))), ((cell_far (p := ⟨gb233, _, none⟩) NB230_233.out _).trans (((cell_far (p := ⟨gb233, _, none⟩) NB230_233.out _).trans (((cell_far (p := ⟨gb233, _, none⟩) NB230_233.out _).trans (hHeld.2.1)))))), ((cell_far (p := ⟨gb233, _, none⟩) NB230_233.out _).trans (((cell_far (p := ⟨gb233, _, none⟩) NB230_233.out _).trans (((cell_far (p := ⟨gb233, _, none⟩) NB230_233.out _).trans (hHeld.2.2.1)))))), ((cell_far (p := ⟨gb233, _, none⟩) NB231_233.out _).trans (((cell_far (p := ⟨gb233, _, none⟩) NB231_233.out _).trans (((cell_far (p := ⟨gb233, _, none⟩) NB231_233.out _).trans (hHeld.2.2.2.1)))))), ((cell_far (p := ⟨gb233, _, none⟩) NB231_233.out _).trans (((cell_far (p := ⟨gb233, _, none⟩) NB231_233.out _).trans (((cell_far (p := ⟨gb233, _, none⟩) NB231_233.out _).trans (hHeld.2.2.2.2.1)))))), ((cell_far (p := ⟨gb233, _, none⟩) NB231_233.out _).trans (((cell_far (p := ⟨gb233, _, none⟩) NB231_233.out _).trans (((cell_far (p := ⟨gb233, _, none⟩) NB231_233.out _).trans (hHeld.2.2.2.2.2))))))⟩ (fun hHeld => ?_)
        clear hK K
        refine done_ (by kernel_rfl) ?_
        try go_wp2
        refine bodyPost_ret (results_cc rfl _ _ gb232 gb233 23 23 #[.bool a1_0, .int .i64 a1_1, .int .i64 a1_2] #[.bool a2_0, .int .i64 a2_1, .int .i64 a2_2] (0, 0) (0, 0) _ _ rfl (by (with_reducible repeat (first | refine b1 ?_ _ | refine b2 ?_ | refine b3 ?_ _)); refine blk_far ?_ NB232_233.out _; (with_reducible repeat (first | refine b1 ?_ _ | refine b2 ?_ | refine b3 ?_ _)); refine blk_far ?_ NB232_233.out _; (with_reducible repeat (first | refine b1 ?_ _ | refine b2 ?_ | refine b3 ?_ _)); refine blk_far ?_ NB232_233.out _; (with_reducible repeat (first | refine b1 ?_ _ | refine b2 ?_ | refine b3 ?_ _)); refine blk_put (cs := #[.bool a1_0, .int .i64 a1_1, .int .i64 0]) ?_ 2 _ rfl; (with_reducible repeat (first | refine b1 ?_ _ | refine b2 ?_ | refine b3 ?_ _)); refine blk_put (cs := #[.bool a1_0, .int .i64 0, .int .i64 0]) ?_ 1 _ rfl; (with_reducible repeat (first | refine b1 ?_ _ | refine b2 ?_ | refine b3 ?_ _)); refine blk_put (cs := #[.bool false, .int .i64 0, .int .i64 0]) ?_ 0 _ rfl; (with_reducible repeat (first | refine b1 ?_ _ | refine b2 ?_ | refine b3 ?_ _)); exact BK232.out) Tryd.underlying23 rfl (by kernel_rfl) rfl (by (with_reducible repeat (first | refine b1 ?_ _ | refine b2 ?_ | refine b3 ?_ _)); refine blk_put (cs := #[.bool a2_0, .int .i64 a2_1, .int .i64 0]) ?_ 2 _ rfl; (with_reducible repeat (first | refine b1 ?_ _ | refine b2 ?_ | refine b3 ?_ _)); refine blk_put (cs := #[.bool a2_0, .int .i64 0, .int .i64 0]) ?_ 1 _ rfl; (with_reducible repeat (first | refine b1 ?_ _ | refine b2 ?_ | refine b3 ?_ _)); refine blk_put (cs := #[.bool false, .int .i64 0, .int .i64 0]) ?_ 0 _ rfl; (with_reducible repeat (first | refine b1 ?_ _ | refine b2 ?_ | refine b3 ?_ _)); refine blk_far ?_ NB233_232.out _; (with_reducible repeat (first | refine b1 ?_ _ | refine b2 ?_ | refine b3 ?_ _)); refine blk_far ?_ NB233_232.out _; (with_reducible repeat (first | refine b1 ?_ _ | refine b2 ?_ | refine b3 ?_ _)); refine blk_far ?_ NB233_232.out _; (with_reducible repeat (first | refine b1 ?_ _ | refine b2 ?_ | refine b3 ?_ _)); exact BK233.out) Tryd.underlying23 rfl (by kernel_rfl)) rfl ?_
        exact ⟨eS, bS HB⟩

def gimbalref31_holds.f (a0 : Int) (a1 : Int) (a2 : Int) : Option (Bool) := if a0 = 14 then (some (a1 == a2)) else (if a0 = 15 then (some (a1 != a2)) else (if a0 = 16 then (some (decide (a1 < a2))) else (if a0 = 17 then (some (decide (a1 ≤ a2))) else (if a0 = 18 then (some (decide (a1 > a2))) else (some (decide (a1 ≥ a2)))))))
set_option maxHeartbeats 8000000 in
set_option maxRecDepth 100000 in
theorem gimbalref31_holds.calls (a0 : Int) (a1 : Int) (a2 : Int) (r : Bool) (w : World) (h : gimbalref31_holds.f a0 a1 a2 = some r) :
  Calls Tryd.prog 68 #[.int .i64 a0, .int .i64 a1, .int .i64 a2] w fun e w' => e = .returned (.bool r) ∧ Drawn0 w w' := by
 have H : (if a0 = 14 then (some (a1 == a2)) else (if a0 = 15 then (some (a1 != a2)) else (if a0 = 16 then (some (decide (a1 < a2))) else (if a0 = 17 then (some (decide (a1 ≤ a2))) else (if a0 = 18 then (some (decide (a1 > a2))) else (some (decide (a1 ≥ a2)))))))) = some r := h
 clear h
 by_cases c4 : a0 = 14
 ·
  rw [if_pos c4] at H
  have c4b0 : (a0 == 14) = true := beq_iff_eq.mpr c4
  have c4b1 : (a0 != 14) = false := bne_eq_false_iff_eq.mpr c4
  clear c4
  obtain rfl := Option.some.inj H
  go_enter Tryd.func68, Tryd.ntmps68
  go_wp2
  go_ret
  exact ⟨by first | rfl | (simp; done) | (simp [*]; done), by repeat (first | exact Drawn0.refl _ | apply Drawn0.step)⟩
 ·
  rw [if_neg c4] at H
  have c4b0 : (a0 == 14) = false := beq_eq_false_iff_ne.mpr c4
  have c4b1 : (a0 != 14) = true := bne_iff_ne.mpr c4
  by_cases c5 : a0 = 15
  ·
   rw [if_pos c5] at H
   have c5b0 : (a0 == 15) = true := beq_iff_eq.mpr c5
   have c5b1 : (a0 != 15) = false := bne_eq_false_iff_eq.mpr c5
   clear c5
   obtain rfl := Option.some.inj H
   go_enter Tryd.func68, Tryd.ntmps68
   go_wp2
   go_ret
   exact ⟨by first | rfl | (simp; done) | (simp [*]; done), by repeat (first | exact Drawn0.refl _ | apply Drawn0.step)⟩
  ·
   rw [if_neg c5] at H
   have c5b0 : (a0 == 15) = false := beq_eq_false_iff_ne.mpr c5
   have c5b1 : (a0 != 15) = true := bne_iff_ne.mpr c5
   by_cases c6 : a0 = 16
   ·
    rw [if_pos c6] at H
    have c6b0 : (a0 == 16) = true := beq_iff_eq.mpr c6
    have c6b1 : (a0 != 16) = false := bne_eq_false_iff_eq.mpr c6
    clear c6
    obtain rfl := Option.some.inj H
    go_enter Tryd.func68, Tryd.ntmps68
    go_wp2
    go_ret
    exact ⟨by first | rfl | (simp; done) | (simp [*]; done), by repeat (first | exact Drawn0.refl _ | apply Drawn0.step)⟩
   ·
    rw [if_neg c6] at H
    have c6b0 : (a0 == 16) = false := beq_eq_false_iff_ne.mpr c6
    have c6b1 : (a0 != 16) = true := bne_iff_ne.mpr c6
    by_cases c7 : a0 = 17
    ·
     rw [if_pos c7] at H
     have c7b0 : (a0 == 17) = true := beq_iff_eq.mpr c7
     have c7b1 : (a0 != 17) = false := bne_eq_false_iff_eq.mpr c7
     clear c7
     obtain rfl := Option.some.inj H
     go_enter Tryd.func68, Tryd.ntmps68
     go_wp2
     go_ret
     exact ⟨by first | rfl | (simp; done) | (simp [*]; done), by repeat (first | exact Drawn0.refl _ | apply Drawn0.step)⟩
    ·
     rw [if_neg c7] at H
     have c7b0 : (a0 == 17) = false := beq_eq_false_iff_ne.mpr c7
     have c7b1 : (a0 != 17) = true := bne_iff_ne.mpr c7
     by_cases c8 : a0 = 18
     ·
      rw [if_pos c8] at H
      have c8b0 : (a0 == 18) = true := beq_iff_eq.mpr c8
      have c8b1 : (a0 != 18) = false := bne_eq_false_iff_eq.mpr c8
      clear c8
      obtain rfl := Option.some.inj H
      go_enter Tryd.func68, Tryd.ntmps68
      go_wp2
      go_ret
      exact ⟨by first | rfl | (simp; done) | (simp [*]; done), by repeat (first | exact Drawn0.refl _ | apply Drawn0.step)⟩
     ·
      rw [if_neg c8] at H
      have c8b0 : (a0 == 18) = false := beq_eq_false_iff_ne.mpr c8
      have c8b1 : (a0 != 18) = true := bne_iff_ne.mpr c8
      obtain rfl := Option.some.inj H
      go_enter Tryd.func68, Tryd.ntmps68
      go_wp2
      go_ret
      exact ⟨by first | rfl | (simp; done) | (simp [*]; done), by repeat (first | exact Drawn0.refl _ | apply Drawn0.step)⟩

mutual
def gimbalref31_Test.j0 : Nat → Int → Bool → Bool → Int → Int → Bool → Int → Int → Option (Bool × Int × Int × Bool × Int × Int)
 | 0, _, _, _, _, _, _, _, _ => none
 | k + 1, x0, x14, x275000, x275001, x275002, x276000, x276001, x276002 => if x14 = true then (some (x275000, x275001, x275002, x276000, x276001, x276002)) else (if x275000 = true then (gimbalref31_Test.j1 k x0 true x275000 x275001 x275002 x276000 x276001 x276002) else (if x276000 = true then (gimbalref31_Test.j1 k x0 true x275000 x275001 x275002 x276000 x276001 x276002) else (if x275001 = 0 then (if x276001 = 0 then ((gimbalref31_holds.f x0 x275002 x276002).bind fun t278 => (gimbalref31_Test.j1 k x0 (!t278) x275000 x275001 x275002 x276000 x276001 x276002)) else (gimbalref31_Test.j1 k x0 false x275000 x275001 x275002 x276000 x276001 x276002)) else (gimbalref31_Test.j1 k x0 false x275000 x275001 x275002 x276000 x276001 x276002))))
def gimbalref31_Test.j1 : Nat → Int → Bool → Bool → Int → Int → Bool → Int → Int → Option (Bool × Int × Int × Bool × Int × Int)
 | 0, _, _, _, _, _, _, _, _ => none
 | k + 1, x0, x41, x275000, x275001, x275002, x276000, x276001, x276002 => if x41 = true then ((gimbalref31_None.f).bind fun bt279 => ((gimbalref31_None.f).bind fun bt282 => (some (bt279.1, bt279.2.1, bt279.2.2, bt282.1, bt282.2.1, bt282.2.2)))) else (if x0 = 14 then ((gimbalref31_Meet.f k x275000 x275001 x275002 x276000 x276001 x276002).bind fun bt285 => (some (bt285.1, bt285.2.1, bt285.2.2, bt285.1, bt285.2.1, bt285.2.2))) else (some (x275000, x275001, x275002, x276000, x276001, x276002)))
end
def gimbalref31_Test.f (k : Nat) (a0 : Int) (a1_0 : Bool) (a1_1 : Int) (a1_2 : Int) (a2_0 : Bool) (a2_1 : Int) (a2_2 : Int) : Option (Bool × Int × Int × Bool × Int × Int) := if a0 < 14 then (gimbalref31_Test.j0 k a0 true a1_0 a1_1 a1_2 a2_0 a2_1 a2_2) else (gimbalref31_Test.j0 k a0 (decide (a0 > 19)) a1_0 a1_1 a1_2 a2_0 a2_1 a2_2)
set_option maxHeartbeats 8000000 in
set_option maxRecDepth 100000 in
theorem gimbalref31_Test.calls (k : Nat) (a0 : Int) (a1_0 : Bool) (a1_1 : Int) (a1_2 : Int) (a2_0 : Bool) (a2_1 : Int) (a2_2 : Int) (r1 : Bool) (r2 : Int) (r3 : Int) (r4 : Bool) (r5 : Int) (r6 : Int) (w : World) (h : gimbalref31_Test.f k a0 a1_0 a1_1 a1_2 a2_0 a2_1 a2_2 = some (r1, r2, r3, r4, r5, r6)) :
  Calls Tryd.prog 25 #[.int .i64 a0, .agg #[.bool a1_0, .int .i64 a1_1, .int .i64 a1_2], .agg #[.bool a2_0, .int .i64 a2_1, .int .i64 a2_2]] w fun e w' => e = .returned (.tuple #[.agg #[.bool r1, .int .i64 r2, .int .i64 r3], .agg #[.bool r4, .int .i64 r5, .int .i64 r6]]) ∧ Below w.heap.size w w' := by
 have hu23 := Tryd.underlying23
 have HB := Aside0.mk (Below.refl w.heap.size w)
 have H : (if a0 < 14 then (gimbalref31_Test.j0 k a0 true a1_0 a1_1 a1_2 a2_0 a2_1 a2_2) else (gimbalref31_Test.j0 k a0 (decide (a0 > 19)) a1_0 a1_1 a1_2 a2_0 a2_1 a2_2)) = some (r1, r2, r3, r4, r5, r6) := h
 clear h
 have HC4 := Aside0.mk H
 clear H
 go_enter Tryd.func25, Tryd.ntmps25
 go_upto_region 1 with (first | ((with_reducible refine gate_dst (N := 4) rfl ?_); refine box_event ?hg (N := 4) ?hd (cs := #[.bool a1_0, .int .i64 a1_1, .int .i64 a1_2]) (t := 23) ?hr ?_; (case hd => rfl); (case hg => rfl); (case hr => first | (go_simp; done) | (go_simp; rfl)); intro gb274 hg w5 hbox hb; have n0_ := kW HB hb; have n1_ := Aside0.mk (hbox); have n2_ := Aside0.mk ((by rw [hg]; exact (below_size (bS HB)) : w.heap.size ≤ gb274)); have n3_ := Aside0.mk ((by rw [hg]; exact (below_size (bS HB)) : w.heap.size ≤ gb274)); clear HB; have HB := n0_; have BK274 := n1_; have GW274 := n2_; have GE274 := n3_; clear n0_ n1_ n2_ n3_; clear hb hbox hg) | ((with_reducible refine gate_dst (N := 5) rfl ?_); refine box_event ?hg (N := 5) ?hd (cs := #[.bool a2_0, .int .i64 a2_1, .int .i64 a2_2]) (t := 23) ?hr ?_; (case hd => rfl); (case hg => rfl); (case hr => first | (go_simp; done) | (go_simp; rfl)); intro gb275 hg w6 hbox hb; have n0_ := kB BK274 hb; have n1_ := kW HB hb; have n2_ := Aside0.mk (hbox); have n3_ := Aside0.mk ((by rw [hg]; exact (below_size (bS HB)) : w.heap.size ≤ gb275)); have n4_ := Aside0.mk ((by rw [hg]; exact (below_size (bS HB)) : w.heap.size ≤ gb275)); have n5_ := Aside0.mk ((by rw [hg]; exact Nat.ne_of_lt (blk_lt (bkS BK274)) : gb274 ≠ gb275)); have n6_ := Aside0.mk ((by rw [hg]; exact Nat.ne_of_gt (blk_lt (bkS BK274)) : gb275 ≠ gb274)); clear BK274; clear HB; have BK274 := n0_; have HB := n1_; have BK275 := n2_; have GW275 := n3_; have GE275 := n4_; have NB274_275 := n5_; have NB275_274 := n6_; clear n0_ n1_ n2_ n3_ n4_ n5_ n6_; clear hb hbox hg) | ((with_reducible refine gate_dst (N := 6) rfl ?_); refine box_event ?hg (N := 6) ?hd (cs := #[.bool false, .int .i64 0, .int .i64 0]) (t := 23) ?hr ?_; (case hd => rfl); (case hg => rfl); (case hr => first | (go_simp; done) | (go_simp; rfl)); intro gb276 hg w7 hbox hb; have n0_ := kB BK274 hb; have n1_ := kB BK275 hb; have n2_ := kW HB hb; have n3_ := Aside0.mk (hbox); have n4_ := Aside0.mk ((by rw [hg]; exact (below_size (bS HB)) : w.heap.size ≤ gb276)); have n5_ := Aside0.mk ((by rw [hg]; exact (below_size (bS HB)) : w.heap.size ≤ gb276)); have n6_ := Aside0.mk ((by rw [hg]; exact Nat.ne_of_lt (blk_lt (bkS BK274)) : gb274 ≠ gb276)); have n7_ := Aside0.mk ((by rw [hg]; exact Nat.ne_of_gt (blk_lt (bkS BK274)) : gb276 ≠ gb274)); have n8_ := Aside0.mk ((by rw [hg]; exact Nat.ne_of_lt (blk_lt (bkS BK275)) : gb275 ≠ gb276)); have n9_ := Aside0.mk ((by rw [hg]; exact Nat.ne_of_gt (blk_lt (bkS BK275)) : gb276 ≠ gb275)); clear BK274; clear BK275; clear HB; have BK274 := n0_; have BK275 := n1_; have HB := n2_; have BK276 := n3_; have GW276 := n4_; have GE276 := n5_; have NB274_276 := n6_; have NB276_274 := n7_; have NB275_276 := n8_; have NB276_275 := n9_; clear n0_ n1_ n2_ n3_ n4_ n5_ n6_ n7_ n8_ n9_; clear hb hbox hg) | ((with_reducible refine gate_dst (N := 7) rfl ?_); refine box_event ?hg (N := 7) ?hd (cs := #[.bool false, .int .i64 0, .int .i64 0]) (t := 23) ?hr ?_; (case hd => rfl); (case hg => rfl); (case hr => first | (go_simp; done) | (go_simp; rfl)); intro gb277 hg w8 hbox hb; have n0_ := kB BK274 hb; have n1_ := kB BK275 hb; have n2_ := kB BK276 hb; have n3_ := kW HB hb; have n4_ := Aside0.mk (hbox); have n5_ := Aside0.mk ((by rw [hg]; exact (below_size (bS HB)) : w.heap.size ≤ gb277)); have n6_ := Aside0.mk ((by rw [hg]; exact (below_size (bS HB)) : w.heap.size ≤ gb277)); have n7_ := Aside0.mk ((by rw [hg]; exact Nat.ne_of_lt (blk_lt (bkS BK274)) : gb274 ≠ gb277)); have n8_ := Aside0.mk ((by rw [hg]; exact Nat.ne_of_gt (blk_lt (bkS BK274)) : gb277 ≠ gb274)); have n9_ := Aside0.mk ((by rw [hg]; exact Nat.ne_of_lt (blk_lt (bkS BK275)) : gb275 ≠ gb277)); have n10_ := Aside0.mk ((by rw [hg]; exact Nat.ne_of_gt (blk_lt (bkS BK275)) : gb277 ≠ gb275)); have n11_ := Aside0.mk ((by rw [hg]; exact Nat.ne_of_lt (blk_lt (bkS BK276)) : gb276 ≠ gb277)); have n12_ := Aside0.mk ((by rw [hg]; exact Nat.ne_of_gt (blk_lt (bkS BK276)) : gb277 ≠ gb276)); clear BK274; clear BK275; clear BK276; clear HB; have BK274 := n0_; have BK275 := n1_; have BK276 := n2_; have HB := n3_; have BK277 := n4_; have GW277 := n5_; have GE277 := n6_; have NB274_277 := n7_; have NB277_274 := n8_; have NB275_277 := n9_; have NB277_275 := n10_; have NB276_277 := n11_; have NB277_276 := n12_; clear n0_ n1_ n2_ n3_ n4_ n5_ n6_ n7_ n8_ n9_ n10_ n11_ n12_; clear hb hbox hg))
 (try simp only [Act.put, lA, lB, lC])
 go_cut [14] (fun v14 wc => ∃ (kq : Nat) (x14_3 : Bool), v14 = .bool x14_3 ∧ Aside0 (gimbalref31_Test.j0 kq a0 x14_3 a1_0 a1_1 a1_2 a2_0 a2_1 a2_2 = some (r1, r2, r3, r4, r5, r6)) ∧ Aside0 (kq ≤ k) ∧ Aside0 (wc.heap[gb274]? = some (.cells #[.bool a1_0, .int .i64 a1_1, .int .i64 a1_2] 23 (0, 0))) ∧ Aside0 (wc.heap[gb275]? = some (.cells #[.bool a2_0, .int .i64 a2_1, .int .i64 a2_2] 23 (0, 0))) ∧ Aside0 (wc.heap[gb276]? = some (.cells #[.bool false, .int .i64 0, .int .i64 0] 23 (0, 0))) ∧ Aside0 (wc.heap[gb277]? = some (.cells #[.bool false, .int .i64 0, .int .i64 0] 23 (0, 0))) ∧ Aside0 (Below w.heap.size w wc))
 case first =>
  have H := HC4.out
  clear HC4
  by_cases c9 : a0 < 14
  ·
   rw [if_pos c9] at H
   have c9b0 : decide (a0 < 14) = true := decide_eq_true c9
   clear c9
   (first | rw [c9b0] | (simp only [i64_w, i32_w]; rw [c9b0]) | skip)
   have H' := Aside0.mk H
   clear H
   go_wp2
   go_meet
   case rel => exact ⟨_, (true), (by first | rfl | (simp; done) | (simp [*]; done)), H', ⟨by first | omega | exact Nat.le_refl _⟩, ⟨bkS BK274⟩, ⟨bkS BK275⟩, ⟨bkS BK276⟩, ⟨bkS BK277⟩, ⟨bS HB⟩⟩
  ·
   rw [if_neg c9] at H
   have c9b0 : decide (a0 < 14) = false := decide_eq_false c9
   clear c9
   (first | rw [c9b0] | (simp only [i64_w, i32_w]; rw [c9b0]) | skip)
   have H' := Aside0.mk H
   clear H
   go_wp2
   go_meet
   case rel => exact ⟨_, (decide (a0 > 19)), (by first | rfl | (simp; done) | (simp [*]; done)), H', ⟨by first | omega | exact Nat.le_refl _⟩, ⟨bkS BK274⟩, ⟨bkS BK275⟩, ⟨bkS BK276⟩, ⟨bkS BK277⟩, ⟨bS HB⟩⟩
 case rest =>
  clear HC4
  try clear c2
  try clear p2
  try clear c9
  try clear c9b0
  obtain ⟨kq, x14_3, rfl, HA, HJ3, BK274, BK275, BK276, BK277, HB⟩ := hcut
  cases kq with
  | zero => exact absurd HA.out (by simp [gimbalref31_Test.j0])
  | succ kj3 =>
   have H := HA.out
   clear HA
   simp only [gimbalref31_Test.j0] at H
   by_cases c10 : x14_3 = true
   ·
    subst c10
    have H1 : (some (a1_0, a1_1, a1_2, a2_0, a2_1, a2_2)) = some (r1, r2, r3, r4, r5, r6) := by rw [if_pos rfl] at H; exact H
    clear H
    have H := H1
    clear H1
    simp only [Option.some.injEq, Prod.mk.injEq] at H
    obtain ⟨rfl, rfl, rfl, rfl, rfl, rfl⟩ := H
    try go_wp2
    replace BK274 := Aside0.mk (blk_drew BK274.out)
    replace BK275 := Aside0.mk (blk_drew BK275.out)
    replace BK276 := Aside0.mk (blk_drew BK276.out)
    replace BK277 := Aside0.mk (blk_drew BK277.out)
    replace HB := Aside0.mk (below_drew1 HB.out)
    refine start_ (n := 4) (S := fun w' => w'.cell? ⟨gb274, 0, none⟩ = some (.bool a1_0) ∧ w'.cell? ⟨gb274, 1, none⟩ = some (.int .i64 a1_1) ∧ w'.cell? ⟨gb274, 2, none⟩ = some (.int .i64 a1_2) ∧ w'.cell? ⟨gb275, 0, none⟩ = some (.bool a2_0) ∧ w'.cell? ⟨gb275, 1, none⟩ = some (.int .i64 a2_1) ∧ w'.cell? ⟨gb275, 2, none⟩ = some (.int .i64 a2_2)) (ds := []) #[false, false, false, false] (by kernel_rfl) rfl rfl ⟨cz0 BK274, cz1 BK274, cz2 BK274, cz0 BK275, cz1 BK275, cz2 BK275⟩ (fun hHeld => ?_)
    generalize wc.drew = w11 at BK274 BK275 BK276 BK277 HB hHeld ⊢
    refine take_ (i := 0) (N := some 15) (v := ?_) (a' := ?_) #[true, false, false, false] rfl rfl (by kernel_rfl) (fun _ _ _ h => h) (Or.inl ⟨by rfl, ?_⟩) hHeld ?_ ?_
    rotate_left
    ·
     rintro w' ⟨s0, s1, s2, s3, s4, s5⟩
     go_simp
     with_reducible rfl
    rotate_left
    ·
     simp only [Act.put, lA, lB, lC, i64_w, i32_w]
     rfl
    refine take_ (i := 1) (N := some 16) (v := ?_) (a' := ?_) #[true, true, false, false] rfl rfl (by kernel_rfl) (fun _ _ _ h => h) (Or.inl ⟨by rfl, ?_⟩) hHeld ?_ ?_
    rotate_left
    ·
     rintro w' ⟨s0, s1, s2, s3, s4, s5⟩
     go_simp
     with_reducible rfl
    rotate_left
    ·
     simp only [Act.put, lA, lB, lC, i64_w, i32_w]
     rfl
    refine one_ (i := 2) (N := none) #[true, true, true, false] rfl rfl (by kernel_rfl) (by decide) (fun K hK => ?_)
    have hs12 : w11.cell? ⟨gb276, 0, none⟩ = some (.bool false) := cz0 BK276
    have hfs12 := fz BK276 0
    have hns12_0 := NB274_276.out
    have hns12_1 := NB275_276.out
    have hns12_3 := NB277_276.out
    have hms12_0 := NB276_274.out
    have hms12_1 := NB276_275.out
    have hms12_3 := NB276_277.out
    have hs13 : w11.cell? ⟨gb276, 1, none⟩ = some (.int .i64 0) := cz1 BK276
    have hfs13 := fz BK276 1
    have hns13_0 := NB274_276.out
    have hns13_1 := NB275_276.out
    have hns13_3 := NB277_276.out
    have hms13_0 := NB276_274.out
    have hms13_1 := NB276_275.out
    have hms13_3 := NB276_277.out
    have hs14 : w11.cell? ⟨gb276, 2, none⟩ = some (.int .i64 0) := cz2 BK276
    have hfs14 := fz BK276 2
    have hns14_0 := NB274_276.out
    have hns14_1 := NB275_276.out
    have hns14_3 := NB277_276.out
    have hms14_0 := NB276_274.out
    have hms14_1 := NB276_275.out
    have hms14_3 := NB276_277.out
    refine skip_ (w1 := ?_) (by rfl) rfl ?_ ?_
    rotate_left
    ·
     go_simp
     rfl
    refine hK.out _ _ ⟨((cell_far (p := ⟨gb276, _, none⟩) NB274_276.out _).trans (((cell_far (p := ⟨gb276, _, none⟩) NB274_276.out _).trans (((cell_far (p := ⟨gb276, _, none⟩) NB274_276.out _).trans (hHeld.1)))))), ((cell_far (p := ⟨gb276, _, none⟩) NB274_276.out _).trans (((cell_far (p := ⟨gb276, _, none⟩) NB274_276.out _).trans (((cell_far (p := ⟨gb276, _, none⟩) NB274_276.out _).trans (hHeld.2.1)))))), ((cell_far (p := ⟨gb276, _, none⟩) NB274_276.out _).trans (((cell_far (p := ⟨gb276, _, none⟩) NB274_276.out _).trans (((cell_far (p := ⟨gb276, _, none⟩) NB274_276.out _).trans (hHeld.2.2.1)))))), ((cell_far (p := ⟨gb276, _, none⟩) NB275_276.out _).trans (((cell_far (p := ⟨gb276, _, none⟩) NB275_276.out _).trans (((cell_far (p := ⟨gb276, _, none⟩) NB275_276.out _).trans (hHeld.2.2.2.1)))))), ((cell_far (p := ⟨gb276, _, none⟩) NB275_276.out _).trans (((cell_far (p := ⟨gb276, _, none⟩) NB275_276.out _).trans (((cell_far (p := ⟨gb276, _, none⟩) NB275_276.out _).trans (hHeld.2.2.2.2.1)))))), ((cell_far (p := ⟨gb276, _, none⟩) NB275_276.out _).trans (((cell_far (p := ⟨gb276, _, none⟩) NB275_276.out _).trans (((cell_far (p := ⟨gb276, _, none⟩) NB275_276.out _).trans (hHeld.2.2.2.2.2))))))⟩ (fun hHeld => ?_)
    clear hK K
    refine one_ (i := 3) (N := none) #[true, true, true, true] rfl rfl (by kernel_rfl) (by decide) (fun K hK => ?_)
    have hs15 : w11.cell? ⟨gb277, 0, none⟩ = some (.bool false) := cz0 BK277
    have hfs15 := fz BK277 0
    have hns15_0 := NB274_277.out
    have hns15_1 := NB275_277.out
    have hns15_2 := NB276_277.out
    have hms15_0 := NB277_274.out
    have hms15_1 := NB277_275.out
    have hms15_2 := NB277_276.out
    have hs16 : w11.cell? ⟨gb277, 1, none⟩ = some (.int .i64 0) := cz1 BK277
    have hfs16 := fz BK277 1
    have hns16_0 := NB274_277.out
    have hns16_1 := NB275_277.out
    have hns16_2 := NB276_277.out
    have hms16_0 := NB277_274.out
    have hms16_1 := NB277_275.out
    have hms16_2 := NB277_276.out
    have hs17 : w11.cell? ⟨gb277, 2, none⟩ = some (.int .i64 0) := cz2 BK277
    have hfs17 := fz BK277 2
    have hns17_0 := NB274_277.out
    have hns17_1 := NB275_277.out
    have hns17_2 := NB276_277.out
    have hms17_0 := NB277_274.out
    have hms17_1 := NB277_275.out
    have hms17_2 := NB277_276.out
    refine skip_ (w1 := ?_) (by rfl) rfl ?_ ?_
    rotate_left
    ·
     go_simp
     rfl
    refine hK.out _ _ ⟨((cell_far (p := ⟨gb277, _, none⟩) NB274_277.out _).trans (((cell_far (p := ⟨gb277, _, none⟩) NB274_277.out _).trans (((cell_far (p := ⟨gb277, _, none⟩) NB274_277.out _).trans (hHeld.1)))))), ((cell_far (p := ⟨gb277, _, none⟩) NB274_277.out _).trans (((cell_far (p := ⟨gb277, _, none⟩) NB274_277.out _).trans (((cell_far (p := ⟨gb277, _, none⟩) NB274_277.out _).trans (hHeld.2.1)))))), ((cell_far (p := ⟨gb277, _, none⟩) NB274_277.out _).trans (((cell_far (p := ⟨gb277, _, none⟩) NB274_277.out _).trans (((cell_far (p := ⟨gb277, _, none⟩) NB274_277.out _).trans (hHeld.2.2.1)))))), ((cell_far (p := ⟨gb277, _, none⟩) NB275_277.out _).trans (((cell_far (p := ⟨gb277, _, none⟩) NB275_277.out _).trans (((cell_far (p := ⟨gb277, _, none⟩) NB275_277.out _).trans (hHeld.2.2.2.1)))))), ((cell_far (p := ⟨gb277, _, none⟩) NB275_277.out _).trans (((cell_far (p := ⟨gb277, _, none⟩) NB275_277.out _).trans (((cell_far (p := ⟨gb277, _, none⟩) NB275_277.out _).trans (hHeld.2.2.2.2.1)))))), ((cell_far (p := ⟨gb277, _, none⟩) NB275_277.out _).trans (((cell_far (p := ⟨gb277, _, none⟩) NB275_277.out _).trans (((cell_far (p := ⟨gb277, _, none⟩) NB275_277.out _).trans (hHeld.2.2.2.2.2))))))⟩ (fun hHeld => ?_)
    clear hK K
    refine done_ (by kernel_rfl) ?_
    try go_wp2
    refine bodyPost_ret (results_cc rfl _ _ gb276 gb277 23 23 #[.bool a1_0, .int .i64 a1_1, .int .i64 a1_2] #[.bool a2_0, .int .i64 a2_1, .int .i64 a2_2] (0, 0) (0, 0) _ _ rfl (by (with_reducible repeat (first | refine b1 ?_ _ | refine b2 ?_ | refine b3 ?_ _)); refine blk_far ?_ NB276_277.out _; (with_reducible repeat (first | refine b1 ?_ _ | refine b2 ?_ | refine b3 ?_ _)); refine blk_far ?_ NB276_277.out _; (with_reducible repeat (first | refine b1 ?_ _ | refine b2 ?_ | refine b3 ?_ _)); refine blk_far ?_ NB276_277.out _; (with_reducible repeat (first | refine b1 ?_ _ | refine b2 ?_ | refine b3 ?_ _)); refine blk_put (cs := #[.bool a1_0, .int .i64 a1_1, .int .i64 0]) ?_ 2 _ rfl; (with_reducible repeat (first | refine b1 ?_ _ | refine b2 ?_ | refine b3 ?_ _)); refine blk_put (cs := #[.bool a1_0, .int .i64 0, .int .i64 0]) ?_ 1 _ rfl; (with_reducible repeat (first | refine b1 ?_ _ | refine b2 ?_ | refine b3 ?_ _)); refine blk_put (cs := #[.bool false, .int .i64 0, .int .i64 0]) ?_ 0 _ rfl; (with_reducible repeat (first | refine b1 ?_ _ | refine b2 ?_ | refine b3 ?_ _)); exact BK276.out) Tryd.underlying23 rfl (by kernel_rfl) rfl (by (with_reducible repeat (first | refine b1 ?_ _ | refine b2 ?_ | refine b3 ?_ _)); refine blk_put (cs := #[.bool a2_0, .int .i64 a2_1, .int .i64 0]) ?_ 2 _ rfl; (with_reducible repeat (first | refine b1 ?_ _ | refine b2 ?_ | refine b3 ?_ _)); refine blk_put (cs := #[.bool a2_0, .int .i64 0, .int .i64 0]) ?_ 1 _ rfl; (with_reducible repeat (first | refine b1 ?_ _ | refine b2 ?_ | refine b3 ?_ _)); refine blk_put (cs := #[.bool false, .int .i64 0, .int .i64 0]) ?_ 0 _ rfl; (with_reducible repeat (first | refine b1 ?_ _ | refine b2 ?_ | refine b3 ?_ _)); refine blk_far ?_ NB277_276.out _; (with_reducible repeat (first | refine b1 ?_ _ | refine b2 ?_ | refine b3 ?_ _)); refine blk_far ?_ NB277_276.out _; (with_reducible repeat (first | refine b1 ?_ _ | refine b2 ?_ | refine b3 ?_ _)); refine blk_far ?_ NB277_276.out _; (with_reducible repeat (first | refine b1 ?_ _ | refine b2 ?_ | refine b3 ?_ _)); exact BK277.out) Tryd.underlying23 rfl (by kernel_rfl)) rfl ?_
    exact ⟨eS, bS HB⟩
   ·
    replace c10 := Bool.eq_false_iff.mpr c10
    subst c10
    have H1 : (if a1_0 = true then (gimbalref31_Test.j1 kj3 a0 true a1_0 a1_1 a1_2 a2_0 a2_1 a2_2) else (if a2_0 = true then (gimbalref31_Test.j1 kj3 a0 true a1_0 a1_1 a1_2 a2_0 a2_1 a2_2) else (if a1_1 = 0 then (if a2_1 = 0 then ((gimbalref31_holds.f a0 a1_2 a2_2).bind fun t278 => (gimbalref31_Test.j1 kj3 a0 (!t278) a1_0 a1_1 a1_2 a2_0 a2_1 a2_2)) else (gimbalref31_Test.j1 kj3 a0 false a1_0 a1_1 a1_2 a2_0 a2_1 a2_2)) else (gimbalref31_Test.j1 kj3 a0 false a1_0 a1_1 a1_2 a2_0 a2_1 a2_2)))) = some (r1, r2, r3, r4, r5, r6) := by rw [if_neg (show ¬ (false = true) by decide)] at H; exact H
    clear H
    have H := H1
    clear H1
    have HC18 := Aside0.mk H
    clear H
    go_upto_region 3 with (fail)
    go_cut [41] (fun v41 wc => ∃ (kq : Nat) (x41_17 : Bool), v41 = .bool x41_17 ∧ Aside0 (gimbalref31_Test.j1 kq a0 x41_17 a1_0 a1_1 a1_2 a2_0 a2_1 a2_2 = some (r1, r2, r3, r4, r5, r6)) ∧ Aside0 (kq ≤ kj3) ∧ Aside0 (wc.heap[gb274]? = some (.cells #[.bool a1_0, .int .i64 a1_1, .int .i64 a1_2] 23 (0, 0))) ∧ Aside0 (wc.heap[gb275]? = some (.cells #[.bool a2_0, .int .i64 a2_1, .int .i64 a2_2] 23 (0, 0))) ∧ Aside0 (wc.heap[gb276]? = some (.cells #[.bool false, .int .i64 0, .int .i64 0] 23 (0, 0))) ∧ Aside0 (wc.heap[gb277]? = some (.cells #[.bool false, .int .i64 0, .int .i64 0] 23 (0, 0))) ∧ Aside0 (Below w.heap.size w wc))
    case first =>
     have H := HC18.out
     clear HC18
     by_cases c19 : a1_0 = true
     ·
      subst c19
      have H1 : (gimbalref31_Test.j1 kj3 a0 true true a1_1 a1_2 a2_0 a2_1 a2_2) = some (r1, r2, r3, r4, r5, r6) := by rw [if_pos rfl] at H; exact H
      clear H
      have H := H1
      clear H1
      have H' := Aside0.mk H
      clear H
      have hnb20 := NB274_275.out
      have hnc20 := NB275_274.out
      have hnb21 := NB274_276.out
      have hnc21 := NB276_274.out
      have hnb22 := NB274_277.out
      have hnc22 := NB277_274.out
      have hcz23_0 : wc.cell? ⟨gb274, 0, none⟩ = some (.bool true) := cz0 BK274
      have hcz23_1 : wc.cell? ⟨gb274, 1, none⟩ = some (.int .i64 a1_1) := cz1 BK274
      have hcz23_2 : wc.cell? ⟨gb274, 2, none⟩ = some (.int .i64 a1_2) := cz2 BK274
      have hfz23_0 := fz BK274 0
      have hfz23_1 := fz BK274 1
      have hfz23_2 := fz BK274 2
      go_wp2
      go_meet
      case rel => exact ⟨_, (true), (by first | rfl | (simp; done) | (simp [*]; done)), H', ⟨by have := HJ3.out; first | omega | exact Nat.le_refl _⟩, ⟨bkS BK274⟩, ⟨bkS BK275⟩, ⟨bkS BK276⟩, ⟨bkS BK277⟩, ⟨bS HB⟩⟩
     ·
      replace c19 := Bool.eq_false_iff.mpr c19
      subst c19
      have H1 : (if a2_0 = true then (gimbalref31_Test.j1 kj3 a0 true false a1_1 a1_2 a2_0 a2_1 a2_2) else (if a1_1 = 0 then (if a2_1 = 0 then ((gimbalref31_holds.f a0 a1_2 a2_2).bind fun t278 => (gimbalref31_Test.j1 kj3 a0 (!t278) false a1_1 a1_2 a2_0 a2_1 a2_2)) else (gimbalref31_Test.j1 kj3 a0 false false a1_1 a1_2 a2_0 a2_1 a2_2)) else (gimbalref31_Test.j1 kj3 a0 false false a1_1 a1_2 a2_0 a2_1 a2_2))) = some (r1, r2, r3, r4, r5, r6) := by rw [if_neg (show ¬ (false = true) by decide)] at H; exact H
      clear H
      have H := H1
      clear H1
      by_cases c24 : a2_0 = true
      ·
       subst c24
       have H1 : (gimbalref31_Test.j1 kj3 a0 true false a1_1 a1_2 true a2_1 a2_2) = some (r1, r2, r3, r4, r5, r6) := by rw [if_pos rfl] at H; exact H
       clear H
       have H := H1
       clear H1
       have H' := Aside0.mk H
       clear H
       have hnb25 := NB274_275.out
       have hnc25 := NB275_274.out
       have hnb26 := NB274_276.out
       have hnc26 := NB276_274.out
       have hnb27 := NB274_277.out
       have hnc27 := NB277_274.out
       have hcz28_0 : wc.cell? ⟨gb274, 0, none⟩ = some (.bool false) := cz0 BK274
       have hcz28_1 : wc.cell? ⟨gb274, 1, none⟩ = some (.int .i64 a1_1) := cz1 BK274
       have hcz28_2 : wc.cell? ⟨gb274, 2, none⟩ = some (.int .i64 a1_2) := cz2 BK274
       have hfz28_0 := fz BK274 0
       have hfz28_1 := fz BK274 1
       have hfz28_2 := fz BK274 2
       have hnb29 := NB275_276.out
       have hnc29 := NB276_275.out
       have hnb30 := NB275_277.out
       have hnc30 := NB277_275.out
       have hcz31_0 : wc.cell? ⟨gb275, 0, none⟩ = some (.bool true) := cz0 BK275
       have hcz31_1 : wc.cell? ⟨gb275, 1, none⟩ = some (.int .i64 a2_1) := cz1 BK275
       have hcz31_2 : wc.cell? ⟨gb275, 2, none⟩ = some (.int .i64 a2_2) := cz2 BK275
       have hfz31_0 := fz BK275 0
       have hfz31_1 := fz BK275 1
       have hfz31_2 := fz BK275 2
       go_wp2
       go_meet
       case rel => exact ⟨_, (true), (by first | rfl | (simp; done) | (simp [*]; done)), H', ⟨by have := HJ3.out; first | omega | exact Nat.le_refl _⟩, ⟨bkS BK274⟩, ⟨bkS BK275⟩, ⟨bkS BK276⟩, ⟨bkS BK277⟩, ⟨bS HB⟩⟩
      ·
       replace c24 := Bool.eq_false_iff.mpr c24
       subst c24
       have H1 : (if a1_1 = 0 then (if a2_1 = 0 then ((gimbalref31_holds.f a0 a1_2 a2_2).bind fun t278 => (gimbalref31_Test.j1 kj3 a0 (!t278) false a1_1 a1_2 false a2_1 a2_2)) else (gimbalref31_Test.j1 kj3 a0 false false a1_1 a1_2 false a2_1 a2_2)) else (gimbalref31_Test.j1 kj3 a0 false false a1_1 a1_2 false a2_1 a2_2)) = some (r1, r2, r3, r4, r5, r6) := by rw [if_neg (show ¬ (false = true) by decide)] at H; exact H
       clear H
       have H := H1
       clear H1
       by_cases c32 : a1_1 = 0
       ·
        rw [if_pos c32] at H
        have c32b0 : (a1_1 == 0) = true := beq_iff_eq.mpr c32
        have c32b1 : (a1_1 != 0) = false := bne_eq_false_iff_eq.mpr c32
        clear c32
        (first | rw [c32b0] | (simp only [i64_w, i32_w]; rw [c32b0]) | skip)
        by_cases c33 : a2_1 = 0
        ·
         rw [if_pos c33] at H
         have c33b0 : (a2_1 == 0) = true := beq_iff_eq.mpr c33
         have c33b1 : (a2_1 != 0) = false := bne_eq_false_iff_eq.mpr c33
         clear c33
         replace H := Option.bind_eq_some_iff.mp H
         obtain ⟨t278, A340, H⟩ := H
         replace H : (gimbalref31_Test.j1 kj3 a0 (!t278) false a1_1 a1_2 false a2_1 a2_2) = some (r1, r2, r3, r4, r5, r6) := H
         have A34 := Aside0.mk A340
         clear A340
         have H' := Aside0.mk H
         clear H
         have hnb35 := NB274_275.out
         have hnc35 := NB275_274.out
         have hnb36 := NB274_276.out
         have hnc36 := NB276_274.out
         have hnb37 := NB274_277.out
         have hnc37 := NB277_274.out
         have hcz38_0 : wc.cell? ⟨gb274, 0, none⟩ = some (.bool false) := cz0 BK274
         have hcz38_1 : wc.cell? ⟨gb274, 1, none⟩ = some (.int .i64 a1_1) := cz1 BK274
         have hcz38_2 : wc.cell? ⟨gb274, 2, none⟩ = some (.int .i64 a1_2) := cz2 BK274
         have hfz38_0 := fz BK274 0
         have hfz38_1 := fz BK274 1
         have hfz38_2 := fz BK274 2
         have hnb39 := NB275_276.out
         have hnc39 := NB276_275.out
         have hnb40 := NB275_277.out
         have hnc40 := NB277_275.out
         have hcz41_0 : wc.cell? ⟨gb275, 0, none⟩ = some (.bool false) := cz0 BK275
         have hcz41_1 : wc.cell? ⟨gb275, 1, none⟩ = some (.int .i64 a2_1) := cz1 BK275
         have hcz41_2 : wc.cell? ⟨gb275, 2, none⟩ = some (.int .i64 a2_2) := cz2 BK275
         have hfz41_0 := fz BK275 0
         have hfz41_1 := fz BK275 1
         have hfz41_2 := fz BK275 2
         go_wp2_with (first | (go_at_call 68; (with_reducible refine (gimbalref31_holds.calls a0 a1_2 a2_2 t278 _ A34.out).mono ?_); rintro e w' ⟨rfl, ⟨nd, rfl⟩⟩))
         go_meet
         case rel => exact ⟨_, (!t278), (by first | rfl | (simp; done) | (simp [*]; done)), H', ⟨by have := HJ3.out; first | omega | exact Nat.le_refl _⟩, ⟨bkS BK274⟩, ⟨bkS BK275⟩, ⟨bkS BK276⟩, ⟨bkS BK277⟩, ⟨bS HB⟩⟩
        ·
         rw [if_neg c33] at H
         have c33b0 : (a2_1 == 0) = false := beq_eq_false_iff_ne.mpr c33
         have c33b1 : (a2_1 != 0) = true := bne_iff_ne.mpr c33
         have H' := Aside0.mk H
         clear H
         have hnb42 := NB274_275.out
         have hnc42 := NB275_274.out
         have hnb43 := NB274_276.out
         have hnc43 := NB276_274.out
         have hnb44 := NB274_277.out
         have hnc44 := NB277_274.out
         have hcz45_0 : wc.cell? ⟨gb274, 0, none⟩ = some (.bool false) := cz0 BK274
         have hcz45_1 : wc.cell? ⟨gb274, 1, none⟩ = some (.int .i64 a1_1) := cz1 BK274
         have hcz45_2 : wc.cell? ⟨gb274, 2, none⟩ = some (.int .i64 a1_2) := cz2 BK274
         have hfz45_0 := fz BK274 0
         have hfz45_1 := fz BK274 1
         have hfz45_2 := fz BK274 2
         have hnb46 := NB275_276.out
         have hnc46 := NB276_275.out
         have hnb47 := NB275_277.out
         have hnc47 := NB277_275.out
         have hcz48_0 : wc.cell? ⟨gb275, 0, none⟩ = some (.bool false) := cz0 BK275
         have hcz48_1 : wc.cell? ⟨gb275, 1, none⟩ = some (.int .i64 a2_1) := cz1 BK275
         have hcz48_2 : wc.cell? ⟨gb275, 2, none⟩ = some (.int .i64 a2_2) := cz2 BK275
         have hfz48_0 := fz BK275 0
         have hfz48_1 := fz BK275 1
         have hfz48_2 := fz BK275 2
         go_wp2
         go_meet
         case rel => exact ⟨_, (false), (by first | rfl | (simp; done) | (simp [*]; done)), H', ⟨by have := HJ3.out; first | omega | exact Nat.le_refl _⟩, ⟨bkS BK274⟩, ⟨bkS BK275⟩, ⟨bkS BK276⟩, ⟨bkS BK277⟩, ⟨bS HB⟩⟩
       ·
        rw [if_neg c32] at H
        have c32b0 : (a1_1 == 0) = false := beq_eq_false_iff_ne.mpr c32
        have c32b1 : (a1_1 != 0) = true := bne_iff_ne.mpr c32
        (first | rw [c32b0] | (simp only [i64_w, i32_w]; rw [c32b0]) | skip)
        have H' := Aside0.mk H
        clear H
        have hnb49 := NB274_275.out
        have hnc49 := NB275_274.out
        have hnb50 := NB274_276.out
        have hnc50 := NB276_274.out
        have hnb51 := NB274_277.out
        have hnc51 := NB277_274.out
        have hcz52_0 : wc.cell? ⟨gb274, 0, none⟩ = some (.bool false) := cz0 BK274
        have hcz52_1 : wc.cell? ⟨gb274, 1, none⟩ = some (.int .i64 a1_1) := cz1 BK274
        have hcz52_2 : wc.cell? ⟨gb274, 2, none⟩ = some (.int .i64 a1_2) := cz2 BK274
        have hfz52_0 := fz BK274 0
        have hfz52_1 := fz BK274 1
        have hfz52_2 := fz BK274 2
        have hnb53 := NB275_276.out
        have hnc53 := NB276_275.out
        have hnb54 := NB275_277.out
        have hnc54 := NB277_275.out
        have hcz55_0 : wc.cell? ⟨gb275, 0, none⟩ = some (.bool false) := cz0 BK275
        have hcz55_1 : wc.cell? ⟨gb275, 1, none⟩ = some (.int .i64 a2_1) := cz1 BK275
        have hcz55_2 : wc.cell? ⟨gb275, 2, none⟩ = some (.int .i64 a2_2) := cz2 BK275
        have hfz55_0 := fz BK275 0
        have hfz55_1 := fz BK275 1
        have hfz55_2 := fz BK275 2
        go_wp2
        go_meet
        case rel => exact ⟨_, (false), (by first | rfl | (simp; done) | (simp [*]; done)), H', ⟨by have := HJ3.out; first | omega | exact Nat.le_refl _⟩, ⟨bkS BK274⟩, ⟨bkS BK275⟩, ⟨bkS BK276⟩, ⟨bkS BK277⟩, ⟨bS HB⟩⟩
    case rest =>
     clear HC18
     try clear c1
     try clear c2
     try clear p2
     try clear c3
     try clear c4
     try clear c5
     try clear c9
     try clear c9b0
     try clear c10
     try clear c19
     try clear c20
     try clear c21
     try clear c22
     try clear c24
     try clear c25
     try clear c26
     try clear c27
     try clear c29
     try clear c30
     try clear c32
     try clear c32b0
     try clear c32b1
     try clear c33
     try clear c33b0
     try clear c33b1
     try clear c35
     try clear c36
     try clear c37
     try clear c39
     try clear c40
     try clear c42
     try clear c43
     try clear c44
     try clear c46
     try clear c47
     try clear c49
     try clear c50
     try clear c51
     try clear c53
     try clear c54
     try clear hcz23_0
     try clear hcz23_1
     try clear hcz23_2
     try clear hcz28_0
     try clear hcz28_1
     try clear hcz28_2
     try clear hcz31_0
     try clear hcz31_1
     try clear hcz31_2
     try clear hcz38_0
     try clear hcz38_1
     try clear hcz38_2
     try clear hcz41_0
     try clear hcz41_1
     try clear hcz41_2
     try clear hcz45_0
     try clear hcz45_1
     try clear hcz45_2
     try clear hcz48_0
     try clear hcz48_1
     try clear hcz48_2
     try clear hcz52_0
     try clear hcz52_1
     try clear hcz52_2
     try clear hcz55_0
     try clear hcz55_1
     try clear hcz55_2
     try clear hfz23_0
     try clear hfz23_1
     try clear hfz23_2
     try clear hfz28_0
     try clear hfz28_1
     try clear hfz28_2
     try clear hfz31_0
     try clear hfz31_1
     try clear hfz31_2
     try clear hfz38_0
     try clear hfz38_1
     try clear hfz38_2
     try clear hfz41_0
     try clear hfz41_1
     try clear hfz41_2
     try clear hfz45_0
     try clear hfz45_1
     try clear hfz45_2
     try clear hfz48_0
     try clear hfz48_1
     try clear hfz48_2
     try clear hfz52_0
     try clear hfz52_1
     try clear hfz52_2
     try clear hfz55_0
     try clear hfz55_1
     try clear hfz55_2
     try clear p2
     obtain ⟨kq, x41_17, rfl, HA, HJ17, BK274, BK275, BK276, BK277, HB⟩ := hcut
     cases kq with
     | zero => exact absurd HA.out (by simp [gimbalref31_Test.j1])
     | succ kj17 =>
      have H := HA.out
      clear HA
      simp only [gimbalref31_Test.j1] at H
      by_cases c56 : x41_17 = true
      ·
       subst c56
       have H1 : ((gimbalref31_None.f).bind fun bt279 => ((gimbalref31_None.f).bind fun bt282 => (some (bt279.1, bt279.2.1, bt279.2.2, bt282.1, bt282.2.1, bt282.2.2)))) = some (r1, r2, r3, r4, r5, r6) := by rw [if_pos rfl] at H; exact H
       clear H
       have H := H1
       clear H1
       replace H := Option.bind_eq_some_iff.mp H
       obtain ⟨⟨t279, t280, t281⟩, A570, H⟩ := H
       replace H : ((gimbalref31_None.f).bind fun bt282 => (some (t279, t280, t281, bt282.1, bt282.2.1, bt282.2.2))) = some (r1, r2, r3, r4, r5, r6) := H
       have A57 := Aside0.mk A570
       clear A570
       replace H := Option.bind_eq_some_iff.mp H
       obtain ⟨⟨t282, t283, t284⟩, A580, H⟩ := H
       replace H : (some (t279, t280, t281, t282, t283, t284)) = some (r1, r2, r3, r4, r5, r6) := H
       have A58 := Aside0.mk A580
       clear A580
       simp only [Option.some.injEq, Prod.mk.injEq] at H
       obtain ⟨rfl, rfl, rfl, rfl, rfl, rfl⟩ := H
       go_wp2_with (first | ((with_reducible refine gate_callee (f := 69) rfl ?_); refine goesL_ (some 42) rfl rfl Tryd.func69 (by kernel_rfl) rfl #[] rfl mS ?_; (with_reducible refine (gimbalref31_None.calls  t279 t280 t281 _ A57.out).mono ?_); rintro e w59 ⟨rfl, hb⟩; refine ⟨_, rfl, ?_⟩; replace BK274 := kB BK274 hb; replace BK275 := kB BK275 hb; replace BK276 := kB BK276 hb; replace BK277 := kB BK277 hb; replace HB := kW HB hb; (try clear hb); (try clear hb2); (try clear hk); (try clear hi)) | ((with_reducible refine gate_callee (f := 69) rfl ?_); refine goesL_ (some 43) rfl rfl Tryd.func69 (by kernel_rfl) rfl #[] rfl mS ?_; (with_reducible refine (gimbalref31_None.calls  t282 t283 t284 _ A58.out).mono ?_); rintro e w60 ⟨rfl, hb⟩; refine ⟨_, rfl, ?_⟩; replace BK274 := kB BK274 hb; replace BK275 := kB BK275 hb; replace BK276 := kB BK276 hb; replace BK277 := kB BK277 hb; replace HB := kW HB hb; (try clear hb); (try clear hb2); (try clear hk); (try clear hi); have hnb61 := NB276_274.out; have hnc61 := NB274_276.out; have hnb62 := NB276_275.out; have hnc62 := NB275_276.out; have hnb63 := NB276_277.out; have hnc63 := NB277_276.out; have hcz64_0 := cz0 BK276; have hcz64_1 := cz1 BK276; have hcz64_2 := cz2 BK276; have hfz64_0 := fz BK276 0; have hfz64_1 := fz BK276 1; have hfz64_2 := fz BK276 2; have hnb65 := NB277_274.out; have hnc65 := NB274_277.out; have hnb66 := NB277_275.out; have hnc66 := NB275_277.out; have hcz67_0 := cz0 BK277; have hcz67_1 := cz1 BK277; have hcz67_2 := cz2 BK277; have hfz67_0 := fz BK277 0; have hfz67_1 := fz BK277 1; have hfz67_2 := fz BK277 2))
       refine bodyPost_ret (results_cc rfl _ _ gb276 gb277 23 23 #[.bool t279, .int .i64 t280, .int .i64 t281] #[.bool t282, .int .i64 t283, .int .i64 t284] (0, 0) (0, 0) _ _ rfl (by (with_reducible repeat (first | refine b1 ?_ _ | refine b2 ?_ | refine b3 ?_ _)); refine blk_far ?_ NB276_277.out _; (with_reducible repeat (first | refine b1 ?_ _ | refine b2 ?_ | refine b3 ?_ _)); refine blk_far ?_ NB276_277.out _; (with_reducible repeat (first | refine b1 ?_ _ | refine b2 ?_ | refine b3 ?_ _)); refine blk_far ?_ NB276_277.out _; (with_reducible repeat (first | refine b1 ?_ _ | refine b2 ?_ | refine b3 ?_ _)); refine blk_put (cs := #[.bool t279, .int .i64 t280, .int .i64 0]) ?_ 2 _ rfl; (with_reducible repeat (first | refine b1 ?_ _ | refine b2 ?_ | refine b3 ?_ _)); refine blk_put (cs := #[.bool t279, .int .i64 0, .int .i64 0]) ?_ 1 _ rfl; (with_reducible repeat (first | refine b1 ?_ _ | refine b2 ?_ | refine b3 ?_ _)); refine blk_put (cs := #[.bool false, .int .i64 0, .int .i64 0]) ?_ 0 _ rfl; (with_reducible repeat (first | refine b1 ?_ _ | refine b2 ?_ | refine b3 ?_ _)); exact BK276.out) Tryd.underlying23 rfl (by kernel_rfl) rfl (by (with_reducible repeat (first | refine b1 ?_ _ | refine b2 ?_ | refine b3 ?_ _)); refine blk_put (cs := #[.bool t282, .int .i64 t283, .int .i64 0]) ?_ 2 _ rfl; (with_reducible repeat (first | refine b1 ?_ _ | refine b2 ?_ | refine b3 ?_ _)); refine blk_put (cs := #[.bool t282, .int .i64 0, .int .i64 0]) ?_ 1 _ rfl; (with_reducible repeat (first | refine b1 ?_ _ | refine b2 ?_ | refine b3 ?_ _)); refine blk_put (cs := #[.bool false, .int .i64 0, .int .i64 0]) ?_ 0 _ rfl; (with_reducible repeat (first | refine b1 ?_ _ | refine b2 ?_ | refine b3 ?_ _)); refine blk_far ?_ NB277_276.out _; (with_reducible repeat (first | refine b1 ?_ _ | refine b2 ?_ | refine b3 ?_ _)); refine blk_far ?_ NB277_276.out _; (with_reducible repeat (first | refine b1 ?_ _ | refine b2 ?_ | refine b3 ?_ _)); refine blk_far ?_ NB277_276.out _; (with_reducible repeat (first | refine b1 ?_ _ | refine b2 ?_ | refine b3 ?_ _)); exact BK277.out) Tryd.underlying23 rfl (by kernel_rfl)) rfl ?_
       exact ⟨eS, bS HB⟩
      ·
       replace c56 := Bool.eq_false_iff.mpr c56
       subst c56
       have H1 : (if a0 = 14 then ((gimbalref31_Meet.f kj17 a1_0 a1_1 a1_2 a2_0 a2_1 a2_2).bind fun bt285 => (some (bt285.1, bt285.2.1, bt285.2.2, bt285.1, bt285.2.1, bt285.2.2))) else (some (a1_0, a1_1, a1_2, a2_0, a2_1, a2_2))) = some (r1, r2, r3, r4, r5, r6) := by rw [if_neg (show ¬ (false = true) by decide)] at H; exact H
       clear H
       have H := H1
       clear H1
       by_cases c68 : a0 = 14
       ·
        rw [if_pos c68] at H
        have c68b0 : (a0 == 14) = true := beq_iff_eq.mpr c68
        have c68b1 : (a0 != 14) = false := bne_eq_false_iff_eq.mpr c68
        clear c68
        replace H := Option.bind_eq_some_iff.mp H
        obtain ⟨⟨t285, t286, t287⟩, A690, H⟩ := H
        replace H : (some (t285, t286, t287, t285, t286, t287)) = some (r1, r2, r3, r4, r5, r6) := H
        have A69 := Aside0.mk A690
        clear A690
        simp only [Option.some.injEq, Prod.mk.injEq] at H
        obtain ⟨rfl, rfl, rfl, rfl, rfl, rfl⟩ := H
        have hnb70 := NB274_275.out
        have hnc70 := NB275_274.out
        have hnb71 := NB274_276.out
        have hnc71 := NB276_274.out
        have hnb72 := NB274_277.out
        have hnc72 := NB277_274.out
        have hcz73_0 : wc.cell? ⟨gb274, 0, none⟩ = some (.bool a1_0) := cz0 BK274
        have hcz73_1 : wc.cell? ⟨gb274, 1, none⟩ = some (.int .i64 a1_1) := cz1 BK274
        have hcz73_2 : wc.cell? ⟨gb274, 2, none⟩ = some (.int .i64 a1_2) := cz2 BK274
        have hfz73_0 := fz BK274 0
        have hfz73_1 := fz BK274 1
        have hfz73_2 := fz BK274 2
        have hnb74 := NB275_276.out
        have hnc74 := NB276_275.out
        have hnb75 := NB275_277.out
        have hnc75 := NB277_275.out
        have hcz76_0 : wc.cell? ⟨gb275, 0, none⟩ = some (.bool a2_0) := cz0 BK275
        have hcz76_1 : wc.cell? ⟨gb275, 1, none⟩ = some (.int .i64 a2_1) := cz1 BK275
        have hcz76_2 : wc.cell? ⟨gb275, 2, none⟩ = some (.int .i64 a2_2) := cz2 BK275
        have hfz76_0 := fz BK275 0
        have hfz76_1 := fz BK275 1
        have hfz76_2 := fz BK275 2
        try go_wp2_with (first | ((with_reducible refine gate_callee (f := 30) rfl ?_); refine goesL_ (some 48) rfl rfl Tryd.func30 (by kernel_rfl) rfl #[.agg #[.bool a1_0, .int .i64 a1_1, .int .i64 a1_2], .agg #[.bool a2_0, .int .i64 a2_1, .int .i64 a2_2]] rfl mS ?_; (with_reducible refine (gimbalref31_Meet.calls kj17 a1_0 a1_1 a1_2 a2_0 a2_1 a2_2 t285 t286 t287 _ A69.out).mono ?_); rintro e w77 ⟨rfl, hb⟩; refine ⟨_, rfl, ?_⟩; replace BK274 := kB BK274 hb; replace BK275 := kB BK275 hb; replace BK276 := kB BK276 hb; replace BK277 := kB BK277 hb; replace HB := kW HB hb; (try clear hb); (try clear hb2); (try clear hk); (try clear hi)) | ((with_reducible refine gate_dst (N := 8) rfl ?_); refine box_event ?hg (N := 8) ?hd (cs := #[.bool false, .int .i64 0, .int .i64 0]) (t := 23) ?hr ?_; (case hd => rfl); (case hg => rfl); (case hr => first | (go_simp; done) | (go_simp; rfl)); intro gb288 hg w78 hbox hb; have n0_ := kB BK274 hb; have n1_ := kB BK275 hb; have n2_ := kB BK276 hb; have n3_ := kB BK277 hb; have n4_ := kW HB hb; have n5_ := Aside0.mk (hbox); have n6_ := Aside0.mk ((by rw [hg]; exact (below_size (bS HB)) : w.heap.size ≤ gb288)); have n7_ := Aside0.mk ((by rw [hg]; exact (below_size (bS HB)) : w.heap.size ≤ gb288)); have n8_ := Aside0.mk ((by rw [hg]; exact Nat.ne_of_lt (blk_lt (bkS BK274)) : gb274 ≠ gb288)); have n9_ := Aside0.mk ((by rw [hg]; exact Nat.ne_of_gt (blk_lt (bkS BK274)) : gb288 ≠ gb274)); have n10_ := Aside0.mk ((by rw [hg]; exact Nat.ne_of_lt (blk_lt (bkS BK275)) : gb275 ≠ gb288)); have n11_ := Aside0.mk ((by rw [hg]; exact Nat.ne_of_gt (blk_lt (bkS BK275)) : gb288 ≠ gb275)); have n12_ := Aside0.mk ((by rw [hg]; exact Nat.ne_of_lt (blk_lt (bkS BK276)) : gb276 ≠ gb288)); have n13_ := Aside0.mk ((by rw [hg]; exact Nat.ne_of_gt (blk_lt (bkS BK276)) : gb288 ≠ gb276)); have n14_ := Aside0.mk ((by rw [hg]; exact Nat.ne_of_lt (blk_lt (bkS BK277)) : gb277 ≠ gb288)); have n15_ := Aside0.mk ((by rw [hg]; exact Nat.ne_of_gt (blk_lt (bkS BK277)) : gb288 ≠ gb277)); clear BK274; clear BK275; clear BK276; clear BK277; clear HB; have BK274 := n0_; have BK275 := n1_; have BK276 := n2_; have BK277 := n3_; have HB := n4_; have BK288 := n5_; have GW288 := n6_; have GE288 := n7_; have NB274_288 := n8_; have NB288_274 := n9_; have NB275_288 := n10_; have NB288_275 := n11_; have NB276_288 := n12_; have NB288_276 := n13_; have NB277_288 := n14_; have NB288_277 := n15_; clear n0_ n1_ n2_ n3_ n4_ n5_ n6_ n7_ n8_ n9_ n10_ n11_ n12_ n13_ n14_ n15_; clear hb hbox hg; have hnb79 := NB288_274.out; have hnc79 := NB274_288.out; have hnb80 := NB288_275.out; have hnc80 := NB275_288.out; have hnb81 := NB288_276.out; have hnc81 := NB276_288.out; have hnb82 := NB288_277.out; have hnc82 := NB277_288.out; have hcz83_0 := cz0 BK288; have hcz83_1 := cz1 BK288; have hcz83_2 := cz2 BK288; have hfz83_0 := fz BK288 0; have hfz83_1 := fz BK288 1; have hfz83_2 := fz BK288 2))
        have n0_ : Aside0 ((((w78.setCell ⟨gb288, 0, none⟩ (.bool t285)).setCell ⟨gb288, 1, none⟩ (.int .i64 t286)).setCell ⟨gb288, 2, none⟩ (.int .i64 t287)).heap[gb274]? = some (.cells #[.bool a1_0, .int .i64 a1_1, .int .i64 a1_2] 23 (0, 0))) := ⟨bkS BK274⟩
        have n1_ : Aside0 ((((w78.setCell ⟨gb288, 0, none⟩ (.bool t285)).setCell ⟨gb288, 1, none⟩ (.int .i64 t286)).setCell ⟨gb288, 2, none⟩ (.int .i64 t287)).heap[gb275]? = some (.cells #[.bool a2_0, .int .i64 a2_1, .int .i64 a2_2] 23 (0, 0))) := ⟨bkS BK275⟩
        have n2_ : Aside0 ((((w78.setCell ⟨gb288, 0, none⟩ (.bool t285)).setCell ⟨gb288, 1, none⟩ (.int .i64 t286)).setCell ⟨gb288, 2, none⟩ (.int .i64 t287)).heap[gb276]? = some (.cells #[.bool false, .int .i64 0, .int .i64 0] 23 (0, 0))) := ⟨bkS BK276⟩
        have n3_ : Aside0 ((((w78.setCell ⟨gb288, 0, none⟩ (.bool t285)).setCell ⟨gb288, 1, none⟩ (.int .i64 t286)).setCell ⟨gb288, 2, none⟩ (.int .i64 t287)).heap[gb277]? = some (.cells #[.bool false, .int .i64 0, .int .i64 0] 23 (0, 0))) := ⟨bkS BK277⟩
        have n4_ : Aside0 ((((w78.setCell ⟨gb288, 0, none⟩ (.bool t285)).setCell ⟨gb288, 1, none⟩ (.int .i64 t286)).setCell ⟨gb288, 2, none⟩ (.int .i64 t287)).heap[gb288]? = some (.cells #[.bool t285, .int .i64 t286, .int .i64 t287] 23 (0, 0))) := ⟨by (with_reducible repeat (first | refine b1 ?_ _ | refine b2 ?_ | refine b3 ?_ _)); refine blk_put (cs := #[.bool t285, .int .i64 t286, .int .i64 0]) ?_ 2 _ rfl; (with_reducible repeat (first | refine b1 ?_ _ | refine b2 ?_ | refine b3 ?_ _)); refine blk_put (cs := #[.bool t285, .int .i64 0, .int .i64 0]) ?_ 1 _ rfl; (with_reducible repeat (first | refine b1 ?_ _ | refine b2 ?_ | refine b3 ?_ _)); refine blk_put (cs := #[.bool false, .int .i64 0, .int .i64 0]) ?_ 0 _ rfl; (with_reducible repeat (first | refine b1 ?_ _ | refine b2 ?_ | refine b3 ?_ _)); exact BK288.out⟩
        have n5_ : Aside0 (Below w.heap.size w (((w78.setCell ⟨gb288, 0, none⟩ (.bool t285)).setCell ⟨gb288, 1, none⟩ (.int .i64 t286)).setCell ⟨gb288, 2, none⟩ (.int .i64 t287))) := ⟨bS HB⟩
        (try clear BK274)
        (try clear BK275)
        (try clear BK276)
        (try clear BK277)
        (try clear BK288)
        (try clear HB)
        generalize (((w78.setCell ⟨gb288, 0, none⟩ (.bool t285)).setCell ⟨gb288, 1, none⟩ (.int .i64 t286)).setCell ⟨gb288, 2, none⟩ (.int .i64 t287)) = w84 at n0_ n1_ n2_ n3_ n4_ n5_ ⊢
        have BK274 := n0_
        have BK275 := n1_
        have BK276 := n2_
        have BK277 := n3_
        have BK288 := n4_
        have HB := n5_
        clear n0_ n1_ n2_ n3_ n4_ n5_
        replace BK274 := Aside0.mk (blk_drew BK274.out)
        replace BK275 := Aside0.mk (blk_drew BK275.out)
        replace BK276 := Aside0.mk (blk_drew BK276.out)
        replace BK277 := Aside0.mk (blk_drew BK277.out)
        replace BK288 := Aside0.mk (blk_drew BK288.out)
        replace HB := Aside0.mk (below_drew1 HB.out)
        refine start_ (n := 4) (S := fun w' => w'.cell? ⟨gb288, 0, none⟩ = some (.bool t285) ∧ w'.cell? ⟨gb288, 1, none⟩ = some (.int .i64 t286) ∧ w'.cell? ⟨gb288, 2, none⟩ = some (.int .i64 t287)) (ds := []) #[false, false, false, false] (by kernel_rfl) rfl rfl ⟨cz0 BK288, cz1 BK288, cz2 BK288⟩ (fun hHeld => ?_)
        generalize w84.drew = w85 at BK274 BK275 BK276 BK277 BK288 HB hHeld ⊢
        refine take_ (i := 0) (N := some 49) (v := ?_) (a' := ?_) #[true, false, false, false] rfl rfl (by kernel_rfl) (fun _ _ _ h => h) (Or.inl ⟨by rfl, ?_⟩) hHeld ?_ ?_
        rotate_left
        ·
         rintro w' ⟨s0, s1, s2⟩
         go_simp
         with_reducible rfl
        rotate_left
        ·
         simp only [Act.put, lA, lB, lC, i64_w, i32_w]
         rfl
        refine take_ (i := 1) (N := some 50) (v := ?_) (a' := ?_) #[true, true, false, false] rfl rfl (by kernel_rfl) (fun _ _ _ h => h) (Or.inl ⟨by rfl, ?_⟩) hHeld ?_ ?_
        rotate_left
        ·
         rintro w' ⟨s0, s1, s2⟩
         go_simp
         with_reducible rfl
        rotate_left
        ·
         simp only [Act.put, lA, lB, lC, i64_w, i32_w]
         rfl
        refine one_ (i := 2) (N := none) #[true, true, true, false] rfl rfl (by kernel_rfl) (by decide) (fun K hK => ?_)
        have hs86 : w85.cell? ⟨gb276, 0, none⟩ = some (.bool false) := cz0 BK276
        have hfs86 := fz BK276 0
        have hns86_0 := NB274_276.out
        have hns86_1 := NB275_276.out
        have hns86_3 := NB277_276.out
        have hns86_4 := NB288_276.out
        have hms86_0 := NB276_274.out
        have hms86_1 := NB276_275.out
        have hms86_3 := NB276_277.out
        have hms86_4 := NB276_288.out
        have hs87 : w85.cell? ⟨gb276, 1, none⟩ = some (.int .i64 0) := cz1 BK276
        have hfs87 := fz BK276 1
        have hns87_0 := NB274_276.out
        have hns87_1 := NB275_276.out
        have hns87_3 := NB277_276.out
        have hns87_4 := NB288_276.out
        have hms87_0 := NB276_274.out
        have hms87_1 := NB276_275.out
        have hms87_3 := NB276_277.out
        have hms87_4 := NB276_288.out
        have hs88 : w85.cell? ⟨gb276, 2, none⟩ = some (.int .i64 0) := cz2 BK276
        have hfs88 := fz BK276 2
        have hns88_0 := NB274_276.out
        have hns88_1 := NB275_276.out
        have hns88_3 := NB277_276.out
        have hns88_4 := NB288_276.out
        have hms88_0 := NB276_274.out
        have hms88_1 := NB276_275.out
        have hms88_3 := NB276_277.out
        have hms88_4 := NB276_288.out
        refine skip_ (w1 := ?_) (by rfl) rfl ?_ ?_
        rotate_left
        ·
         go_simp
         rfl
        refine hK.out _ _ ⟨((cell_far (p := ⟨gb276, _, none⟩) NB288_276.out _).trans (((cell_far (p := ⟨gb276, _, none⟩) NB288_276.out _).trans (((cell_far (p := ⟨gb276, _, none⟩) NB288_276.out _).trans (hHeld.1)))))), ((cell_far (p := ⟨gb276, _, none⟩) NB288_276.out _).trans (((cell_far (p := ⟨gb276, _, none⟩) NB288_276.out _).trans (((cell_far (p := ⟨gb276, _, none⟩) NB288_276.out _).trans (hHeld.2.1)))))), ((cell_far (p := ⟨gb276, _, none⟩) NB288_276.out _).trans (((cell_far (p := ⟨gb276, _, none⟩) NB288_276.out _).trans (((cell_far (p := ⟨gb276, _, none⟩) NB288_276.out _).trans (hHeld.2.2))))))⟩ (fun hHeld => ?_)
        clear hK K
        refine one_ (i := 3) (N := none) #[true, true, true, true] rfl rfl (by kernel_rfl) (by decide) (fun K hK => ?_)
        have hs89 : w85.cell? ⟨gb277, 0, none⟩ = some (.bool false) := cz0 BK277
        have hfs89 := fz BK277 0
        have hns89_0 := NB274_277.out
        have hns89_1 := NB275_277.out
        have hns89_2 := NB276_277.out
        have hns89_4 := NB288_277.out
        have hms89_0 := NB277_274.out
        have hms89_1 := NB277_275.out
        have hms89_2 := NB277_276.out
        have hms89_4 := NB277_288.out
        have hs90 : w85.cell? ⟨gb277, 1, none⟩ = some (.int .i64 0) := cz1 BK277
        have hfs90 := fz BK277 1
        have hns90_0 := NB274_277.out
        have hns90_1 := NB275_277.out
        have hns90_2 := NB276_277.out
        have hns90_4 := NB288_277.out
        have hms90_0 := NB277_274.out
        have hms90_1 := NB277_275.out
        have hms90_2 := NB277_276.out
        have hms90_4 := NB277_288.out
        have hs91 : w85.cell? ⟨gb277, 2, none⟩ = some (.int .i64 0) := cz2 BK277
        have hfs91 := fz BK277 2
        have hns91_0 := NB274_277.out
        have hns91_1 := NB275_277.out
        have hns91_2 := NB276_277.out
        have hns91_4 := NB288_277.out
        have hms91_0 := NB277_274.out
        have hms91_1 := NB277_275.out
        have hms91_2 := NB277_276.out
        have hms91_4 := NB277_288.out
        refine skip_ (w1 := ?_) (by rfl) rfl ?_ ?_
        rotate_left
        ·
         go_simp
         rfl
        refine hK.out _ _ ⟨((cell_far (p := ⟨gb277, _, none⟩) NB288_277.out _).trans (((cell_far (p := ⟨gb277, _, none⟩) NB288_277.out _).trans (((cell_far (p := ⟨gb277, _, none⟩) NB288_277.out _).trans (hHeld.1)))))), ((cell_far (p := ⟨gb277, _, none⟩) NB288_277.out _).trans (((cell_far (p := ⟨gb277, _, none⟩) NB288_277.out _).trans (((cell_far (p := ⟨gb277, _, none⟩) NB288_277.out _).trans (hHeld.2.1)))))), ((cell_far (p := ⟨gb277, _, none⟩) NB288_277.out _).trans (((cell_far (p := ⟨gb277, _, none⟩) NB288_277.out _).trans (((cell_far (p := ⟨gb277, _, none⟩) NB288_277.out _).trans (hHeld.2.2))))))⟩ (fun hHeld => ?_)
        clear hK K
        refine done_ (by kernel_rfl) ?_
        try go_wp2
        refine bodyPost_ret (results_cc rfl _ _ gb276 gb277 23 23 #[.bool t285, .int .i64 t286, .int .i64 t287] #[.bool t285, .int .i64 t286, .int .i64 t287] (0, 0) (0, 0) _ _ rfl (by (with_reducible repeat (first | refine b1 ?_ _ | refine b2 ?_ | refine b3 ?_ _)); refine blk_far ?_ NB276_277.out _; (with_reducible repeat (first | refine b1 ?_ _ | refine b2 ?_ | refine b3 ?_ _)); refine blk_far ?_ NB276_277.out _; (with_reducible repeat (first | refine b1 ?_ _ | refine b2 ?_ | refine b3 ?_ _)); refine blk_far ?_ NB276_277.out _; (with_reducible repeat (first | refine b1 ?_ _ | refine b2 ?_ | refine b3 ?_ _)); refine blk_put (cs := #[.bool t285, .int .i64 t286, .int .i64 0]) ?_ 2 _ rfl; (with_reducible repeat (first | refine b1 ?_ _ | refine b2 ?_ | refine b3 ?_ _)); refine blk_put (cs := #[.bool t285, .int .i64 0, .int .i64 0]) ?_ 1 _ rfl; (with_reducible repeat (first | refine b1 ?_ _ | refine b2 ?_ | refine b3 ?_ _)); refine blk_put (cs := #[.bool false, .int .i64 0, .int .i64 0]) ?_ 0 _ rfl; (with_reducible repeat (first | refine b1 ?_ _ | refine b2 ?_ | refine b3 ?_ _)); exact BK276.out) Tryd.underlying23 rfl (by kernel_rfl) rfl (by (with_reducible repeat (first | refine b1 ?_ _ | refine b2 ?_ | refine b3 ?_ _)); refine blk_put (cs := #[.bool t285, .int .i64 t286, .int .i64 0]) ?_ 2 _ rfl; (with_reducible repeat (first | refine b1 ?_ _ | refine b2 ?_ | refine b3 ?_ _)); refine blk_put (cs := #[.bool t285, .int .i64 0, .int .i64 0]) ?_ 1 _ rfl; (with_reducible repeat (first | refine b1 ?_ _ | refine b2 ?_ | refine b3 ?_ _)); refine blk_put (cs := #[.bool false, .int .i64 0, .int .i64 0]) ?_ 0 _ rfl; (with_reducible repeat (first | refine b1 ?_ _ | refine b2 ?_ | refine b3 ?_ _)); refine blk_far ?_ NB277_276.out _; (with_reducible repeat (first | refine b1 ?_ _ | refine b2 ?_ | refine b3 ?_ _)); refine blk_far ?_ NB277_276.out _; (with_reducible repeat (first | refine b1 ?_ _ | refine b2 ?_ | refine b3 ?_ _)); refine blk_far ?_ NB277_276.out _; (with_reducible repeat (first | refine b1 ?_ _ | refine b2 ?_ | refine b3 ?_ _)); exact BK277.out) Tryd.underlying23 rfl (by kernel_rfl)) rfl ?_
        exact ⟨eS, bS HB⟩
       ·
        rw [if_neg c68] at H
        have c68b0 : (a0 == 14) = false := beq_eq_false_iff_ne.mpr c68
        have c68b1 : (a0 != 14) = true := bne_iff_ne.mpr c68
        simp only [Option.some.injEq, Prod.mk.injEq] at H
        obtain ⟨rfl, rfl, rfl, rfl, rfl, rfl⟩ := H
        try go_wp2
        replace BK274 := Aside0.mk (blk_drew BK274.out)
        replace BK275 := Aside0.mk (blk_drew BK275.out)
        replace BK276 := Aside0.mk (blk_drew BK276.out)
        replace BK277 := Aside0.mk (blk_drew BK277.out)
        replace HB := Aside0.mk (below_drew1 HB.out)
        refine start_ (n := 4) (S := fun w' => w'.cell? ⟨gb274, 0, none⟩ = some (.bool a1_0) ∧ w'.cell? ⟨gb274, 1, none⟩ = some (.int .i64 a1_1) ∧ w'.cell? ⟨gb274, 2, none⟩ = some (.int .i64 a1_2) ∧ w'.cell? ⟨gb275, 0, none⟩ = some (.bool a2_0) ∧ w'.cell? ⟨gb275, 1, none⟩ = some (.int .i64 a2_1) ∧ w'.cell? ⟨gb275, 2, none⟩ = some (.int .i64 a2_2)) (ds := []) #[false, false, false, false] (by kernel_rfl) rfl rfl ⟨cz0 BK274, cz1 BK274, cz2 BK274, cz0 BK275, cz1 BK275, cz2 BK275⟩ (fun hHeld => ?_)
        generalize wc.drew = w92 at BK274 BK275 BK276 BK277 HB hHeld ⊢
        refine take_ (i := 0) (N := some 51) (v := ?_) (a' := ?_) #[true, false, false, false] rfl rfl (by kernel_rfl) (fun _ _ _ h => h) (Or.inl ⟨by rfl, ?_⟩) hHeld ?_ ?_
        rotate_left
        ·
         rintro w' ⟨s0, s1, s2, s3, s4, s5⟩
         go_simp
         with_reducible rfl
        rotate_left
        ·
         simp only [Act.put, lA, lB, lC, i64_w, i32_w]
         rfl
        refine take_ (i := 1) (N := some 52) (v := ?_) (a' := ?_) #[true, true, false, false] rfl rfl (by kernel_rfl) (fun _ _ _ h => h) (Or.inl ⟨by rfl, ?_⟩) hHeld ?_ ?_
        rotate_left
        ·
         rintro w' ⟨s0, s1, s2, s3, s4, s5⟩
         go_simp
         with_reducible rfl
        rotate_left
        ·
         simp only [Act.put, lA, lB, lC, i64_w, i32_w]
         rfl
        refine one_ (i := 2) (N := none) #[true, true, true, false] rfl rfl (by kernel_rfl) (by decide) (fun K hK => ?_)
        have hs93 : w92.cell? ⟨gb276, 0, none⟩ = some (.bool false) := cz0 BK276
        have hfs93 := fz BK276 0
        have hns93_0 := NB274_276.out
        have hns93_1 := NB275_276.out
        have hns93_3 := NB277_276.out
        have hms93_0 := NB276_274.out
        have hms93_1 := NB276_275.out
        have hms93_3 := NB276_277.out
        have hs94 : w92.cell? ⟨gb276, 1, none⟩ = some (.int .i64 0) := cz1 BK276
        have hfs94 := fz BK276 1
        have hns94_0 := NB274_276.out
        have hns94_1 := NB275_276.out
        have hns94_3 := NB277_276.out
        have hms94_0 := NB276_274.out
        have hms94_1 := NB276_275.out
        have hms94_3 := NB276_277.out
        have hs95 : w92.cell? ⟨gb276, 2, none⟩ = some (.int .i64 0) := cz2 BK276
        have hfs95 := fz BK276 2
        have hns95_0 := NB274_276.out
        have hns95_1 := NB275_276.out
        have hns95_3 := NB277_276.out
        have hms95_0 := NB276_274.out
        have hms95_1 := NB276_275.out
        have hms95_3 := NB276_277.out
        refine skip_ (w1 := ?_) (by rfl) rfl ?_ ?_
        rotate_left
        ·
         go_simp
         rfl
        refine hK.out _ _ ⟨((cell_far (p := ⟨gb276, _, none⟩) NB274_276.out _).trans (((cell_far (p := ⟨gb276, _, none⟩) NB274_276.out _).trans (((cell_far (p := ⟨gb276, _, none⟩) NB274_276.out _).trans (hHeld.1)))))), ((cell_far (p := ⟨gb276, _, none⟩) NB274_276.out _).trans (((cell_far (p := ⟨gb276, _, none⟩) NB274_276.out _).trans (((cell_far (p := ⟨gb276, _, none⟩) NB274_276.out _).trans (hHeld.2.1)))))), ((cell_far (p := ⟨gb276, _, none⟩) NB274_276.out _).trans (((cell_far (p := ⟨gb276, _, none⟩) NB274_276.out _).trans (((cell_far (p := ⟨gb276, _, none⟩) NB274_276.out _).trans (hHeld.2.2.1)))))), ((cell_far (p := ⟨gb276, _, none⟩) NB275_276.out _).trans (((cell_far (p := ⟨gb276, _, none⟩) NB275_276.out _).trans (((cell_far (p := ⟨gb276, _, none⟩) NB275_276.out _).trans (hHeld.2.2.2.1)))))), ((cell_far (p := ⟨gb276, _, none⟩) NB275_276.out _).trans (((cell_far (p := ⟨gb276, _, none⟩) NB275_276.out _).trans (((cell_far (p := ⟨gb276, _, none⟩) NB275_276.out _).trans (hHeld.2.2.2.2.1)))))), ((cell_far (p := ⟨gb276, _, none⟩) NB275_276.out _).trans (((cell_far (p := ⟨gb276, _, none⟩) NB275_276.out _).trans (((cell_far (p := ⟨gb276, _, none⟩) NB275_276.out _).trans (hHeld.2.2.2.2.2))))))⟩ (fun hHeld => ?_)
        clear hK K
        refine one_ (i := 3) (N := none) #[true, true, true, true] rfl rfl (by kernel_rfl) (by decide) (fun K hK => ?_)
        have hs96 : w92.cell? ⟨gb277, 0, none⟩ = some (.bool false) := cz0 BK277
        have hfs96 := fz BK277 0
        have hns96_0 := NB274_277.out
        have hns96_1 := NB275_277.out
        have hns96_2 := NB276_277.out
        have hms96_0 := NB277_274.out
        have hms96_1 := NB277_275.out
        have hms96_2 := NB277_276.out
        have hs97 : w92.cell? ⟨gb277, 1, none⟩ = some (.int .i64 0) := cz1 BK277
        have hfs97 := fz BK277 1
        have hns97_0 := NB274_277.out
        have hns97_1 := NB275_277.out
        have hns97_2 := NB276_277.out
        have hms97_0 := NB277_274.out
        have hms97_1 := NB277_275.out
        have hms97_2 := NB277_276.out
        have hs98 : w92.cell? ⟨gb277, 2, none⟩ = some (.int .i64 0) := cz2 BK277
        have hfs98 := fz BK277 2
        have hns98_0 := NB274_277.out
        have hns98_1 := NB275_277.out
        have hns98_2 := NB276_277.out
        have hms98_0 := NB277_274.out
        have hms98_1 := NB277_275.out
        have hms98_2 := NB277_276.out
        refine skip_ (w1 := ?_) (by rfl) rfl ?_ ?_
        rotate_left
        ·
         go_simp
         rfl
        refine hK.out _ _ ⟨((cell_far (p := ⟨gb277, _, none⟩) NB274_277.out _).trans (((cell_far (p := ⟨gb277, _, none⟩) NB274_277.out _).trans (((cell_far (p := ⟨gb277, _, none⟩) NB274_277.out _).trans (hHeld.1)))))), ((cell_far (p := ⟨gb277, _, none⟩) NB274_277.out _).trans (((cell_far (p := ⟨gb277, _, none⟩) NB274_277.out _).trans (((cell_far (p := ⟨gb277, _, none⟩) NB274_277.out _).trans (hHeld.2.1)))))), ((cell_far (p := ⟨gb277, _, none⟩) NB274_277.out _).trans (((cell_far (p := ⟨gb277, _, none⟩) NB274_277.out _).trans (((cell_far (p := ⟨gb277, _, none⟩) NB274_277.out _).trans (hHeld.2.2.1)))))), ((cell_far (p := ⟨gb277, _, none⟩) NB275_277.out _).trans (((cell_far (p := ⟨gb277, _, none⟩) NB275_277.out _).trans (((cell_far (p := ⟨gb277, _, none⟩) NB275_277.out _).trans (hHeld.2.2.2.1)))))), ((cell_far (p := ⟨gb277, _, none⟩) NB275_277.out _).trans (((cell_far (p := ⟨gb277, _, none⟩) NB275_277.out _).trans (((cell_far (p := ⟨gb277, _, none⟩) NB275_277.out _).trans (hHeld.2.2.2.2.1)))))), ((cell_far (p := ⟨gb277, _, none⟩) NB275_277.out _).trans (((cell_far (p := ⟨gb277, _, none⟩) NB275_277.out _).trans (((cell_far (p := ⟨gb277, _, none⟩) NB275_277.out _).trans (hHeld.2.2.2.2.2))))))⟩ (fun hHeld => ?_)
        clear hK K
        refine done_ (by kernel_rfl) ?_
        try go_wp2
        refine bodyPost_ret (results_cc rfl _ _ gb276 gb277 23 23 #[.bool a1_0, .int .i64 a1_1, .int .i64 a1_2] #[.bool a2_0, .int .i64 a2_1, .int .i64 a2_2] (0, 0) (0, 0) _ _ rfl (by (with_reducible repeat (first | refine b1 ?_ _ | refine b2 ?_ | refine b3 ?_ _)); refine blk_far ?_ NB276_277.out _; (with_reducible repeat (first | refine b1 ?_ _ | refine b2 ?_ | refine b3 ?_ _)); refine blk_far ?_ NB276_277.out _; (with_reducible repeat (first | refine b1 ?_ _ | refine b2 ?_ | refine b3 ?_ _)); refine blk_far ?_ NB276_277.out _; (with_reducible repeat (first | refine b1 ?_ _ | refine b2 ?_ | refine b3 ?_ _)); refine blk_put (cs := #[.bool a1_0, .int .i64 a1_1, .int .i64 0]) ?_ 2 _ rfl; (with_reducible repeat (first | refine b1 ?_ _ | refine b2 ?_ | refine b3 ?_ _)); refine blk_put (cs := #[.bool a1_0, .int .i64 0, .int .i64 0]) ?_ 1 _ rfl; (with_reducible repeat (first | refine b1 ?_ _ | refine b2 ?_ | refine b3 ?_ _)); refine blk_put (cs := #[.bool false, .int .i64 0, .int .i64 0]) ?_ 0 _ rfl; (with_reducible repeat (first | refine b1 ?_ _ | refine b2 ?_ | refine b3 ?_ _)); exact BK276.out) Tryd.underlying23 rfl (by kernel_rfl) rfl (by (with_reducible repeat (first | refine b1 ?_ _ | refine b2 ?_ | refine b3 ?_ _)); refine blk_put (cs := #[.bool a2_0, .int .i64 a2_1, .int .i64 0]) ?_ 2 _ rfl; (with_reducible repeat (first | refine b1 ?_ _ | refine b2 ?_ | refine b3 ?_ _)); refine blk_put (cs := #[.bool a2_0, .int .i64 0, .int .i64 0]) ?_ 1 _ rfl; (with_reducible repeat (first | refine b1 ?_ _ | refine b2 ?_ | refine b3 ?_ _)); refine blk_put (cs := #[.bool false, .int .i64 0, .int .i64 0]) ?_ 0 _ rfl; (with_reducible repeat (first | refine b1 ?_ _ | refine b2 ?_ | refine b3 ?_ _)); refine blk_far ?_ NB277_276.out _; (with_reducible repeat (first | refine b1 ?_ _ | refine b2 ?_ | refine b3 ?_ _)); refine blk_far ?_ NB277_276.out _; (with_reducible repeat (first | refine b1 ?_ _ | refine b2 ?_ | refine b3 ?_ _)); refine blk_far ?_ NB277_276.out _; (with_reducible repeat (first | refine b1 ?_ _ | refine b2 ?_ | refine b3 ?_ _)); exact BK277.out) Tryd.underlying23 rfl (by kernel_rfl)) rfl ?_
        exact ⟨eS, bS HB⟩

def itv_None.f (a0_0 : Int) (a0_1 : Int) : Option (Bool) := some (decide (a0_0 > a0_1))
set_option maxHeartbeats 8000000 in
set_option maxRecDepth 100000 in
theorem itv_None.calls (a0_0 : Int) (a0_1 : Int) (r : Bool) (w : World) (h : itv_None.f a0_0 a0_1 = some r) :
  Calls Tryd.prog 72 #[.agg #[.int .i64 a0_0, .int .i64 a0_1]] w fun e w' => e = .returned (.bool r) ∧ Below w.heap.size w w' := by
 have hu38 := Tryd.underlying38
 have HB := Aside0.mk (Below.refl w.heap.size w)
 have H : (some (decide (a0_0 > a0_1))) = some r := h
 clear h
 obtain rfl := Option.some.inj H
 go_enter Tryd.func72, Tryd.ntmps72
 go_wp2_with (first | ((with_reducible refine gate_dst (N := 1) rfl ?_); refine box_event ?hg (N := 1) ?hd (cs := #[.int .i64 a0_0, .int .i64 a0_1]) (t := 38) ?hr ?_; (case hd => rfl); (case hg => rfl); (case hr => first | (go_simp; done) | (go_simp; rfl)); intro gb289 hg w2 hbox hb; have n0_ := kW HB hb; have n1_ := Aside0.mk (hbox); have n2_ := Aside0.mk ((by rw [hg]; exact (below_size (bS HB)) : w.heap.size ≤ gb289)); have n3_ := Aside0.mk ((by rw [hg]; exact (below_size (bS HB)) : w.heap.size ≤ gb289)); clear HB; have HB := n0_; have BK289 := n1_; have GW289 := n2_; have GE289 := n3_; clear n0_ n1_ n2_ n3_; clear hb hbox hg; have hcz3_0 := cz0 BK289; have hcz3_1 := cz1 BK289; have hfz3_0 := fz BK289 0; have hfz3_1 := fz BK289 1))
 go_ret
 exact ⟨eS, bS HB⟩

def itv_Empty.f  : Option (Int × Int) := some (1, 0)
set_option maxHeartbeats 8000000 in
set_option maxRecDepth 100000 in
theorem itv_Empty.calls  (r1 : Int) (r2 : Int) (w : World) (h : itv_Empty.f  = some (r1, r2)) :
  Calls Tryd.prog 73 #[] w fun e w' => e = .returned (.agg #[.int .i64 r1, .int .i64 r2]) ∧ Below w.heap.size w w' := by
 have hu38 := Tryd.underlying38
 have HB := Aside0.mk (Below.refl w.heap.size w)
 have H : (some (1, 0)) = some (r1, r2) := h
 clear h
 simp only [Option.some.injEq, Prod.mk.injEq] at H
 obtain ⟨rfl, rfl⟩ := H
 go_enter Tryd.func73, Tryd.ntmps73
 go_wp2_with (first | ((with_reducible refine gate_dst (N := 0) rfl ?_); refine box_event ?hg (N := 0) ?hd (cs := #[.int .i64 0, .int .i64 0]) (t := 38) ?hr ?_; (case hd => rfl); (case hg => rfl); (case hr => first | (go_simp; done) | (go_simp; rfl)); intro gb290 hg w1 hbox hb; have n0_ := kW HB hb; have n1_ := Aside0.mk (hbox); have n2_ := Aside0.mk ((by rw [hg]; exact (below_size (bS HB)) : w.heap.size ≤ gb290)); have n3_ := Aside0.mk ((by rw [hg]; exact (below_size (bS HB)) : w.heap.size ≤ gb290)); clear HB; have HB := n0_; have BK290 := n1_; have GW290 := n2_; have GE290 := n3_; clear n0_ n1_ n2_ n3_; clear hb hbox hg; have hcz2_0 := cz0 BK290; have hcz2_1 := cz1 BK290; have hfz2_0 := fz BK290 0; have hfz2_1 := fz BK290 1))
 refine bodyPost_ret (results_cell_row rfl _ _ gb290 38 #[.int .i64 1, .int .i64 0] (0, 0) _ rfl (by (with_reducible repeat (first | refine b1 ?_ _ | refine b2 ?_ | refine b3 ?_ _)); refine blk_put (cs := #[.int .i64 1, .int .i64 0]) ?_ 1 _ rfl; (with_reducible repeat (first | refine b1 ?_ _ | refine b2 ?_ | refine b3 ?_ _)); refine blk_put (cs := #[.int .i64 0, .int .i64 0]) ?_ 0 _ rfl; (with_reducible repeat (first | refine b1 ?_ _ | refine b2 ?_ | refine b3 ?_ _)); exact BK290.out) Tryd.underlying38 rfl (by kernel_rfl)) rfl ?_
 exact ⟨eS, bS HB⟩

def itv_sound.f (a0_0 : Int) (a0_1 : Int) : Option (Int × Int) := (itv_Of.f a0_0 a0_1).bind fun bt293 => (some (bt293.1, bt293.2))
set_option maxHeartbeats 8000000 in
set_option maxRecDepth 100000 in
theorem itv_sound.calls (a0_0 : Int) (a0_1 : Int) (r1 : Int) (r2 : Int) (w : World) (h : itv_sound.f a0_0 a0_1 = some (r1, r2)) :
  Calls Tryd.prog 95 #[.agg #[.int .i64 a0_0, .int .i64 a0_1]] w fun e w' => e = .returned (.agg #[.int .i64 r1, .int .i64 r2]) ∧ Below w.heap.size w w' := by
 have hu38 := Tryd.underlying38
 have HB := Aside0.mk (Below.refl w.heap.size w)
 have H : ((itv_Of.f a0_0 a0_1).bind fun bt293 => (some (bt293.1, bt293.2))) = some (r1, r2) := h
 clear h
 replace H := Option.bind_eq_some_iff.mp H
 obtain ⟨⟨t293, t294⟩, A20, H⟩ := H
 replace H : (some (t293, t294)) = some (r1, r2) := H
 have A2 := Aside0.mk A20
 clear A20
 simp only [Option.some.injEq, Prod.mk.injEq] at H
 obtain ⟨rfl, rfl⟩ := H
 go_enter Tryd.func95, Tryd.ntmps95
 go_wp2_with (first | ((with_reducible refine gate_dst (N := 1) rfl ?_); refine box_event ?hg (N := 1) ?hd (cs := #[.int .i64 a0_0, .int .i64 a0_1]) (t := 38) ?hr ?_; (case hd => rfl); (case hg => rfl); (case hr => first | (go_simp; done) | (go_simp; rfl)); intro gb291 hg w3 hbox hb; have n0_ := kW HB hb; have n1_ := Aside0.mk (hbox); have n2_ := Aside0.mk ((by rw [hg]; exact (below_size (bS HB)) : w.heap.size ≤ gb291)); have n3_ := Aside0.mk ((by rw [hg]; exact (below_size (bS HB)) : w.heap.size ≤ gb291)); clear HB; have HB := n0_; have BK291 := n1_; have GW291 := n2_; have GE291 := n3_; clear n0_ n1_ n2_ n3_; clear hb hbox hg) | ((with_reducible refine gate_dst (N := 2) rfl ?_); refine box_event ?hg (N := 2) ?hd (cs := #[.int .i64 0, .int .i64 0]) (t := 38) ?hr ?_; (case hd => rfl); (case hg => rfl); (case hr => first | (go_simp; done) | (go_simp; rfl)); intro gb292 hg w4 hbox hb; have n0_ := kB BK291 hb; have n1_ := kW HB hb; have n2_ := Aside0.mk (hbox); have n3_ := Aside0.mk ((by rw [hg]; exact (below_size (bS HB)) : w.heap.size ≤ gb292)); have n4_ := Aside0.mk ((by rw [hg]; exact (below_size (bS HB)) : w.heap.size ≤ gb292)); have n5_ := Aside0.mk ((by rw [hg]; exact Nat.ne_of_lt (blk_lt (bkS BK291)) : gb291 ≠ gb292)); have n6_ := Aside0.mk ((by rw [hg]; exact Nat.ne_of_gt (blk_lt (bkS BK291)) : gb292 ≠ gb291)); clear BK291; clear HB; have BK291 := n0_; have HB := n1_; have BK292 := n2_; have GW292 := n3_; have GE292 := n4_; have NB291_292 := n5_; have NB292_291 := n6_; clear n0_ n1_ n2_ n3_ n4_ n5_ n6_; clear hb hbox hg; have hnb5 := NB291_292.out; have hnc5 := NB292_291.out; have hcz6_0 := cz0 BK291; have hcz6_1 := cz1 BK291; have hfz6_0 := fz BK291 0; have hfz6_1 := fz BK291 1) | ((with_reducible refine gate_callee (f := 75) rfl ?_); refine goesL_ (some 7) rfl rfl Tryd.func75 (by kernel_rfl) rfl #[.int .i64 a0_0, .int .i64 a0_1] rfl mS ?_; (with_reducible refine (itv_Of.calls a0_0 a0_1 t293 t294 _ A2.out).mono ?_); rintro e w7 ⟨rfl, hb⟩; refine ⟨_, rfl, ?_⟩; replace BK291 := kB BK291 hb; replace BK292 := kB BK292 hb; replace HB := kW HB hb; (try clear hb); (try clear hb2); (try clear hk); (try clear hi); have hcz8_0 := cz0 BK292; have hcz8_1 := cz1 BK292; have hfz8_0 := fz BK292 0; have hfz8_1 := fz BK292 1))
 refine bodyPost_ret (results_cell_row rfl _ _ gb292 38 #[.int .i64 t293, .int .i64 t294] (0, 0) _ rfl (by (with_reducible repeat (first | refine b1 ?_ _ | refine b2 ?_ | refine b3 ?_ _)); refine blk_put (cs := #[.int .i64 t293, .int .i64 0]) ?_ 1 _ rfl; (with_reducible repeat (first | refine b1 ?_ _ | refine b2 ?_ | refine b3 ?_ _)); refine blk_put (cs := #[.int .i64 0, .int .i64 0]) ?_ 0 _ rfl; (with_reducible repeat (first | refine b1 ?_ _ | refine b2 ?_ | refine b3 ?_ _)); exact BK292.out) Tryd.underlying38 rfl (by kernel_rfl)) rfl ?_
 exact ⟨eS, bS HB⟩

def itv_Meet.j0 : Nat → Bool → Int → Int → Int → Int → Option (Int × Int)
 | 0, _, _, _, _, _ => none
 | k + 1, x14, x296000, x296001, x297000, x297001 => if x14 = true then ((itv_Empty.f).bind fun bt304 => (some (bt304.1, bt304.2))) else ((itv_Of.f (mx x296000 x297000) (mn x296001 x297001)).bind fun bt306 => (some (bt306.1, bt306.2)))
def itv_Meet.f (k : Nat) (a0_0 : Int) (a0_1 : Int) (a1_0 : Int) (a1_1 : Int) : Option (Int × Int) := (itv_sound.f a0_0 a0_1).bind fun bt298 => ((itv_sound.f a1_0 a1_1).bind fun bt300 => ((itv_None.f bt298.1 bt298.2).bind fun t302 => (if t302 = true then (itv_Meet.j0 k true bt298.1 bt298.2 bt300.1 bt300.2) else ((itv_None.f bt300.1 bt300.2).bind fun t303 => (itv_Meet.j0 k t303 bt298.1 bt298.2 bt300.1 bt300.2)))))
set_option maxHeartbeats 8000000 in
set_option maxRecDepth 100000 in
theorem itv_Meet.calls (k : Nat) (a0_0 : Int) (a0_1 : Int) (a1_0 : Int) (a1_1 : Int) (r1 : Int) (r2 : Int) (w : World) (h : itv_Meet.f k a0_0 a0_1 a1_0 a1_1 = some (r1, r2)) :
  Calls Tryd.prog 70 #[.agg #[.int .i64 a0_0, .int .i64 a0_1], .agg #[.int .i64 a1_0, .int .i64 a1_1]] w fun e w' => e = .returned (.agg #[.int .i64 r1, .int .i64 r2]) ∧ Below w.heap.size w w' := by
 have hu38 := Tryd.underlying38
 have HB := Aside0.mk (Below.refl w.heap.size w)
 have H : ((itv_sound.f a0_0 a0_1).bind fun bt298 => ((itv_sound.f a1_0 a1_1).bind fun bt300 => ((itv_None.f bt298.1 bt298.2).bind fun t302 => (if t302 = true then (itv_Meet.j0 k true bt298.1 bt298.2 bt300.1 bt300.2) else ((itv_None.f bt300.1 bt300.2).bind fun t303 => (itv_Meet.j0 k t303 bt298.1 bt298.2 bt300.1 bt300.2)))))) = some (r1, r2) := h
 clear h
 replace H := Option.bind_eq_some_iff.mp H
 obtain ⟨⟨t298, t299⟩, A30, H⟩ := H
 replace H : ((itv_sound.f a1_0 a1_1).bind fun bt300 => ((itv_None.f t298 t299).bind fun t302 => (if t302 = true then (itv_Meet.j0 k true t298 t299 bt300.1 bt300.2) else ((itv_None.f bt300.1 bt300.2).bind fun t303 => (itv_Meet.j0 k t303 t298 t299 bt300.1 bt300.2))))) = some (r1, r2) := H
 have A3 := Aside0.mk A30
 clear A30
 replace H := Option.bind_eq_some_iff.mp H
 obtain ⟨⟨t300, t301⟩, A40, H⟩ := H
 replace H : ((itv_None.f t298 t299).bind fun t302 => (if t302 = true then (itv_Meet.j0 k true t298 t299 t300 t301) else ((itv_None.f t300 t301).bind fun t303 => (itv_Meet.j0 k t303 t298 t299 t300 t301)))) = some (r1, r2) := H
 have A4 := Aside0.mk A40
 clear A40
 have HC5 := Aside0.mk H
 clear H
 go_enter Tryd.func70, Tryd.ntmps70
 try go_wp2_with (first | ((with_reducible refine gate_dst (N := 2) rfl ?_); refine box_event ?hg (N := 2) ?hd (cs := #[.int .i64 a0_0, .int .i64 a0_1]) (t := 38) ?hr ?_; (case hd => rfl); (case hg => rfl); (case hr => first | (go_simp; done) | (go_simp; rfl)); intro gb295 hg w6 hbox hb; have n0_ := kW HB hb; have n1_ := Aside0.mk (hbox); have n2_ := Aside0.mk ((by rw [hg]; exact (below_size (bS HB)) : w.heap.size ≤ gb295)); have n3_ := Aside0.mk ((by rw [hg]; exact (below_size (bS HB)) : w.heap.size ≤ gb295)); clear HB; have HB := n0_; have BK295 := n1_; have GW295 := n2_; have GE295 := n3_; clear n0_ n1_ n2_ n3_; clear hb hbox hg) | ((with_reducible refine gate_dst (N := 3) rfl ?_); refine box_event ?hg (N := 3) ?hd (cs := #[.int .i64 a1_0, .int .i64 a1_1]) (t := 38) ?hr ?_; (case hd => rfl); (case hg => rfl); (case hr => first | (go_simp; done) | (go_simp; rfl)); intro gb296 hg w7 hbox hb; have n0_ := kB BK295 hb; have n1_ := kW HB hb; have n2_ := Aside0.mk (hbox); have n3_ := Aside0.mk ((by rw [hg]; exact (below_size (bS HB)) : w.heap.size ≤ gb296)); have n4_ := Aside0.mk ((by rw [hg]; exact (below_size (bS HB)) : w.heap.size ≤ gb296)); have n5_ := Aside0.mk ((by rw [hg]; exact Nat.ne_of_lt (blk_lt (bkS BK295)) : gb295 ≠ gb296)); have n6_ := Aside0.mk ((by rw [hg]; exact Nat.ne_of_gt (blk_lt (bkS BK295)) : gb296 ≠ gb295)); clear BK295; clear HB; have BK295 := n0_; have HB := n1_; have BK296 := n2_; have GW296 := n3_; have GE296 := n4_; have NB295_296 := n5_; have NB296_295 := n6_; clear n0_ n1_ n2_ n3_ n4_ n5_ n6_; clear hb hbox hg) | ((with_reducible refine gate_dst (N := 4) rfl ?_); refine box_event ?hg (N := 4) ?hd (cs := #[.int .i64 0, .int .i64 0]) (t := 38) ?hr ?_; (case hd => rfl); (case hg => rfl); (case hr => first | (go_simp; done) | (go_simp; rfl)); intro gb297 hg w8 hbox hb; have n0_ := kB BK295 hb; have n1_ := kB BK296 hb; have n2_ := kW HB hb; have n3_ := Aside0.mk (hbox); have n4_ := Aside0.mk ((by rw [hg]; exact (below_size (bS HB)) : w.heap.size ≤ gb297)); have n5_ := Aside0.mk ((by rw [hg]; exact (below_size (bS HB)) : w.heap.size ≤ gb297)); have n6_ := Aside0.mk ((by rw [hg]; exact Nat.ne_of_lt (blk_lt (bkS BK295)) : gb295 ≠ gb297)); have n7_ := Aside0.mk ((by rw [hg]; exact Nat.ne_of_gt (blk_lt (bkS BK295)) : gb297 ≠ gb295)); have n8_ := Aside0.mk ((by rw [hg]; exact Nat.ne_of_lt (blk_lt (bkS BK296)) : gb296 ≠ gb297)); have n9_ := Aside0.mk ((by rw [hg]; exact Nat.ne_of_gt (blk_lt (bkS BK296)) : gb297 ≠ gb296)); clear BK295; clear BK296; clear HB; have BK295 := n0_; have BK296 := n1_; have HB := n2_; have BK297 := n3_; have GW297 := n4_; have GE297 := n5_; have NB295_297 := n6_; have NB297_295 := n7_; have NB296_297 := n8_; have NB297_296 := n9_; clear n0_ n1_ n2_ n3_ n4_ n5_ n6_ n7_ n8_ n9_; clear hb hbox hg))
 replace BK295 := Aside0.mk (blk_drew BK295.out)
 replace BK296 := Aside0.mk (blk_drew BK296.out)
 replace BK297 := Aside0.mk (blk_drew BK297.out)
 replace HB := Aside0.mk (below_drew1 HB.out)
 refine start_ (n := 6) (S := fun w' => w'.cell? ⟨gb295, 0, none⟩ = some (.int .i64 a0_0) ∧ w'.cell? ⟨gb295, 1, none⟩ = some (.int .i64 a0_1) ∧ w'.cell? ⟨gb296, 0, none⟩ = some (.int .i64 a1_0) ∧ w'.cell? ⟨gb296, 1, none⟩ = some (.int .i64 a1_1)) (ds := [4, 5]) #[false, false, false, false, false, false] (by kernel_rfl) rfl rfl ⟨cz0 BK295, cz1 BK295, cz0 BK296, cz1 BK296⟩ (fun hHeld => ?_)
 generalize w8.drew = w9 at BK295 BK296 BK297 HB hHeld ⊢
 refine take_ (i := 0) (N := some 5) (v := ?_) (a' := ?_) #[true, false, false, false, false, false] rfl rfl (by kernel_rfl) (fun _ _ _ h => h) (Or.inl ⟨by rfl, ?_⟩) hHeld ?_ ?_
 rotate_left
 ·
  rintro w' ⟨s0, s1, s2, s3⟩
  go_simp
  with_reducible rfl
 rotate_left
 ·
  simp only [Act.put, lA, lB, lC, i64_w, i32_w]
  rfl
 refine take_ (i := 2) (N := some 7) (v := ?_) (a' := ?_) #[true, false, true, false, false, false] rfl rfl (by kernel_rfl) (fun _ _ _ h => h) (Or.inl ⟨by rfl, ?_⟩) hHeld ?_ ?_
 rotate_left
 ·
  rintro w' ⟨s0, s1, s2, s3⟩
  go_simp
  with_reducible rfl
 rotate_left
 ·
  simp only [Act.put, lA, lB, lC, i64_w, i32_w]
  rfl
 refine one_ (i := 1) (N := some 6) #[true, true, true, false, false, false] rfl rfl (by kernel_rfl) (by decide) (fun K hK => ?_)
 refine goes_ Tryd.func95 (by kernel_rfl) rfl #[.agg #[.int .i64 a0_0, .int .i64 a0_1]] (by rfl) rfl rfl mS ?_
 with_reducible refine (itv_sound.calls a0_0 a0_1 t298 t299 _ A3.out).mono ?_
 rintro e w10 ⟨rfl, hb⟩
 refine ⟨_, rfl, ?_⟩
 replace BK295 := kB BK295 hb
 replace BK296 := kB BK296 hb
 replace BK297 := kB BK297 hb
 replace HB := kW HB hb
 (try clear hb)
 (try clear hb2)
 (try clear hk)
 (try clear hi)
 refine hK.out _ _ ⟨cz0 BK295, cz1 BK295, cz0 BK296, cz1 BK296⟩ (fun hHeld => ?_)
 clear hK K
 refine norm_ (a' := ?_) ?_ ?_
 rotate_left
 ·
  show Act.put _ (some 6) _ = _
  simp only [Act.put, lA, lB, lC, i64_w, i32_w]
  rfl
 refine one_ (i := 3) (N := some 8) #[true, true, true, true, false, false] rfl rfl (by kernel_rfl) (by decide) (fun K hK => ?_)
 refine goes_ Tryd.func95 (by kernel_rfl) rfl #[.agg #[.int .i64 a1_0, .int .i64 a1_1]] (by rfl) rfl rfl mS ?_
 with_reducible refine (itv_sound.calls a1_0 a1_1 t300 t301 _ A4.out).mono ?_
 rintro e w11 ⟨rfl, hb⟩
 refine ⟨_, rfl, ?_⟩
 replace BK295 := kB BK295 hb
 replace BK296 := kB BK296 hb
 replace BK297 := kB BK297 hb
 replace HB := kW HB hb
 (try clear hb)
 (try clear hb2)
 (try clear hk)
 (try clear hi)
 refine hK.out _ _ ⟨cz0 BK295, cz1 BK295, cz0 BK296, cz1 BK296⟩ (fun hHeld => ?_)
 clear hK K
 refine norm_ (a' := ?_) ?_ ?_
 rotate_left
 ·
  show Act.put _ (some 8) _ = _
  simp only [Act.put, lA, lB, lC, i64_w, i32_w]
  rfl
 refine last_ (i := 4) (N := none) #[true, true, true, true, true, false] rfl rfl (by kernel_rfl) (by decide) (fun K hK => ?_)
 have hs12 : w11.cell? ⟨gb295, 0, none⟩ = some (.int .i64 a0_0) := cz0 BK295
 have hfs12 := fz BK295 0
 have hns12_1 := NB296_295.out
 have hns12_2 := NB297_295.out
 have hms12_1 := NB295_296.out
 have hms12_2 := NB295_297.out
 have hs13 : w11.cell? ⟨gb295, 1, none⟩ = some (.int .i64 a0_1) := cz1 BK295
 have hfs13 := fz BK295 1
 have hns13_1 := NB296_295.out
 have hns13_2 := NB297_295.out
 have hms13_1 := NB295_296.out
 have hms13_2 := NB295_297.out
 refine skip_ (w1 := ?_) (by rfl) rfl ?_ ?_
 rotate_left
 ·
  go_simp
  rfl
 refine hK.out _ _ ?_
 clear hK K
 refine last_ (i := 5) (N := none) #[true, true, true, true, true, true] rfl rfl (by kernel_rfl) (by decide) (fun K hK => ?_)
 have hs14 : w11.cell? ⟨gb296, 0, none⟩ = some (.int .i64 a1_0) := cz0 BK296
 have hfs14 := fz BK296 0
 have hns14_0 := NB295_296.out
 have hns14_2 := NB297_296.out
 have hms14_0 := NB296_295.out
 have hms14_2 := NB296_297.out
 have hs15 : w11.cell? ⟨gb296, 1, none⟩ = some (.int .i64 a1_1) := cz1 BK296
 have hfs15 := fz BK296 1
 have hns15_0 := NB295_296.out
 have hns15_2 := NB297_296.out
 have hms15_0 := NB296_295.out
 have hms15_2 := NB296_297.out
 refine skip_ (w1 := ?_) (by rfl) rfl ?_ ?_
 rotate_left
 ·
  go_simp
  rfl
 refine hK.out _ _ ?_
 clear hK K
 refine done_ (by kernel_rfl) ?_
 go_upto_region 2 with (fail)
 go_cut [14] (fun v14 wc => ∃ (kq : Nat) (x14_4 : Bool), v14 = .bool x14_4 ∧ Aside0 (itv_Meet.j0 kq x14_4 t298 t299 t300 t301 = some (r1, r2)) ∧ Aside0 (kq ≤ k) ∧ Aside0 (wc.heap[gb295]? = some (.cells #[.int .i64 t298, .int .i64 t299] 38 (0, 0))) ∧ Aside0 (wc.heap[gb296]? = some (.cells #[.int .i64 t300, .int .i64 t301] 38 (0, 0))) ∧ Aside0 (wc.heap[gb297]? = some (.cells #[.int .i64 0, .int .i64 0] 38 (0, 0))) ∧ Aside0 (Below w.heap.size w wc))
 case first =>
  have H := HC5.out
  clear HC5
  replace H := Option.bind_eq_some_iff.mp H
  obtain ⟨t302, A160, H⟩ := H
  replace H : (if t302 = true then (itv_Meet.j0 k true t298 t299 t300 t301) else ((itv_None.f t300 t301).bind fun t303 => (itv_Meet.j0 k t303 t298 t299 t300 t301))) = some (r1, r2) := H
  have A16 := Aside0.mk A160
  clear A160
  by_cases c17 : t302 = true
  ·
   subst c17
   have H1 : (itv_Meet.j0 k true t298 t299 t300 t301) = some (r1, r2) := by rw [if_pos rfl] at H; exact H
   clear H
   have H := H1
   clear H1
   have H' := Aside0.mk H
   clear H
   have hnb18 := NB295_296.out
   have hnc18 := NB296_295.out
   have hnb19 := NB295_297.out
   have hnc19 := NB297_295.out
   have hcz20_0 := cz0 BK295
   have hcz20_1 := cz1 BK295
   have hfz20_0 := fz BK295 0
   have hfz20_1 := fz BK295 1
   go_wp2_with (first | ((with_reducible refine gate_callee (f := 72) rfl ?_); refine goesL_ (some 10) rfl rfl Tryd.func72 (by kernel_rfl) rfl #[.agg #[.int .i64 t298, .int .i64 t299]] rfl mS ?_; (with_reducible refine (itv_None.calls t298 t299 true _ A16.out).mono ?_); rintro e w21 ⟨rfl, hb⟩; refine ⟨_, rfl, ?_⟩; have n0_ := Aside0.mk (blk_below (g := gb295) (o := .cells #[.int .i64 t298, .int .i64 t299] 38 (0, 0)) (by (with_reducible repeat (first | refine b1 ?_ _ | refine b2 ?_ | refine b3 ?_ _)); refine blk_far ?_ NB295_296.out _; (with_reducible repeat (first | refine b1 ?_ _ | refine b2 ?_ | refine b3 ?_ _)); refine blk_far ?_ NB295_296.out _; (with_reducible repeat (first | refine b1 ?_ _ | refine b2 ?_ | refine b3 ?_ _)); refine blk_put (cs := #[.int .i64 t298, .int .i64 a0_1]) ?_ 1 _ rfl; (with_reducible repeat (first | refine b1 ?_ _ | refine b2 ?_ | refine b3 ?_ _)); refine blk_put (cs := #[.int .i64 a0_0, .int .i64 a0_1]) ?_ 0 _ rfl; (with_reducible repeat (first | refine b1 ?_ _ | refine b2 ?_ | refine b3 ?_ _)); exact BK295.out) hb); have n1_ := Aside0.mk (blk_below (g := gb296) (o := .cells #[.int .i64 t300, .int .i64 t301] 38 (0, 0)) (by (with_reducible repeat (first | refine b1 ?_ _ | refine b2 ?_ | refine b3 ?_ _)); refine blk_put (cs := #[.int .i64 t300, .int .i64 a1_1]) ?_ 1 _ rfl; (with_reducible repeat (first | refine b1 ?_ _ | refine b2 ?_ | refine b3 ?_ _)); refine blk_put (cs := #[.int .i64 a1_0, .int .i64 a1_1]) ?_ 0 _ rfl; (with_reducible repeat (first | refine b1 ?_ _ | refine b2 ?_ | refine b3 ?_ _)); refine blk_far ?_ NB296_295.out _; (with_reducible repeat (first | refine b1 ?_ _ | refine b2 ?_ | refine b3 ?_ _)); refine blk_far ?_ NB296_295.out _; (with_reducible repeat (first | refine b1 ?_ _ | refine b2 ?_ | refine b3 ?_ _)); exact BK296.out) hb); have n2_ := kB BK297 hb; have n3_ := kW HB hb; clear BK295; clear BK296; clear BK297; clear HB; have BK295 := n0_; have BK296 := n1_; have BK297 := n2_; have HB := n3_; clear n0_ n1_ n2_ n3_; (try clear hb); (try clear hb2); (try clear hk); (try clear hi)))
   go_meet
   case rel => exact ⟨_, (true), (by first | rfl | (simp; done) | (simp [*]; done)), H', ⟨by first | omega | exact Nat.le_refl _⟩, ⟨bkS BK295⟩, ⟨bkS BK296⟩, ⟨bkS BK297⟩, ⟨bS HB⟩⟩
  ·
   replace c17 := Bool.eq_false_iff.mpr c17
   subst c17
   have H1 : ((itv_None.f t300 t301).bind fun t303 => (itv_Meet.j0 k t303 t298 t299 t300 t301)) = some (r1, r2) := by rw [if_neg (show ¬ (false = true) by decide)] at H; exact H
   clear H
   have H := H1
   clear H1
   replace H := Option.bind_eq_some_iff.mp H
   obtain ⟨t303, A220, H⟩ := H
   replace H : (itv_Meet.j0 k t303 t298 t299 t300 t301) = some (r1, r2) := H
   have A22 := Aside0.mk A220
   clear A220
   have H' := Aside0.mk H
   clear H
   have hnb23 := NB295_296.out
   have hnc23 := NB296_295.out
   have hnb24 := NB295_297.out
   have hnc24 := NB297_295.out
   have hcz25_0 := cz0 BK295
   have hcz25_1 := cz1 BK295
   have hfz25_0 := fz BK295 0
   have hfz25_1 := fz BK295 1
   go_wp2_with (first | ((with_reducible refine gate_callee (f := 72) rfl ?_); refine goesL_ (some 10) rfl rfl Tryd.func72 (by kernel_rfl) rfl #[.agg #[.int .i64 t298, .int .i64 t299]] rfl mS ?_; (with_reducible refine (itv_None.calls t298 t299 false _ A16.out).mono ?_); rintro e w26 ⟨rfl, hb⟩; refine ⟨_, rfl, ?_⟩; have n0_ := Aside0.mk (blk_below (g := gb295) (o := .cells #[.int .i64 t298, .int .i64 t299] 38 (0, 0)) (by (with_reducible repeat (first | refine b1 ?_ _ | refine b2 ?_ | refine b3 ?_ _)); refine blk_far ?_ NB295_296.out _; (with_reducible repeat (first | refine b1 ?_ _ | refine b2 ?_ | refine b3 ?_ _)); refine blk_far ?_ NB295_296.out _; (with_reducible repeat (first | refine b1 ?_ _ | refine b2 ?_ | refine b3 ?_ _)); refine blk_put (cs := #[.int .i64 t298, .int .i64 a0_1]) ?_ 1 _ rfl; (with_reducible repeat (first | refine b1 ?_ _ | refine b2 ?_ | refine b3 ?_ _)); refine blk_put (cs := #[.int .i64 a0_0, .int .i64 a0_1]) ?_ 0 _ rfl; (with_reducible repeat (first | refine b1 ?_ _ | refine b2 ?_ | refine b3 ?_ _)); exact BK295.out) hb); have n1_ := Aside0.mk (blk_below (g := gb296) (o := .cells #[.int .i64 t300, .int .i64 t301] 38 (0, 0)) (by (with_reducible repeat (first | refine b1 ?_ _ | refine b2 ?_ | refine b3 ?_ _)); refine blk_put (cs := #[.int .i64 t300, .int .i64 a1_1]) ?_ 1 _ rfl; (with_reducible repeat (first | refine b1 ?_ _ | refine b2 ?_ | refine b3 ?_ _)); refine blk_put (cs := #[.int .i64 a1_0, .int .i64 a1_1]) ?_ 0 _ rfl; (with_reducible repeat (first | refine b1 ?_ _ | refine b2 ?_ | refine b3 ?_ _)); refine blk_far ?_ NB296_295.out _; (with_reducible repeat (first | refine b1 ?_ _ | refine b2 ?_ | refine b3 ?_ _)); refine blk_far ?_ NB296_295.out _; (with_reducible repeat (first | refine b1 ?_ _ | refine b2 ?_ | refine b3 ?_ _)); exact BK296.out) hb); have n2_ := kB BK297 hb; have n3_ := kW HB hb; clear BK295; clear BK296; clear BK297; clear HB; have BK295 := n0_; have BK296 := n1_; have BK297 := n2_; have HB := n3_; clear n0_ n1_ n2_ n3_; (try clear hb); (try clear hb2); (try clear hk); (try clear hi); have hnb27 := NB296_297.out; have hnc27 := NB297_296.out; have hcz28_0 := cz0 BK296; have hcz28_1 := cz1 BK296; have hfz28_0 := fz BK296 0; have hfz28_1 := fz BK296 1) | (go_at_call 72; (with_reducible refine (itv_None.calls t300 t301 t303 _ A22.out).mono ?_); rintro e w29 ⟨rfl, hb⟩; replace BK295 := kB BK295 hb; replace BK296 := kB BK296 hb; replace BK297 := kB BK297 hb; replace HB := kW HB hb; (try clear hb); (try clear hb2); (try clear hk); (try clear hi)))
   go_meet
   case rel => exact ⟨_, (t303), (by first | rfl | (simp; done) | (simp [*]; done)), H', ⟨by first | omega | exact Nat.le_refl _⟩, ⟨bkS BK295⟩, ⟨bkS BK296⟩, ⟨bkS BK297⟩, ⟨bS HB⟩⟩
 case rest =>
  clear HC5
  try clear c1
  try clear c2
  try clear p2
  try clear c7
  try clear c9
  try clear c17
  try clear c18
  try clear c19
  try clear c23
  try clear c24
  try clear c27
  try clear hcz20_0
  try clear hcz20_1
  try clear hcz25_0
  try clear hcz25_1
  try clear hcz28_0
  try clear hcz28_1
  try clear hfz20_0
  try clear hfz20_1
  try clear hfz25_0
  try clear hfz25_1
  try clear hfz28_0
  try clear hfz28_1
  obtain ⟨kq, x14_4, rfl, HA, HJ4, BK295, BK296, BK297, HB⟩ := hcut
  cases kq with
  | zero => exact absurd HA.out (by simp [itv_Meet.j0])
  | succ kj4 =>
   have H := HA.out
   clear HA
   simp only [itv_Meet.j0] at H
   by_cases c30 : x14_4 = true
   ·
    subst c30
    have H1 : ((itv_Empty.f).bind fun bt304 => (some (bt304.1, bt304.2))) = some (r1, r2) := by rw [if_pos rfl] at H; exact H
    clear H
    have H := H1
    clear H1
    replace H := Option.bind_eq_some_iff.mp H
    obtain ⟨⟨t304, t305⟩, A310, H⟩ := H
    replace H : (some (t304, t305)) = some (r1, r2) := H
    have A31 := Aside0.mk A310
    clear A310
    simp only [Option.some.injEq, Prod.mk.injEq] at H
    obtain ⟨rfl, rfl⟩ := H
    go_wp2_with (first | ((with_reducible refine gate_callee (f := 73) rfl ?_); refine goesL_ (some 15) rfl rfl Tryd.func73 (by kernel_rfl) rfl #[] rfl mS ?_; (with_reducible refine (itv_Empty.calls  t304 t305 _ A31.out).mono ?_); rintro e w32 ⟨rfl, hb⟩; refine ⟨_, rfl, ?_⟩; replace BK295 := kB BK295 hb; replace BK296 := kB BK296 hb; replace BK297 := kB BK297 hb; replace HB := kW HB hb; (try clear hb); (try clear hb2); (try clear hk); (try clear hi); have hnb33 := NB297_295.out; have hnc33 := NB295_297.out; have hnb34 := NB297_296.out; have hnc34 := NB296_297.out; have hcz35_0 := cz0 BK297; have hcz35_1 := cz1 BK297; have hfz35_0 := fz BK297 0; have hfz35_1 := fz BK297 1))
    refine bodyPost_ret (results_cell_row rfl _ _ gb297 38 #[.int .i64 t304, .int .i64 t305] (0, 0) _ rfl (by (with_reducible repeat (first | refine b1 ?_ _ | refine b2 ?_ | refine b3 ?_ _)); refine blk_put (cs := #[.int .i64 t304, .int .i64 0]) ?_ 1 _ rfl; (with_reducible repeat (first | refine b1 ?_ _ | refine b2 ?_ | refine b3 ?_ _)); refine blk_put (cs := #[.int .i64 0, .int .i64 0]) ?_ 0 _ rfl; (with_reducible repeat (first | refine b1 ?_ _ | refine b2 ?_ | refine b3 ?_ _)); exact BK297.out) Tryd.underlying38 rfl (by kernel_rfl)) rfl ?_
    exact ⟨eS, bS HB⟩
   ·
    replace c30 := Bool.eq_false_iff.mpr c30
    subst c30
    have H1 : ((itv_Of.f (mx t298 t300) (mn t299 t301)).bind fun bt306 => (some (bt306.1, bt306.2))) = some (r1, r2) := by rw [if_neg (show ¬ (false = true) by decide)] at H; exact H
    clear H
    have H := H1
    clear H1
    obtain ⟨ji36, hji36⟩ : ∃ j_ : Int, (mx t298 t300) = j_ := ⟨_, rfl⟩
    replace H : ((itv_Of.f (ji36) (mn t299 t301)).bind fun bt306 => (some (bt306.1, bt306.2))) = some (r1, r2) := by first | (rw [hji36] at H; exact H) | (simp only [hji36] at H ⊢; exact H)
    have hji36_ : (if t298 < t300 then t300 else t298) = ji36 := hji36
    obtain ⟨ji37, hji37⟩ : ∃ j_ : Int, (mn t299 t301) = j_ := ⟨_, rfl⟩
    replace H : ((itv_Of.f (ji36) (ji37)).bind fun bt306 => (some (bt306.1, bt306.2))) = some (r1, r2) := by first | (rw [hji37] at H; exact H) | (simp only [hji37] at H ⊢; exact H)
    have hji37_ : (if t301 < t299 then t301 else t299) = ji37 := hji37
    replace H := Option.bind_eq_some_iff.mp H
    obtain ⟨⟨t306, t307⟩, A380, H⟩ := H
    replace H : (some (t306, t307)) = some (r1, r2) := H
    have A38 := Aside0.mk A380
    clear A380
    simp only [Option.some.injEq, Prod.mk.injEq] at H
    obtain ⟨rfl, rfl⟩ := H
    have hnb39 := NB295_296.out
    have hnc39 := NB296_295.out
    have hnb40 := NB295_297.out
    have hnc40 := NB297_295.out
    have hcz41_0 : wc.cell? ⟨gb295, 0, none⟩ = some (.int .i64 t298) := cz0 BK295
    have hcz41_1 : wc.cell? ⟨gb295, 1, none⟩ = some (.int .i64 t299) := cz1 BK295
    have hfz41_0 := fz BK295 0
    have hfz41_1 := fz BK295 1
    have hnb42 := NB296_297.out
    have hnc42 := NB297_296.out
    have hcz43_0 : wc.cell? ⟨gb296, 0, none⟩ = some (.int .i64 t300) := cz0 BK296
    have hcz43_1 : wc.cell? ⟨gb296, 1, none⟩ = some (.int .i64 t301) := cz1 BK296
    have hfz43_0 := fz BK296 0
    have hfz43_1 := fz BK296 1
    go_wp2_with (first | ((with_reducible refine gate_callee (f := 75) rfl ?_); refine goesL_ (some 26) rfl rfl Tryd.func75 (by kernel_rfl) rfl #[.int .i64 ji36, .int .i64 ji37] rfl (by (try simp only [List.map_toArray, List.map_cons, List.map_nil]); first | done | (simp only [hji36, hji37]; rfl) | rfl | (simp only [List.length_drop, List.length_take]; rfl)) ?_; (with_reducible refine (itv_Of.calls ji36 ji37 t306 t307 _ A38.out).mono ?_); rintro e w44 ⟨rfl, hb⟩; refine ⟨_, rfl, ?_⟩; replace BK295 := kB BK295 hb; replace BK296 := kB BK296 hb; replace BK297 := kB BK297 hb; replace HB := kW HB hb; (try clear hb); (try clear hb2); (try clear hk); (try clear hi); have hcz45_0 := cz0 BK297; have hcz45_1 := cz1 BK297; have hfz45_0 := fz BK297 0; have hfz45_1 := fz BK297 1))
    refine bodyPost_ret (results_cell_row rfl _ _ gb297 38 #[.int .i64 t306, .int .i64 t307] (0, 0) _ rfl (by (with_reducible repeat (first | refine b1 ?_ _ | refine b2 ?_ | refine b3 ?_ _)); refine blk_put (cs := #[.int .i64 t306, .int .i64 0]) ?_ 1 _ rfl; (with_reducible repeat (first | refine b1 ?_ _ | refine b2 ?_ | refine b3 ?_ _)); refine blk_put (cs := #[.int .i64 0, .int .i64 0]) ?_ 0 _ rfl; (with_reducible repeat (first | refine b1 ?_ _ | refine b2 ?_ | refine b3 ?_ _)); exact BK297.out) Tryd.underlying38 rfl (by kernel_rfl)) rfl ?_
    exact ⟨by first | rfl | (simp [errW_none, errW_some] <;> rfl) | (simp only [← hji36, ← hji37]; first | rfl | (simp [errW_none, errW_some] <;> rfl)) | (simp [*, errW_none, errW_some] <;> rfl), bS HB⟩

def itv_Type.f (a0 : Int) : Option (Int × Int) := if a0 = 1 then (if 0 ≤ (IntKind.u64.wrap (a0)) then (if 0 ≤ (IntKind.u64.wrap ((shl .u64 4 (IntKind.u64.wrap (a0))) - 1)) then (some (wrap64 (-(shl .i64 1 (IntKind.u64.wrap ((shl .u64 4 (IntKind.u64.wrap (a0))) - 1)))), wrap64 ((shl .i64 1 (IntKind.u64.wrap ((shl .u64 4 (IntKind.u64.wrap (a0))) - 1))) - 1))) else (none)) else (none)) else (if a0 = 2 then (if 0 ≤ (IntKind.u64.wrap (a0)) then (if 0 ≤ (IntKind.u64.wrap ((shl .u64 4 (IntKind.u64.wrap (a0))) - 1)) then (some (wrap64 (-(shl .i64 1 (IntKind.u64.wrap ((shl .u64 4 (IntKind.u64.wrap (a0))) - 1)))), wrap64 ((shl .i64 1 (IntKind.u64.wrap ((shl .u64 4 (IntKind.u64.wrap (a0))) - 1))) - 1))) else (none)) else (none)) else (if a0 = 3 then (if 0 ≤ (IntKind.u64.wrap (a0)) then (if 0 ≤ (IntKind.u64.wrap ((shl .u64 4 (IntKind.u64.wrap (a0))) - 1)) then (some (wrap64 (-(shl .i64 1 (IntKind.u64.wrap ((shl .u64 4 (IntKind.u64.wrap (a0))) - 1)))), wrap64 ((shl .i64 1 (IntKind.u64.wrap ((shl .u64 4 (IntKind.u64.wrap (a0))) - 1))) - 1))) else (none)) else (none)) else ((itv_Empty.f).bind fun bt309 => (some (bt309.1, bt309.2)))))
set_option maxHeartbeats 8000000 in
set_option maxRecDepth 100000 in
theorem itv_Type.calls (a0 : Int) (r1 : Int) (r2 : Int) (w : World) (h : itv_Type.f a0 = some (r1, r2)) :
  Calls Tryd.prog 71 #[.int .i64 a0] w fun e w' => e = .returned (.agg #[.int .i64 r1, .int .i64 r2]) ∧ Below w.heap.size w w' := by
 have hu38 := Tryd.underlying38
 have HB := Aside0.mk (Below.refl w.heap.size w)
 have H : (if a0 = 1 then (if 0 ≤ (IntKind.u64.wrap (a0)) then (if 0 ≤ (IntKind.u64.wrap ((shl .u64 4 (IntKind.u64.wrap (a0))) - 1)) then (some (wrap64 (-(shl .i64 1 (IntKind.u64.wrap ((shl .u64 4 (IntKind.u64.wrap (a0))) - 1)))), wrap64 ((shl .i64 1 (IntKind.u64.wrap ((shl .u64 4 (IntKind.u64.wrap (a0))) - 1))) - 1))) else (none)) else (none)) else (if a0 = 2 then (if 0 ≤ (IntKind.u64.wrap (a0)) then (if 0 ≤ (IntKind.u64.wrap ((shl .u64 4 (IntKind.u64.wrap (a0))) - 1)) then (some (wrap64 (-(shl .i64 1 (IntKind.u64.wrap ((shl .u64 4 (IntKind.u64.wrap (a0))) - 1)))), wrap64 ((shl .i64 1 (IntKind.u64.wrap ((shl .u64 4 (IntKind.u64.wrap (a0))) - 1))) - 1))) else (none)) else (none)) else (if a0 = 3 then (if 0 ≤ (IntKind.u64.wrap (a0)) then (if 0 ≤ (IntKind.u64.wrap ((shl .u64 4 (IntKind.u64.wrap (a0))) - 1)) then (some (wrap64 (-(shl .i64 1 (IntKind.u64.wrap ((shl .u64 4 (IntKind.u64.wrap (a0))) - 1)))), wrap64 ((shl .i64 1 (IntKind.u64.wrap ((shl .u64 4 (IntKind.u64.wrap (a0))) - 1))) - 1))) else (none)) else (none)) else ((itv_Empty.f).bind fun bt309 => (some (bt309.1, bt309.2)))))) = some (r1, r2) := h
 clear h
 by_cases c2 : a0 = 1
 ·
  rw [if_pos c2] at H
  have c2b0 : (a0 == 1) = true := beq_iff_eq.mpr c2
  have c2b1 : (a0 != 1) = false := bne_eq_false_iff_eq.mpr c2
  clear c2
  obtain ⟨ji3, hji3⟩ : ∃ j_ : Int, (IntKind.u64.wrap (a0)) = j_ := ⟨_, rfl⟩
  replace H : (if 0 ≤ (ji3) then (if 0 ≤ (IntKind.u64.wrap ((shl .u64 4 (ji3)) - 1)) then (some (wrap64 (-(shl .i64 1 (IntKind.u64.wrap ((shl .u64 4 (ji3)) - 1)))), wrap64 ((shl .i64 1 (IntKind.u64.wrap ((shl .u64 4 (ji3)) - 1))) - 1))) else (none)) else (none)) = some (r1, r2) := by first | (rw [hji3] at H; exact H) | (simp only [hji3] at H ⊢; exact H)
  by_cases c4 : 0 ≤ (ji3)
  ·
   rw [if_pos c4] at H
   have c4b0 := eq_true c4
   have c4b1 : decide (0 ≤ (ji3)) = true := decide_eq_true c4
   clear c4
   obtain ⟨ji5, hji5⟩ : ∃ j_ : Int, (shl .u64 4 (ji3)) = j_ := ⟨_, rfl⟩
   replace H : (if 0 ≤ (IntKind.u64.wrap ((ji5) - 1)) then (some (wrap64 (-(shl .i64 1 (IntKind.u64.wrap ((ji5) - 1)))), wrap64 ((shl .i64 1 (IntKind.u64.wrap ((ji5) - 1))) - 1))) else (none)) = some (r1, r2) := by first | (rw [hji5] at H; exact H) | (simp only [hji5] at H ⊢; exact H)
   have hji5_ : (IntKind.u64.wrap (4 * 2 ^ min (ji3).toNat 64)) = ji5 := hji5
   have hji5z : (ji3) ≤ 64 → (IntKind.u64.wrap (4 * 2 ^ (ji3).toNat)) = ji5 := shl_small hji5
   obtain ⟨ji6, hji6⟩ : ∃ j_ : Int, (IntKind.u64.wrap ((ji5) - 1)) = j_ := ⟨_, rfl⟩
   replace H : (if 0 ≤ (ji6) then (some (wrap64 (-(shl .i64 1 (ji6))), wrap64 ((shl .i64 1 (ji6)) - 1))) else (none)) = some (r1, r2) := by first | (rw [hji6] at H; exact H) | (simp only [hji6] at H ⊢; exact H)
   by_cases c7 : 0 ≤ (ji6)
   ·
    rw [if_pos c7] at H
    have c7b0 := eq_true c7
    have c7b1 : decide (0 ≤ (ji6)) = true := decide_eq_true c7
    clear c7
    obtain ⟨ji8, hji8⟩ : ∃ j_ : Int, (shl .i64 1 (ji6)) = j_ := ⟨_, rfl⟩
    replace H : (some (wrap64 (-(ji8)), wrap64 ((ji8) - 1))) = some (r1, r2) := by first | (rw [hji8] at H; exact H) | (simp only [hji8] at H ⊢; exact H)
    have hji8_ : (IntKind.i64.wrap (1 * 2 ^ min (ji6).toNat 64)) = ji8 := hji8
    have hji8z : (ji6) ≤ 64 → (IntKind.i64.wrap (1 * 2 ^ (ji6).toNat)) = ji8 := shl_small hji8
    have hji8u : (IntKind.i64.wrap (2 ^ min (ji6).toNat 64)) = ji8 := by have h_ := hji8_; rw [Int.one_mul] at h_; exact h_
    have hji8v : (ji6) ≤ 64 → (IntKind.i64.wrap (2 ^ (ji6).toNat)) = ji8 := fun hle_ => by have h_ := hji8z hle_; rw [Int.one_mul] at h_; exact h_
    have hji8y : (wrap64 (1 * 2 ^ min (ji6).toNat 64)) = ji8 := (i64_w _).symm.trans hji8_
    have hji8x : (ji6) ≤ 64 → (wrap64 (1 * 2 ^ (ji6).toNat)) = ji8 := fun h_ => (i64_w _).symm.trans (hji8z h_)
    simp only [Option.some.injEq, Prod.mk.injEq] at H
    obtain ⟨rfl, rfl⟩ := H
    go_enter Tryd.func71, Tryd.ntmps71
    go_wp2_with (first | ((with_reducible refine gate_dst (N := 2) rfl ?_); refine box_event ?hg (N := 2) ?hd (cs := #[.int .i64 0, .int .i64 0]) (t := 38) ?hr ?_; (case hd => rfl); (case hg => rfl); (case hr => first | (go_simp; done) | (go_simp; rfl)); intro gb308 hg w9 hbox hb; have n0_ := kW HB hb; have n1_ := Aside0.mk (hbox); have n2_ := Aside0.mk ((by rw [hg]; exact (below_size (bS HB)) : w.heap.size ≤ gb308)); have n3_ := Aside0.mk ((by rw [hg]; exact (below_size (bS HB)) : w.heap.size ≤ gb308)); clear HB; have HB := n0_; have BK308 := n1_; have GW308 := n2_; have GE308 := n3_; clear n0_ n1_ n2_ n3_; clear hb hbox hg; have hcz10_0 := cz0 BK308; have hcz10_1 := cz1 BK308; have hfz10_0 := fz BK308 0; have hfz10_1 := fz BK308 1))
    refine bodyPost_ret (results_cell_row rfl _ _ gb308 38 #[.int .i64 (wrap64 (-(ji8))), .int .i64 (wrap64 ((ji8) - 1))] (0, 0) _ rfl (by (with_reducible repeat (first | refine b1 ?_ _ | refine b2 ?_ | refine b3 ?_ _)); refine blk_put (cs := #[.int .i64 (wrap64 (-(ji8))), .int .i64 0]) ?_ 1 _ rfl; (with_reducible repeat (first | refine b1 ?_ _ | refine b2 ?_ | refine b3 ?_ _)); refine blk_put (cs := #[.int .i64 0, .int .i64 0]) ?_ 0 _ rfl; (with_reducible repeat (first | refine b1 ?_ _ | refine b2 ?_ | refine b3 ?_ _)); exact BK308.out) Tryd.underlying38 rfl (by kernel_rfl)) rfl ?_
    exact ⟨by first | rfl | (simp [errW_none, errW_some] <;> rfl) | (simp only [← hji3, ← hji5, ← hji6, ← hji8]; first | rfl | (simp [errW_none, errW_some] <;> rfl)) | (simp [*, errW_none, errW_some] <;> rfl), bS HB⟩
   ·
    rw [if_neg c7] at H
    exact absurd H (by simp)
  ·
   rw [if_neg c4] at H
   exact absurd H (by simp)
 ·
  rw [if_neg c2] at H
  have c2b0 : (a0 == 1) = false := beq_eq_false_iff_ne.mpr c2
  have c2b1 : (a0 != 1) = true := bne_iff_ne.mpr c2
  by_cases c11 : a0 = 2
  ·
   rw [if_pos c11] at H
   have c11b0 : (a0 == 2) = true := beq_iff_eq.mpr c11
   have c11b1 : (a0 != 2) = false := bne_eq_false_iff_eq.mpr c11
   clear c11
   obtain ⟨ji12, hji12⟩ : ∃ j_ : Int, (IntKind.u64.wrap (a0)) = j_ := ⟨_, rfl⟩
   replace H : (if 0 ≤ (ji12) then (if 0 ≤ (IntKind.u64.wrap ((shl .u64 4 (ji12)) - 1)) then (some (wrap64 (-(shl .i64 1 (IntKind.u64.wrap ((shl .u64 4 (ji12)) - 1)))), wrap64 ((shl .i64 1 (IntKind.u64.wrap ((shl .u64 4 (ji12)) - 1))) - 1))) else (none)) else (none)) = some (r1, r2) := by first | (rw [hji12] at H; exact H) | (simp only [hji12] at H ⊢; exact H)
   by_cases c13 : 0 ≤ (ji12)
   ·
    rw [if_pos c13] at H
    have c13b0 := eq_true c13
    have c13b1 : decide (0 ≤ (ji12)) = true := decide_eq_true c13
    clear c13
    obtain ⟨ji14, hji14⟩ : ∃ j_ : Int, (shl .u64 4 (ji12)) = j_ := ⟨_, rfl⟩
    replace H : (if 0 ≤ (IntKind.u64.wrap ((ji14) - 1)) then (some (wrap64 (-(shl .i64 1 (IntKind.u64.wrap ((ji14) - 1)))), wrap64 ((shl .i64 1 (IntKind.u64.wrap ((ji14) - 1))) - 1))) else (none)) = some (r1, r2) := by first | (rw [hji14] at H; exact H) | (simp only [hji14] at H ⊢; exact H)
    have hji14_ : (IntKind.u64.wrap (4 * 2 ^ min (ji12).toNat 64)) = ji14 := hji14
    have hji14z : (ji12) ≤ 64 → (IntKind.u64.wrap (4 * 2 ^ (ji12).toNat)) = ji14 := shl_small hji14
    obtain ⟨ji15, hji15⟩ : ∃ j_ : Int, (IntKind.u64.wrap ((ji14) - 1)) = j_ := ⟨_, rfl⟩
    replace H : (if 0 ≤ (ji15) then (some (wrap64 (-(shl .i64 1 (ji15))), wrap64 ((shl .i64 1 (ji15)) - 1))) else (none)) = some (r1, r2) := by first | (rw [hji15] at H; exact H) | (simp only [hji15] at H ⊢; exact H)
    by_cases c16 : 0 ≤ (ji15)
    ·
     rw [if_pos c16] at H
     have c16b0 := eq_true c16
     have c16b1 : decide (0 ≤ (ji15)) = true := decide_eq_true c16
     clear c16
     obtain ⟨ji17, hji17⟩ : ∃ j_ : Int, (shl .i64 1 (ji15)) = j_ := ⟨_, rfl⟩
     replace H : (some (wrap64 (-(ji17)), wrap64 ((ji17) - 1))) = some (r1, r2) := by first | (rw [hji17] at H; exact H) | (simp only [hji17] at H ⊢; exact H)
     have hji17_ : (IntKind.i64.wrap (1 * 2 ^ min (ji15).toNat 64)) = ji17 := hji17
     have hji17z : (ji15) ≤ 64 → (IntKind.i64.wrap (1 * 2 ^ (ji15).toNat)) = ji17 := shl_small hji17
     have hji17u : (IntKind.i64.wrap (2 ^ min (ji15).toNat 64)) = ji17 := by have h_ := hji17_; rw [Int.one_mul] at h_; exact h_
     have hji17v : (ji15) ≤ 64 → (IntKind.i64.wrap (2 ^ (ji15).toNat)) = ji17 := fun hle_ => by have h_ := hji17z hle_; rw [Int.one_mul] at h_; exact h_
     have hji17y : (wrap64 (1 * 2 ^ min (ji15).toNat 64)) = ji17 := (i64_w _).symm.trans hji17_
     have hji17x : (ji15) ≤ 64 → (wrap64 (1 * 2 ^ (ji15).toNat)) = ji17 := fun h_ => (i64_w _).symm.trans (hji17z h_)
     simp only [Option.some.injEq, Prod.mk.injEq] at H
     obtain ⟨rfl, rfl⟩ := H
     go_enter Tryd.func71, Tryd.ntmps71
     go_wp2_with (first | ((with_reducible refine gate_dst (N := 2) rfl ?_); refine box_event ?hg (N := 2) ?hd (cs := #[.int .i64 0, .int .i64 0]) (t := 38) ?hr ?_; (case hd => rfl); (case hg => rfl); (case hr => first | (go_simp; done) | (go_simp; rfl)); intro gb308 hg w18 hbox hb; have n0_ := kW HB hb; have n1_ := Aside0.mk (hbox); have n2_ := Aside0.mk ((by rw [hg]; exact (below_size (bS HB)) : w.heap.size ≤ gb308)); have n3_ := Aside0.mk ((by rw [hg]; exact (below_size (bS HB)) : w.heap.size ≤ gb308)); clear HB; have HB := n0_; have BK308 := n1_; have GW308 := n2_; have GE308 := n3_; clear n0_ n1_ n2_ n3_; clear hb hbox hg; have hcz19_0 := cz0 BK308; have hcz19_1 := cz1 BK308; have hfz19_0 := fz BK308 0; have hfz19_1 := fz BK308 1))
     refine bodyPost_ret (results_cell_row rfl _ _ gb308 38 #[.int .i64 (wrap64 (-(ji17))), .int .i64 (wrap64 ((ji17) - 1))] (0, 0) _ rfl (by (with_reducible repeat (first | refine b1 ?_ _ | refine b2 ?_ | refine b3 ?_ _)); refine blk_put (cs := #[.int .i64 (wrap64 (-(ji17))), .int .i64 0]) ?_ 1 _ rfl; (with_reducible repeat (first | refine b1 ?_ _ | refine b2 ?_ | refine b3 ?_ _)); refine blk_put (cs := #[.int .i64 0, .int .i64 0]) ?_ 0 _ rfl; (with_reducible repeat (first | refine b1 ?_ _ | refine b2 ?_ | refine b3 ?_ _)); exact BK308.out) Tryd.underlying38 rfl (by kernel_rfl)) rfl ?_
     exact ⟨by first | rfl | (simp [errW_none, errW_some] <;> rfl) | (simp only [← hji12, ← hji14, ← hji15, ← hji17]; first | rfl | (simp [errW_none, errW_some] <;> rfl)) | (simp [*, errW_none, errW_some] <;> rfl), bS HB⟩
    ·
     rw [if_neg c16] at H
     exact absurd H (by simp)
   ·
    rw [if_neg c13] at H
    exact absurd H (by simp)
  ·
   rw [if_neg c11] at H
   have c11b0 : (a0 == 2) = false := beq_eq_false_iff_ne.mpr c11
   have c11b1 : (a0 != 2) = true := bne_iff_ne.mpr c11
   by_cases c20 : a0 = 3
   ·
    rw [if_pos c20] at H
    have c20b0 : (a0 == 3) = true := beq_iff_eq.mpr c20
    have c20b1 : (a0 != 3) = false := bne_eq_false_iff_eq.mpr c20
    clear c20
    obtain ⟨ji21, hji21⟩ : ∃ j_ : Int, (IntKind.u64.wrap (a0)) = j_ := ⟨_, rfl⟩
    replace H : (if 0 ≤ (ji21) then (if 0 ≤ (IntKind.u64.wrap ((shl .u64 4 (ji21)) - 1)) then (some (wrap64 (-(shl .i64 1 (IntKind.u64.wrap ((shl .u64 4 (ji21)) - 1)))), wrap64 ((shl .i64 1 (IntKind.u64.wrap ((shl .u64 4 (ji21)) - 1))) - 1))) else (none)) else (none)) = some (r1, r2) := by first | (rw [hji21] at H; exact H) | (simp only [hji21] at H ⊢; exact H)
    by_cases c22 : 0 ≤ (ji21)
    ·
     rw [if_pos c22] at H
     have c22b0 := eq_true c22
     have c22b1 : decide (0 ≤ (ji21)) = true := decide_eq_true c22
     clear c22
     obtain ⟨ji23, hji23⟩ : ∃ j_ : Int, (shl .u64 4 (ji21)) = j_ := ⟨_, rfl⟩
     replace H : (if 0 ≤ (IntKind.u64.wrap ((ji23) - 1)) then (some (wrap64 (-(shl .i64 1 (IntKind.u64.wrap ((ji23) - 1)))), wrap64 ((shl .i64 1 (IntKind.u64.wrap ((ji23) - 1))) - 1))) else (none)) = some (r1, r2) := by first | (rw [hji23] at H; exact H) | (simp only [hji23] at H ⊢; exact H)
     have hji23_ : (IntKind.u64.wrap (4 * 2 ^ min (ji21).toNat 64)) = ji23 := hji23
     have hji23z : (ji21) ≤ 64 → (IntKind.u64.wrap (4 * 2 ^ (ji21).toNat)) = ji23 := shl_small hji23
     obtain ⟨ji24, hji24⟩ : ∃ j_ : Int, (IntKind.u64.wrap ((ji23) - 1)) = j_ := ⟨_, rfl⟩
     replace H : (if 0 ≤ (ji24) then (some (wrap64 (-(shl .i64 1 (ji24))), wrap64 ((shl .i64 1 (ji24)) - 1))) else (none)) = some (r1, r2) := by first | (rw [hji24] at H; exact H) | (simp only [hji24] at H ⊢; exact H)
     by_cases c25 : 0 ≤ (ji24)
     ·
      rw [if_pos c25] at H
      have c25b0 := eq_true c25
      have c25b1 : decide (0 ≤ (ji24)) = true := decide_eq_true c25
      clear c25
      obtain ⟨ji26, hji26⟩ : ∃ j_ : Int, (shl .i64 1 (ji24)) = j_ := ⟨_, rfl⟩
      replace H : (some (wrap64 (-(ji26)), wrap64 ((ji26) - 1))) = some (r1, r2) := by first | (rw [hji26] at H; exact H) | (simp only [hji26] at H ⊢; exact H)
      have hji26_ : (IntKind.i64.wrap (1 * 2 ^ min (ji24).toNat 64)) = ji26 := hji26
      have hji26z : (ji24) ≤ 64 → (IntKind.i64.wrap (1 * 2 ^ (ji24).toNat)) = ji26 := shl_small hji26
      have hji26u : (IntKind.i64.wrap (2 ^ min (ji24).toNat 64)) = ji26 := by have h_ := hji26_; rw [Int.one_mul] at h_; exact h_
      have hji26v : (ji24) ≤ 64 → (IntKind.i64.wrap (2 ^ (ji24).toNat)) = ji26 := fun hle_ => by have h_ := hji26z hle_; rw [Int.one_mul] at h_; exact h_
      have hji26y : (wrap64 (1 * 2 ^ min (ji24).toNat 64)) = ji26 := (i64_w _).symm.trans hji26_
      have hji26x : (ji24) ≤ 64 → (wrap64 (1 * 2 ^ (ji24).toNat)) = ji26 := fun h_ => (i64_w _).symm.trans (hji26z h_)
      simp only [Option.some.injEq, Prod.mk.injEq] at H
      obtain ⟨rfl, rfl⟩ := H
      go_enter Tryd.func71, Tryd.ntmps71
      go_wp2_with (first | ((with_reducible refine gate_dst (N := 2) rfl ?_); refine box_event ?hg (N := 2) ?hd (cs := #[.int .i64 0, .int .i64 0]) (t := 38) ?hr ?_; (case hd => rfl); (case hg => rfl); (case hr => first | (go_simp; done) | (go_simp; rfl)); intro gb308 hg w27 hbox hb; have n0_ := kW HB hb; have n1_ := Aside0.mk (hbox); have n2_ := Aside0.mk ((by rw [hg]; exact (below_size (bS HB)) : w.heap.size ≤ gb308)); have n3_ := Aside0.mk ((by rw [hg]; exact (below_size (bS HB)) : w.heap.size ≤ gb308)); clear HB; have HB := n0_; have BK308 := n1_; have GW308 := n2_; have GE308 := n3_; clear n0_ n1_ n2_ n3_; clear hb hbox hg; have hcz28_0 := cz0 BK308; have hcz28_1 := cz1 BK308; have hfz28_0 := fz BK308 0; have hfz28_1 := fz BK308 1))
      refine bodyPost_ret (results_cell_row rfl _ _ gb308 38 #[.int .i64 (wrap64 (-(ji26))), .int .i64 (wrap64 ((ji26) - 1))] (0, 0) _ rfl (by (with_reducible repeat (first | refine b1 ?_ _ | refine b2 ?_ | refine b3 ?_ _)); refine blk_put (cs := #[.int .i64 (wrap64 (-(ji26))), .int .i64 0]) ?_ 1 _ rfl; (with_reducible repeat (first | refine b1 ?_ _ | refine b2 ?_ | refine b3 ?_ _)); refine blk_put (cs := #[.int .i64 0, .int .i64 0]) ?_ 0 _ rfl; (with_reducible repeat (first | refine b1 ?_ _ | refine b2 ?_ | refine b3 ?_ _)); exact BK308.out) Tryd.underlying38 rfl (by kernel_rfl)) rfl ?_
      exact ⟨by first | rfl | (simp [errW_none, errW_some] <;> rfl) | (simp only [← hji21, ← hji23, ← hji24, ← hji26]; first | rfl | (simp [errW_none, errW_some] <;> rfl)) | (simp [*, errW_none, errW_some] <;> rfl), bS HB⟩
     ·
      rw [if_neg c25] at H
      exact absurd H (by simp)
    ·
     rw [if_neg c22] at H
     exact absurd H (by simp)
   ·
    rw [if_neg c20] at H
    have c20b0 : (a0 == 3) = false := beq_eq_false_iff_ne.mpr c20
    have c20b1 : (a0 != 3) = true := bne_iff_ne.mpr c20
    replace H := Option.bind_eq_some_iff.mp H
    obtain ⟨⟨t309, t310⟩, A290, H⟩ := H
    replace H : (some (t309, t310)) = some (r1, r2) := H
    have A29 := Aside0.mk A290
    clear A290
    simp only [Option.some.injEq, Prod.mk.injEq] at H
    obtain ⟨rfl, rfl⟩ := H
    go_enter Tryd.func71, Tryd.ntmps71
    go_wp2_with (first | ((with_reducible refine gate_dst (N := 2) rfl ?_); refine box_event ?hg (N := 2) ?hd (cs := #[.int .i64 0, .int .i64 0]) (t := 38) ?hr ?_; (case hd => rfl); (case hg => rfl); (case hr => first | (go_simp; done) | (go_simp; rfl)); intro gb308 hg w30 hbox hb; have n0_ := kW HB hb; have n1_ := Aside0.mk (hbox); have n2_ := Aside0.mk ((by rw [hg]; exact (below_size (bS HB)) : w.heap.size ≤ gb308)); have n3_ := Aside0.mk ((by rw [hg]; exact (below_size (bS HB)) : w.heap.size ≤ gb308)); clear HB; have HB := n0_; have BK308 := n1_; have GW308 := n2_; have GE308 := n3_; clear n0_ n1_ n2_ n3_; clear hb hbox hg) | ((with_reducible refine gate_callee (f := 73) rfl ?_); refine goesL_ (some 19) rfl rfl Tryd.func73 (by kernel_rfl) rfl #[] rfl mS ?_; (with_reducible refine (itv_Empty.calls  t309 t310 _ A29.out).mono ?_); rintro e w31 ⟨rfl, hb⟩; refine ⟨_, rfl, ?_⟩; replace BK308 := kB BK308 hb; replace HB := kW HB hb; (try clear hb); (try clear hb2); (try clear hk); (try clear hi); have hcz32_0 := cz0 BK308; have hcz32_1 := cz1 BK308; have hfz32_0 := fz BK308 0; have hfz32_1 := fz BK308 1))
    refine bodyPost_ret (results_cell_row rfl _ _ gb308 38 #[.int .i64 t309, .int .i64 t310] (0, 0) _ rfl (by (with_reducible repeat (first | refine b1 ?_ _ | refine b2 ?_ | refine b3 ?_ _)); refine blk_put (cs := #[.int .i64 t309, .int .i64 0]) ?_ 1 _ rfl; (with_reducible repeat (first | refine b1 ?_ _ | refine b2 ?_ | refine b3 ?_ _)); refine blk_put (cs := #[.int .i64 0, .int .i64 0]) ?_ 0 _ rfl; (with_reducible repeat (first | refine b1 ?_ _ | refine b2 ?_ | refine b3 ?_ _)); exact BK308.out) Tryd.underlying38 rfl (by kernel_rfl)) rfl ?_
    exact ⟨eS, bS HB⟩

def itv_Has.f (a0_0 : Int) (a0_1 : Int) (a1 : Int) : Option (Bool) := (itv_sound.f a0_0 a0_1).bind fun bt312 => ((itv_None.f bt312.1 bt312.2).bind fun t314 => (if t314 = true then (some false) else (if bt312.1 = (-4611686018427387904) then (if bt312.2 = 4611686018427387904 then (some true) else (some (decide (a1 ≤ bt312.2)))) else (if bt312.1 ≤ a1 then (if bt312.2 = 4611686018427387904 then (some true) else (some (decide (a1 ≤ bt312.2)))) else (some false)))))
set_option maxHeartbeats 8000000 in
set_option maxRecDepth 100000 in
theorem itv_Has.calls (a0_0 : Int) (a0_1 : Int) (a1 : Int) (r : Bool) (w : World) (h : itv_Has.f a0_0 a0_1 a1 = some r) :
  Calls Tryd.prog 74 #[.agg #[.int .i64 a0_0, .int .i64 a0_1], .int .i64 a1] w fun e w' => e = .returned (.bool r) ∧ Below w.heap.size w w' := by
 have hu38 := Tryd.underlying38
 have HB := Aside0.mk (Below.refl w.heap.size w)
 have H : ((itv_sound.f a0_0 a0_1).bind fun bt312 => ((itv_None.f bt312.1 bt312.2).bind fun t314 => (if t314 = true then (some false) else (if bt312.1 = (-4611686018427387904) then (if bt312.2 = 4611686018427387904 then (some true) else (some (decide (a1 ≤ bt312.2)))) else (if bt312.1 ≤ a1 then (if bt312.2 = 4611686018427387904 then (some true) else (some (decide (a1 ≤ bt312.2)))) else (some false)))))) = some r := h
 clear h
 replace H := Option.bind_eq_some_iff.mp H
 obtain ⟨⟨t312, t313⟩, A30, H⟩ := H
 replace H : ((itv_None.f t312 t313).bind fun t314 => (if t314 = true then (some false) else (if t312 = (-4611686018427387904) then (if t313 = 4611686018427387904 then (some true) else (some (decide (a1 ≤ t313)))) else (if t312 ≤ a1 then (if t313 = 4611686018427387904 then (some true) else (some (decide (a1 ≤ t313)))) else (some false))))) = some r := H
 have A3 := Aside0.mk A30
 clear A30
 replace H := Option.bind_eq_some_iff.mp H
 obtain ⟨t314, A40, H⟩ := H
 replace H : (if t314 = true then (some false) else (if t312 = (-4611686018427387904) then (if t313 = 4611686018427387904 then (some true) else (some (decide (a1 ≤ t313)))) else (if t312 ≤ a1 then (if t313 = 4611686018427387904 then (some true) else (some (decide (a1 ≤ t313)))) else (some false)))) = some r := H
 have A4 := Aside0.mk A40
 clear A40
 by_cases c5 : t314 = true
 ·
  subst c5
  have H1 : (some false) = some r := by rw [if_pos rfl] at H; exact H
  clear H
  have H := H1
  clear H1
  obtain rfl := Option.some.inj H
  go_enter Tryd.func74, Tryd.ntmps74
  go_wp2_with (first | ((with_reducible refine gate_dst (N := 2) rfl ?_); refine box_event ?hg (N := 2) ?hd (cs := #[.int .i64 a0_0, .int .i64 a0_1]) (t := 38) ?hr ?_; (case hd => rfl); (case hg => rfl); (case hr => first | (go_simp; done) | (go_simp; rfl)); intro gb311 hg w6 hbox hb; have n0_ := kW HB hb; have n1_ := Aside0.mk (hbox); have n2_ := Aside0.mk ((by rw [hg]; exact (below_size (bS HB)) : w.heap.size ≤ gb311)); have n3_ := Aside0.mk ((by rw [hg]; exact (below_size (bS HB)) : w.heap.size ≤ gb311)); clear HB; have HB := n0_; have BK311 := n1_; have GW311 := n2_; have GE311 := n3_; clear n0_ n1_ n2_ n3_; clear hb hbox hg; have hcz7_0 := cz0 BK311; have hcz7_1 := cz1 BK311; have hfz7_0 := fz BK311 0; have hfz7_1 := fz BK311 1) | ((with_reducible refine gate_callee (f := 95) rfl ?_); refine goesL_ (some 6) rfl rfl Tryd.func95 (by kernel_rfl) rfl #[.agg #[.int .i64 a0_0, .int .i64 a0_1]] rfl mS ?_; (with_reducible refine (itv_sound.calls a0_0 a0_1 t312 t313 _ A3.out).mono ?_); rintro e w8 ⟨rfl, hb⟩; refine ⟨_, rfl, ?_⟩; replace BK311 := kB BK311 hb; replace HB := kW HB hb; (try clear hb); (try clear hb2); (try clear hk); (try clear hi); have hcz9_0 := cz0 BK311; have hcz9_1 := cz1 BK311; have hfz9_0 := fz BK311 0; have hfz9_1 := fz BK311 1) | ((with_reducible refine gate_callee (f := 72) rfl ?_); refine goesL_ (some 8) rfl rfl Tryd.func72 (by kernel_rfl) rfl #[.agg #[.int .i64 t312, .int .i64 t313]] rfl mS ?_; (with_reducible refine (itv_None.calls t312 t313 true _ A4.out).mono ?_); rintro e w10 ⟨rfl, hb⟩; refine ⟨_, rfl, ?_⟩; have n0_ := Aside0.mk (blk_below (g := gb311) (o := .cells #[.int .i64 t312, .int .i64 t313] 38 (0, 0)) (by (with_reducible repeat (first | refine b1 ?_ _ | refine b2 ?_ | refine b3 ?_ _)); refine blk_put (cs := #[.int .i64 t312, .int .i64 a0_1]) ?_ 1 _ rfl; (with_reducible repeat (first | refine b1 ?_ _ | refine b2 ?_ | refine b3 ?_ _)); refine blk_put (cs := #[.int .i64 a0_0, .int .i64 a0_1]) ?_ 0 _ rfl; (with_reducible repeat (first | refine b1 ?_ _ | refine b2 ?_ | refine b3 ?_ _)); exact BK311.out) hb); have n1_ := kW HB hb; clear BK311; clear HB; have BK311 := n0_; have HB := n1_; clear n0_ n1_; (try clear hb); (try clear hb2); (try clear hk); (try clear hi)))
  go_ret
  exact ⟨eS, bS HB⟩
 ·
  replace c5 := Bool.eq_false_iff.mpr c5
  subst c5
  have H1 : (if t312 = (-4611686018427387904) then (if t313 = 4611686018427387904 then (some true) else (some (decide (a1 ≤ t313)))) else (if t312 ≤ a1 then (if t313 = 4611686018427387904 then (some true) else (some (decide (a1 ≤ t313)))) else (some false))) = some r := by rw [if_neg (show ¬ (false = true) by decide)] at H; exact H
  clear H
  have H := H1
  clear H1
  by_cases c11 : t312 = (-4611686018427387904)
  ·
   rw [if_pos c11] at H
   have c11b0 : (t312 == (-4611686018427387904)) = true := beq_iff_eq.mpr c11
   have c11b1 : (t312 != (-4611686018427387904)) = false := bne_eq_false_iff_eq.mpr c11
   clear c11
   by_cases c12 : t313 = 4611686018427387904
   ·
    rw [if_pos c12] at H
    have c12b0 : (t313 == 4611686018427387904) = true := beq_iff_eq.mpr c12
    have c12b1 : (t313 != 4611686018427387904) = false := bne_eq_false_iff_eq.mpr c12
    clear c12
    obtain rfl := Option.some.inj H
    go_enter Tryd.func74, Tryd.ntmps74
    go_wp2_with (first | ((with_reducible refine gate_dst (N := 2) rfl ?_); refine box_event ?hg (N := 2) ?hd (cs := #[.int .i64 a0_0, .int .i64 a0_1]) (t := 38) ?hr ?_; (case hd => rfl); (case hg => rfl); (case hr => first | (go_simp; done) | (go_simp; rfl)); intro gb311 hg w13 hbox hb; have n0_ := kW HB hb; have n1_ := Aside0.mk (hbox); have n2_ := Aside0.mk ((by rw [hg]; exact (below_size (bS HB)) : w.heap.size ≤ gb311)); have n3_ := Aside0.mk ((by rw [hg]; exact (below_size (bS HB)) : w.heap.size ≤ gb311)); clear HB; have HB := n0_; have BK311 := n1_; have GW311 := n2_; have GE311 := n3_; clear n0_ n1_ n2_ n3_; clear hb hbox hg; have hcz14_0 := cz0 BK311; have hcz14_1 := cz1 BK311; have hfz14_0 := fz BK311 0; have hfz14_1 := fz BK311 1) | ((with_reducible refine gate_callee (f := 95) rfl ?_); refine goesL_ (some 6) rfl rfl Tryd.func95 (by kernel_rfl) rfl #[.agg #[.int .i64 a0_0, .int .i64 a0_1]] rfl mS ?_; (with_reducible refine (itv_sound.calls a0_0 a0_1 t312 t313 _ A3.out).mono ?_); rintro e w15 ⟨rfl, hb⟩; refine ⟨_, rfl, ?_⟩; replace BK311 := kB BK311 hb; replace HB := kW HB hb; (try clear hb); (try clear hb2); (try clear hk); (try clear hi); have hcz16_0 := cz0 BK311; have hcz16_1 := cz1 BK311; have hfz16_0 := fz BK311 0; have hfz16_1 := fz BK311 1) | ((with_reducible refine gate_callee (f := 72) rfl ?_); refine goesL_ (some 8) rfl rfl Tryd.func72 (by kernel_rfl) rfl #[.agg #[.int .i64 t312, .int .i64 t313]] rfl mS ?_; (with_reducible refine (itv_None.calls t312 t313 false _ A4.out).mono ?_); rintro e w17 ⟨rfl, hb⟩; refine ⟨_, rfl, ?_⟩; have n0_ := Aside0.mk (blk_below (g := gb311) (o := .cells #[.int .i64 t312, .int .i64 t313] 38 (0, 0)) (by (with_reducible repeat (first | refine b1 ?_ _ | refine b2 ?_ | refine b3 ?_ _)); refine blk_put (cs := #[.int .i64 t312, .int .i64 a0_1]) ?_ 1 _ rfl; (with_reducible repeat (first | refine b1 ?_ _ | refine b2 ?_ | refine b3 ?_ _)); refine blk_put (cs := #[.int .i64 a0_0, .int .i64 a0_1]) ?_ 0 _ rfl; (with_reducible repeat (first | refine b1 ?_ _ | refine b2 ?_ | refine b3 ?_ _)); exact BK311.out) hb); have n1_ := kW HB hb; clear BK311; clear HB; have BK311 := n0_; have HB := n1_; clear n0_ n1_; (try clear hb); (try clear hb2); (try clear hk); (try clear hi); have hcz18_0 := cz0 BK311; have hcz18_1 := cz1 BK311; have hfz18_0 := fz BK311 0; have hfz18_1 := fz BK311 1))
    go_ret
    exact ⟨eS, bS HB⟩
   ·
    rw [if_neg c12] at H
    have c12b0 : (t313 == 4611686018427387904) = false := beq_eq_false_iff_ne.mpr c12
    have c12b1 : (t313 != 4611686018427387904) = true := bne_iff_ne.mpr c12
    obtain rfl := Option.some.inj H
    go_enter Tryd.func74, Tryd.ntmps74
    go_wp2_with (first | ((with_reducible refine gate_dst (N := 2) rfl ?_); refine box_event ?hg (N := 2) ?hd (cs := #[.int .i64 a0_0, .int .i64 a0_1]) (t := 38) ?hr ?_; (case hd => rfl); (case hg => rfl); (case hr => first | (go_simp; done) | (go_simp; rfl)); intro gb311 hg w19 hbox hb; have n0_ := kW HB hb; have n1_ := Aside0.mk (hbox); have n2_ := Aside0.mk ((by rw [hg]; exact (below_size (bS HB)) : w.heap.size ≤ gb311)); have n3_ := Aside0.mk ((by rw [hg]; exact (below_size (bS HB)) : w.heap.size ≤ gb311)); clear HB; have HB := n0_; have BK311 := n1_; have GW311 := n2_; have GE311 := n3_; clear n0_ n1_ n2_ n3_; clear hb hbox hg; have hcz20_0 := cz0 BK311; have hcz20_1 := cz1 BK311; have hfz20_0 := fz BK311 0; have hfz20_1 := fz BK311 1) | ((with_reducible refine gate_callee (f := 95) rfl ?_); refine goesL_ (some 6) rfl rfl Tryd.func95 (by kernel_rfl) rfl #[.agg #[.int .i64 a0_0, .int .i64 a0_1]] rfl mS ?_; (with_reducible refine (itv_sound.calls a0_0 a0_1 t312 t313 _ A3.out).mono ?_); rintro e w21 ⟨rfl, hb⟩; refine ⟨_, rfl, ?_⟩; replace BK311 := kB BK311 hb; replace HB := kW HB hb; (try clear hb); (try clear hb2); (try clear hk); (try clear hi); have hcz22_0 := cz0 BK311; have hcz22_1 := cz1 BK311; have hfz22_0 := fz BK311 0; have hfz22_1 := fz BK311 1) | ((with_reducible refine gate_callee (f := 72) rfl ?_); refine goesL_ (some 8) rfl rfl Tryd.func72 (by kernel_rfl) rfl #[.agg #[.int .i64 t312, .int .i64 t313]] rfl mS ?_; (with_reducible refine (itv_None.calls t312 t313 false _ A4.out).mono ?_); rintro e w23 ⟨rfl, hb⟩; refine ⟨_, rfl, ?_⟩; have n0_ := Aside0.mk (blk_below (g := gb311) (o := .cells #[.int .i64 t312, .int .i64 t313] 38 (0, 0)) (by (with_reducible repeat (first | refine b1 ?_ _ | refine b2 ?_ | refine b3 ?_ _)); refine blk_put (cs := #[.int .i64 t312, .int .i64 a0_1]) ?_ 1 _ rfl; (with_reducible repeat (first | refine b1 ?_ _ | refine b2 ?_ | refine b3 ?_ _)); refine blk_put (cs := #[.int .i64 a0_0, .int .i64 a0_1]) ?_ 0 _ rfl; (with_reducible repeat (first | refine b1 ?_ _ | refine b2 ?_ | refine b3 ?_ _)); exact BK311.out) hb); have n1_ := kW HB hb; clear BK311; clear HB; have BK311 := n0_; have HB := n1_; clear n0_ n1_; (try clear hb); (try clear hb2); (try clear hk); (try clear hi); have hcz24_0 := cz0 BK311; have hcz24_1 := cz1 BK311; have hfz24_0 := fz BK311 0; have hfz24_1 := fz BK311 1))
    go_ret
    exact ⟨eS, bS HB⟩
  ·
   rw [if_neg c11] at H
   have c11b0 : (t312 == (-4611686018427387904)) = false := beq_eq_false_iff_ne.mpr c11
   have c11b1 : (t312 != (-4611686018427387904)) = true := bne_iff_ne.mpr c11
   by_cases c25 : t312 ≤ a1
   ·
    rw [if_pos c25] at H
    have c25b0 : decide (t312 ≤ a1) = true := decide_eq_true c25
    clear c25
    by_cases c26 : t313 = 4611686018427387904
    ·
     rw [if_pos c26] at H
     have c26b0 : (t313 == 4611686018427387904) = true := beq_iff_eq.mpr c26
     have c26b1 : (t313 != 4611686018427387904) = false := bne_eq_false_iff_eq.mpr c26
     clear c26
     obtain rfl := Option.some.inj H
     go_enter Tryd.func74, Tryd.ntmps74
     go_wp2_with (first | ((with_reducible refine gate_dst (N := 2) rfl ?_); refine box_event ?hg (N := 2) ?hd (cs := #[.int .i64 a0_0, .int .i64 a0_1]) (t := 38) ?hr ?_; (case hd => rfl); (case hg => rfl); (case hr => first | (go_simp; done) | (go_simp; rfl)); intro gb311 hg w27 hbox hb; have n0_ := kW HB hb; have n1_ := Aside0.mk (hbox); have n2_ := Aside0.mk ((by rw [hg]; exact (below_size (bS HB)) : w.heap.size ≤ gb311)); have n3_ := Aside0.mk ((by rw [hg]; exact (below_size (bS HB)) : w.heap.size ≤ gb311)); clear HB; have HB := n0_; have BK311 := n1_; have GW311 := n2_; have GE311 := n3_; clear n0_ n1_ n2_ n3_; clear hb hbox hg; have hcz28_0 := cz0 BK311; have hcz28_1 := cz1 BK311; have hfz28_0 := fz BK311 0; have hfz28_1 := fz BK311 1) | ((with_reducible refine gate_callee (f := 95) rfl ?_); refine goesL_ (some 6) rfl rfl Tryd.func95 (by kernel_rfl) rfl #[.agg #[.int .i64 a0_0, .int .i64 a0_1]] rfl mS ?_; (with_reducible refine (itv_sound.calls a0_0 a0_1 t312 t313 _ A3.out).mono ?_); rintro e w29 ⟨rfl, hb⟩; refine ⟨_, rfl, ?_⟩; replace BK311 := kB BK311 hb; replace HB := kW HB hb; (try clear hb); (try clear hb2); (try clear hk); (try clear hi); have hcz30_0 := cz0 BK311; have hcz30_1 := cz1 BK311; have hfz30_0 := fz BK311 0; have hfz30_1 := fz BK311 1) | ((with_reducible refine gate_callee (f := 72) rfl ?_); refine goesL_ (some 8) rfl rfl Tryd.func72 (by kernel_rfl) rfl #[.agg #[.int .i64 t312, .int .i64 t313]] rfl mS ?_; (with_reducible refine (itv_None.calls t312 t313 false _ A4.out).mono ?_); rintro e w31 ⟨rfl, hb⟩; refine ⟨_, rfl, ?_⟩; have n0_ := Aside0.mk (blk_below (g := gb311) (o := .cells #[.int .i64 t312, .int .i64 t313] 38 (0, 0)) (by (with_reducible repeat (first | refine b1 ?_ _ | refine b2 ?_ | refine b3 ?_ _)); refine blk_put (cs := #[.int .i64 t312, .int .i64 a0_1]) ?_ 1 _ rfl; (with_reducible repeat (first | refine b1 ?_ _ | refine b2 ?_ | refine b3 ?_ _)); refine blk_put (cs := #[.int .i64 a0_0, .int .i64 a0_1]) ?_ 0 _ rfl; (with_reducible repeat (first | refine b1 ?_ _ | refine b2 ?_ | refine b3 ?_ _)); exact BK311.out) hb); have n1_ := kW HB hb; clear BK311; clear HB; have BK311 := n0_; have HB := n1_; clear n0_ n1_; (try clear hb); (try clear hb2); (try clear hk); (try clear hi); have hcz32_0 := cz0 BK311; have hcz32_1 := cz1 BK311; have hfz32_0 := fz BK311 0; have hfz32_1 := fz BK311 1))
     go_ret
     exact ⟨eS, bS HB⟩
    ·
     rw [if_neg c26] at H
     have c26b0 : (t313 == 4611686018427387904) = false := beq_eq_false_iff_ne.mpr c26
     have c26b1 : (t313 != 4611686018427387904) = true := bne_iff_ne.mpr c26
     obtain rfl := Option.some.inj H
     go_enter Tryd.func74, Tryd.ntmps74
     go_wp2_with (first | ((with_reducible refine gate_dst (N := 2) rfl ?_); refine box_event ?hg (N := 2) ?hd (cs := #[.int .i64 a0_0, .int .i64 a0_1]) (t := 38) ?hr ?_; (case hd => rfl); (case hg => rfl); (case hr => first | (go_simp; done) | (go_simp; rfl)); intro gb311 hg w33 hbox hb; have n0_ := kW HB hb; have n1_ := Aside0.mk (hbox); have n2_ := Aside0.mk ((by rw [hg]; exact (below_size (bS HB)) : w.heap.size ≤ gb311)); have n3_ := Aside0.mk ((by rw [hg]; exact (below_size (bS HB)) : w.heap.size ≤ gb311)); clear HB; have HB := n0_; have BK311 := n1_; have GW311 := n2_; have GE311 := n3_; clear n0_ n1_ n2_ n3_; clear hb hbox hg; have hcz34_0 := cz0 BK311; have hcz34_1 := cz1 BK311; have hfz34_0 := fz BK311 0; have hfz34_1 := fz BK311 1) | ((with_reducible refine gate_callee (f := 95) rfl ?_); refine goesL_ (some 6) rfl rfl Tryd.func95 (by kernel_rfl) rfl #[.agg #[.int .i64 a0_0, .int .i64 a0_1]] rfl mS ?_; (with_reducible refine (itv_sound.calls a0_0 a0_1 t312 t313 _ A3.out).mono ?_); rintro e w35 ⟨rfl, hb⟩; refine ⟨_, rfl, ?_⟩; replace BK311 := kB BK311 hb; replace HB := kW HB hb; (try clear hb); (try clear hb2); (try clear hk); (try clear hi); have hcz36_0 := cz0 BK311; have hcz36_1 := cz1 BK311; have hfz36_0 := fz BK311 0; have hfz36_1 := fz BK311 1) | ((with_reducible refine gate_callee (f := 72) rfl ?_); refine goesL_ (some 8) rfl rfl Tryd.func72 (by kernel_rfl) rfl #[.agg #[.int .i64 t312, .int .i64 t313]] rfl mS ?_; (with_reducible refine (itv_None.calls t312 t313 false _ A4.out).mono ?_); rintro e w37 ⟨rfl, hb⟩; refine ⟨_, rfl, ?_⟩; have n0_ := Aside0.mk (blk_below (g := gb311) (o := .cells #[.int .i64 t312, .int .i64 t313] 38 (0, 0)) (by (with_reducible repeat (first | refine b1 ?_ _ | refine b2 ?_ | refine b3 ?_ _)); refine blk_put (cs := #[.int .i64 t312, .int .i64 a0_1]) ?_ 1 _ rfl; (with_reducible repeat (first | refine b1 ?_ _ | refine b2 ?_ | refine b3 ?_ _)); refine blk_put (cs := #[.int .i64 a0_0, .int .i64 a0_1]) ?_ 0 _ rfl; (with_reducible repeat (first | refine b1 ?_ _ | refine b2 ?_ | refine b3 ?_ _)); exact BK311.out) hb); have n1_ := kW HB hb; clear BK311; clear HB; have BK311 := n0_; have HB := n1_; clear n0_ n1_; (try clear hb); (try clear hb2); (try clear hk); (try clear hi); have hcz38_0 := cz0 BK311; have hcz38_1 := cz1 BK311; have hfz38_0 := fz BK311 0; have hfz38_1 := fz BK311 1))
     go_ret
     exact ⟨eS, bS HB⟩
   ·
    rw [if_neg c25] at H
    have c25b0 : decide (t312 ≤ a1) = false := decide_eq_false c25
    clear c25
    obtain rfl := Option.some.inj H
    go_enter Tryd.func74, Tryd.ntmps74
    go_wp2_with (first | ((with_reducible refine gate_dst (N := 2) rfl ?_); refine box_event ?hg (N := 2) ?hd (cs := #[.int .i64 a0_0, .int .i64 a0_1]) (t := 38) ?hr ?_; (case hd => rfl); (case hg => rfl); (case hr => first | (go_simp; done) | (go_simp; rfl)); intro gb311 hg w39 hbox hb; have n0_ := kW HB hb; have n1_ := Aside0.mk (hbox); have n2_ := Aside0.mk ((by rw [hg]; exact (below_size (bS HB)) : w.heap.size ≤ gb311)); have n3_ := Aside0.mk ((by rw [hg]; exact (below_size (bS HB)) : w.heap.size ≤ gb311)); clear HB; have HB := n0_; have BK311 := n1_; have GW311 := n2_; have GE311 := n3_; clear n0_ n1_ n2_ n3_; clear hb hbox hg; have hcz40_0 := cz0 BK311; have hcz40_1 := cz1 BK311; have hfz40_0 := fz BK311 0; have hfz40_1 := fz BK311 1) | ((with_reducible refine gate_callee (f := 95) rfl ?_); refine goesL_ (some 6) rfl rfl Tryd.func95 (by kernel_rfl) rfl #[.agg #[.int .i64 a0_0, .int .i64 a0_1]] rfl mS ?_; (with_reducible refine (itv_sound.calls a0_0 a0_1 t312 t313 _ A3.out).mono ?_); rintro e w41 ⟨rfl, hb⟩; refine ⟨_, rfl, ?_⟩; replace BK311 := kB BK311 hb; replace HB := kW HB hb; (try clear hb); (try clear hb2); (try clear hk); (try clear hi); have hcz42_0 := cz0 BK311; have hcz42_1 := cz1 BK311; have hfz42_0 := fz BK311 0; have hfz42_1 := fz BK311 1) | ((with_reducible refine gate_callee (f := 72) rfl ?_); refine goesL_ (some 8) rfl rfl Tryd.func72 (by kernel_rfl) rfl #[.agg #[.int .i64 t312, .int .i64 t313]] rfl mS ?_; (with_reducible refine (itv_None.calls t312 t313 false _ A4.out).mono ?_); rintro e w43 ⟨rfl, hb⟩; refine ⟨_, rfl, ?_⟩; have n0_ := Aside0.mk (blk_below (g := gb311) (o := .cells #[.int .i64 t312, .int .i64 t313] 38 (0, 0)) (by (with_reducible repeat (first | refine b1 ?_ _ | refine b2 ?_ | refine b3 ?_ _)); refine blk_put (cs := #[.int .i64 t312, .int .i64 a0_1]) ?_ 1 _ rfl; (with_reducible repeat (first | refine b1 ?_ _ | refine b2 ?_ | refine b3 ?_ _)); refine blk_put (cs := #[.int .i64 a0_0, .int .i64 a0_1]) ?_ 0 _ rfl; (with_reducible repeat (first | refine b1 ?_ _ | refine b2 ?_ | refine b3 ?_ _)); exact BK311.out) hb); have n1_ := kW HB hb; clear BK311; clear HB; have BK311 := n0_; have HB := n1_; clear n0_ n1_; (try clear hb); (try clear hb2); (try clear hk); (try clear hi); have hcz44_0 := cz0 BK311; have hcz44_1 := cz1 BK311; have hfz44_0 := fz BK311 0; have hfz44_1 := fz BK311 1))
    go_ret
    exact ⟨eS, bS HB⟩

end Go.Proofs.YtfmmjekhknaniaaDoor.Pr

