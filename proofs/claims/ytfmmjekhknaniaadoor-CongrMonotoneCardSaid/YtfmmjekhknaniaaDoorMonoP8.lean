/- This claim's own texts, joined, with only what the claim uses: Hx25, Hx33, Hx34, Hx35, Hx36, Hx37, Hx38, Hx40, Hx41, Hx67. -/
import Derived.Test.YtfmmjekhknaniaaDoorMonoP5
import Derived.Test.YtfmmjekhknaniaaDoorMonoP7
namespace Go.Proofs.YtfmmjekhknaniaaDoor.Pr
open Go.RowKit Go.Proofs.YtfmmjekhknaniaaDoor.Given Go.Proofs.YtfmmjekhknaniaaDoorW.PrintWords Go.Proofs.YtfmmjekhknaniaaDoorW.PrintLast Go.Proofs.YtfmmjekhknaniaaDoorW.PrintMore
attribute [local go_sem] max2_int min2_int max_two min_two max_three min_three max_four min_four   -- for this text's walks alone
set_option linter.unusedVariables false
set_option linter.unusedSimpArgs false

mutual
def congr_Test.j0 : Nat → Int → Bool → Bool → Int → Int → Bool → Int → Int → Option (Bool × Int × Int × Bool × Int × Int)
 | 0, _, _, _, _, _, _, _, _ => none
 | k + 1, x0, x9, x231000, x231001, x231002, x232000, x232001, x232002 => if x9 = true then (some (x231000, x231001, x231002, x232000, x232001, x232002)) else (if x231000 = true then (congr_Test.j1 k x0 true x231000 x231001 x231002 x232000 x232001 x232002) else (if x232000 = true then (congr_Test.j1 k x0 true x231000 x231001 x231002 x232000 x232001 x232002) else (if x231001 = 0 then (if x232001 = 0 then ((congr_holds.f x0 x231002 x232002).bind fun t234 => (congr_Test.j1 k x0 (!t234) x231000 x231001 x231002 x232000 x232001 x232002)) else (congr_Test.j1 k x0 false x231000 x231001 x231002 x232000 x232001 x232002)) else (congr_Test.j1 k x0 false x231000 x231001 x231002 x232000 x232001 x232002))))
def congr_Test.j1 : Nat → Int → Bool → Bool → Int → Int → Bool → Int → Int → Option (Bool × Int × Int × Bool × Int × Int)
 | 0, _, _, _, _, _, _, _, _ => none
 | k + 1, x0, x18, x231000, x231001, x231002, x232000, x232001, x232002 => if x18 = true then ((congr_none.f).bind fun bt235 => ((congr_none.f).bind fun bt238 => (some (bt235.1, bt235.2.1, bt235.2.2, bt238.1, bt238.2.1, bt238.2.2)))) else (if x0 = 14 then ((congr_Meet.f k x231000 x231001 x231002 x232000 x232001 x232002).bind fun bt241 => (some (bt241.1, bt241.2.1, bt241.2.2, bt241.1, bt241.2.1, bt241.2.2))) else (some (x231000, x231001, x231002, x232000, x232001, x232002)))
end
def congr_Test.f (k : Nat) (a0 : Int) (a1_0 : Bool) (a1_1 : Int) (a1_2 : Int) (a2_0 : Bool) (a2_1 : Int) (a2_2 : Int) : Option (Bool × Int × Int × Bool × Int × Int) := if a0 < 14 then (congr_Test.j0 k a0 true a1_0 a1_1 a1_2 a2_0 a2_1 a2_2) else (congr_Test.j0 k a0 (decide (a0 > 19)) a1_0 a1_1 a1_2 a2_0 a2_1 a2_2)
set_option maxHeartbeats 8000000 in
set_option maxRecDepth 100000 in
theorem congr_Test.calls (k : Nat) (a0 : Int) (a1_0 : Bool) (a1_1 : Int) (a1_2 : Int) (a2_0 : Bool) (a2_1 : Int) (a2_2 : Int) (r1 : Bool) (r2 : Int) (r3 : Int) (r4 : Bool) (r5 : Int) (r6 : Int) (w : World) (h : congr_Test.f k a0 a1_0 a1_1 a1_2 a2_0 a2_1 a2_2 = some (r1, r2, r3, r4, r5, r6)) :
  Calls Tryd.prog 24 #[.int .i64 a0, .agg #[.bool a1_0, .int .i64 a1_1, .int .i64 a1_2], .agg #[.bool a2_0, .int .i64 a2_1, .int .i64 a2_2]] w fun e w' => e = .returned (.tuple #[.agg #[.bool r1, .int .i64 r2, .int .i64 r3], .agg #[.bool r4, .int .i64 r5, .int .i64 r6]]) ∧ Below w.heap.size w w' := by
 have hu23 := Tryd.underlying23
 have HB := Aside0.mk (Below.refl w.heap.size w)
 have H : (if a0 < 14 then (congr_Test.j0 k a0 true a1_0 a1_1 a1_2 a2_0 a2_1 a2_2) else (congr_Test.j0 k a0 (decide (a0 > 19)) a1_0 a1_1 a1_2 a2_0 a2_1 a2_2)) = some (r1, r2, r3, r4, r5, r6) := h
 clear h
 have HC4 := Aside0.mk H
 clear H
 go_enter Tryd.func24, Tryd.ntmps24
 go_upto_region 1 with (first | ((with_reducible refine gate_dst (N := 4) rfl ?_); refine box_event ?hg (N := 4) ?hd (cs := #[.bool a1_0, .int .i64 a1_1, .int .i64 a1_2]) (t := 23) ?hr ?_; (case hd => rfl); (case hg => rfl); (case hr => first | (go_simp; done) | (go_simp; rfl)); intro gb230 hg w5 hbox hb; have n0_ := kW HB hb; have n1_ := Aside0.mk (hbox); have n2_ := Aside0.mk ((by rw [hg]; exact (below_size (bS HB)) : w.heap.size ≤ gb230)); have n3_ := Aside0.mk ((by rw [hg]; exact (below_size (bS HB)) : w.heap.size ≤ gb230)); clear HB; have HB := n0_; have BK230 := n1_; have GW230 := n2_; have GE230 := n3_; clear n0_ n1_ n2_ n3_; clear hb hbox hg) | ((with_reducible refine gate_dst (N := 5) rfl ?_); refine box_event ?hg (N := 5) ?hd (cs := #[.bool a2_0, .int .i64 a2_1, .int .i64 a2_2]) (t := 23) ?hr ?_; (case hd => rfl); (case hg => rfl); (case hr => first | (go_simp; done) | (go_simp; rfl)); intro gb231 hg w6 hbox hb; have n0_ := kB BK230 hb; have n1_ := kW HB hb; have n2_ := Aside0.mk (hbox); have n3_ := Aside0.mk ((by rw [hg]; exact (below_size (bS HB)) : w.heap.size ≤ gb231)); have n4_ := Aside0.mk ((by rw [hg]; exact (below_size (bS HB)) : w.heap.size ≤ gb231)); have n5_ := Aside0.mk ((by rw [hg]; exact Nat.ne_of_lt (blk_lt (bkS BK230)) : gb230 ≠ gb231)); have n6_ := Aside0.mk ((by rw [hg]; exact Nat.ne_of_gt (blk_lt (bkS BK230)) : gb231 ≠ gb230)); clear BK230; clear HB; have BK230 := n0_; have HB := n1_; have BK231 := n2_; have GW231 := n3_; have GE231 := n4_; have NB230_231 := n5_; have NB231_230 := n6_; clear n0_ n1_ n2_ n3_ n4_ n5_ n6_; clear hb hbox hg) | ((with_reducible refine gate_dst (N := 6) rfl ?_); refine box_event ?hg (N := 6) ?hd (cs := #[.bool false, .int .i64 0, .int .i64 0]) (t := 23) ?hr ?_; (case hd => rfl); (case hg => rfl); (case hr => first | (go_simp; done) | (go_simp; rfl)); intro gb232 hg w7 hbox hb; have n0_ := kB BK230 hb; have n1_ := kB BK231 hb; have n2_ := kW HB hb; have n3_ := Aside0.mk (hbox); have n4_ := Aside0.mk ((by rw [hg]; exact (below_size (bS HB)) : w.heap.size ≤ gb232)); have n5_ := Aside0.mk ((by rw [hg]; exact (below_size (bS HB)) : w.heap.size ≤ gb232)); have n6_ := Aside0.mk ((by rw [hg]; exact Nat.ne_of_lt (blk_lt (bkS BK230)) : gb230 ≠ gb232)); have n7_ := Aside0.mk ((by rw [hg]; exact Nat.ne_of_gt (blk_lt (bkS BK230)) : gb232 ≠ gb230)); have n8_ := Aside0.mk ((by rw [hg]; exact Nat.ne_of_lt (blk_lt (bkS BK231)) : gb231 ≠ gb232)); have n9_ := Aside0.mk ((by rw [hg]; exact Nat.ne_of_gt (blk_lt (bkS BK231)) : gb232 ≠ gb231)); clear BK230; clear BK231; clear HB; have BK230 := n0_; have BK231 := n1_; have HB := n2_; have BK232 := n3_; have GW232 := n4_; have GE232 := n5_; have NB230_232 := n6_; have NB232_230 := n7_; have NB231_232 := n8_; have NB232_231 := n9_; clear n0_ n1_ n2_ n3_ n4_ n5_ n6_ n7_ n8_ n9_; clear hb hbox hg) | ((with_reducible refine gate_dst (N := 7) rfl ?_); refine box_event ?hg (N := 7) ?hd (cs := #[.bool false, .int .i64 0, .int .i64 0]) (t := 23) ?hr ?_; (case hd => rfl); (case hg => rfl); (case hr => first | (go_simp; done) | (go_simp; rfl)); intro gb233 hg w8 hbox hb; have n0_ := kB BK230 hb; have n1_ := kB BK231 hb; have n2_ := kB BK232 hb; have n3_ := kW HB hb; have n4_ := Aside0.mk (hbox); have n5_ := Aside0.mk ((by rw [hg]; exact (below_size (bS HB)) : w.heap.size ≤ gb233)); have n6_ := Aside0.mk ((by rw [hg]; exact (below_size (bS HB)) : w.heap.size ≤ gb233)); have n7_ := Aside0.mk ((by rw [hg]; exact Nat.ne_of_lt (blk_lt (bkS BK230)) : gb230 ≠ gb233)); have n8_ := Aside0.mk ((by rw [hg]; exact Nat.ne_of_gt (blk_lt (bkS BK230)) : gb233 ≠ gb230)); have n9_ := Aside0.mk ((by rw [hg]; exact Nat.ne_of_lt (blk_lt (bkS BK231)) : gb231 ≠ gb233)); have n10_ := Aside0.mk ((by rw [hg]; exact Nat.ne_of_gt (blk_lt (bkS BK231)) : gb233 ≠ gb231)); have n11_ := Aside0.mk ((by rw [hg]; exact Nat.ne_of_lt (blk_lt (bkS BK232)) : gb232 ≠ gb233)); have n12_ := Aside0.mk ((by rw [hg]; exact Nat.ne_of_gt (blk_lt (bkS BK232)) : gb233 ≠ gb232)); clear BK230; clear BK231; clear BK232; clear HB; have BK230 := n0_; have BK231 := n1_; have BK232 := n2_; have HB := n3_; have BK233 := n4_; have GW233 := n5_; have GE233 := n6_; have NB230_233 := n7_; have NB233_230 := n8_; have NB231_233 := n9_; have NB233_231 := n10_; have NB232_233 := n11_; have NB233_232 := n12_; clear n0_ n1_ n2_ n3_ n4_ n5_ n6_ n7_ n8_ n9_ n10_ n11_ n12_; clear hb hbox hg))
 (try simp only [Act.put, lA, lB, lC])
 go_cut [9] (fun v9 wc => ∃ (kq : Nat) (x9_3 : Bool), v9 = .bool x9_3 ∧ Aside0 (congr_Test.j0 kq a0 x9_3 a1_0 a1_1 a1_2 a2_0 a2_1 a2_2 = some (r1, r2, r3, r4, r5, r6)) ∧ Aside0 (kq ≤ k) ∧ Aside0 (wc.heap[gb230]? = some (.cells #[.bool a1_0, .int .i64 a1_1, .int .i64 a1_2] 23 (0, 0))) ∧ Aside0 (wc.heap[gb231]? = some (.cells #[.bool a2_0, .int .i64 a2_1, .int .i64 a2_2] 23 (0, 0))) ∧ Aside0 (wc.heap[gb232]? = some (.cells #[.bool false, .int .i64 0, .int .i64 0] 23 (0, 0))) ∧ Aside0 (wc.heap[gb233]? = some (.cells #[.bool false, .int .i64 0, .int .i64 0] 23 (0, 0))) ∧ Aside0 (Below w.heap.size w wc))
 case first =>
  have H := HC4.out
  clear HC4
  by_cases c9 : a0 < 14
  ·
   rw [if_pos c9] at H
   have c9b0 : decide (a0 < 14) = true := decide_eq_true c9
   clear c9
   (first | rw [c9b0] | (simp only [i64_w, i32_w]; rw [c9b0]) | skip)
   have H' := Aside0.mk H
   clear H
   go_wp2
   go_meet
   case rel => exact ⟨_, (true), (by first | rfl | (simp; done) | (simp [*]; done)), H', ⟨by first | omega | exact Nat.le_refl _⟩, ⟨bkS BK230⟩, ⟨bkS BK231⟩, ⟨bkS BK232⟩, ⟨bkS BK233⟩, ⟨bS HB⟩⟩
  ·
   rw [if_neg c9] at H
   have c9b0 : decide (a0 < 14) = false := decide_eq_false c9
   clear c9
   (first | rw [c9b0] | (simp only [i64_w, i32_w]; rw [c9b0]) | skip)
   have H' := Aside0.mk H
   clear H
   go_wp2
   go_meet
   case rel => exact ⟨_, (decide (a0 > 19)), (by first | rfl | (simp; done) | (simp [*]; done)), H', ⟨by first | omega | exact Nat.le_refl _⟩, ⟨bkS BK230⟩, ⟨bkS BK231⟩, ⟨bkS BK232⟩, ⟨bkS BK233⟩, ⟨bS HB⟩⟩
 case rest =>
  clear HC4
  try clear c2
  try clear p2
  try clear c9
  try clear c9b0
  obtain ⟨kq, x9_3, rfl, HA, HJ3, BK230, BK231, BK232, BK233, HB⟩ := hcut
  cases kq with
  | zero => exact absurd HA.out (by simp [congr_Test.j0])
  | succ kj3 =>
   have H := HA.out
   clear HA
   simp only [congr_Test.j0] at H
   by_cases c10 : x9_3 = true
   ·
    subst c10
    have H1 : (some (a1_0, a1_1, a1_2, a2_0, a2_1, a2_2)) = some (r1, r2, r3, r4, r5, r6) := by rw [if_pos rfl] at H; exact H
    clear H
    have H := H1
    clear H1
    simp only [Option.some.injEq, Prod.mk.injEq] at H
    obtain ⟨rfl, rfl, rfl, rfl, rfl, rfl⟩ := H
    try go_wp2
    replace BK230 := Aside0.mk (blk_drew BK230.out)
    replace BK231 := Aside0.mk (blk_drew BK231.out)
    replace BK232 := Aside0.mk (blk_drew BK232.out)
    replace BK233 := Aside0.mk (blk_drew BK233.out)
    replace HB := Aside0.mk (below_drew1 HB.out)
    refine start_ (n := 4) (S := fun w' => w'.cell? ⟨gb230, 0, none⟩ = some (.bool a1_0) ∧ w'.cell? ⟨gb230, 1, none⟩ = some (.int .i64 a1_1) ∧ w'.cell? ⟨gb230, 2, none⟩ = some (.int .i64 a1_2) ∧ w'.cell? ⟨gb231, 0, none⟩ = some (.bool a2_0) ∧ w'.cell? ⟨gb231, 1, none⟩ = some (.int .i64 a2_1) ∧ w'.cell? ⟨gb231, 2, none⟩ = some (.int .i64 a2_2)) (ds := []) #[false, false, false, false] (by kernel_rfl) rfl rfl ⟨cz0 BK230, cz1 BK230, cz2 BK230, cz0 BK231, cz1 BK231, cz2 BK231⟩ (fun hHeld => ?_)
    generalize wc.drew = w11 at BK230 BK231 BK232 BK233 HB hHeld ⊢
    refine take_ (i := 0) (N := some 16) (v := ?_) (a' := ?_) #[true, false, false, false] rfl rfl (by kernel_rfl) (fun _ _ _ h => h) (Or.inl ⟨by rfl, ?_⟩) hHeld ?_ ?_
    rotate_left
    ·
     rintro w' ⟨s0, s1, s2, s3, s4, s5⟩
     go_simp
     with_reducible rfl
    rotate_left
    ·
     simp only [Act.put, lA, lB, lC, i64_w, i32_w]
     rfl
    refine take_ (i := 1) (N := some 17) (v := ?_) (a' := ?_) #[true, true, false, false] rfl rfl (by kernel_rfl) (fun _ _ _ h => h) (Or.inl ⟨by rfl, ?_⟩) hHeld ?_ ?_
    rotate_left
    ·
     rintro w' ⟨s0, s1, s2, s3, s4, s5⟩
     go_simp
     with_reducible rfl
    rotate_left
    ·
     simp only [Act.put, lA, lB, lC, i64_w, i32_w]
     rfl
    refine one_ (i := 2) (N := none) #[true, true, true, false] rfl rfl (by kernel_rfl) (by decide) (fun K hK => ?_)
    have hs12 : w11.cell? ⟨gb232, 0, none⟩ = some (.bool false) := cz0 BK232
    have hfs12 := fz BK232 0
    have hns12_0 := NB230_232.out
    have hns12_1 := NB231_232.out
    have hns12_3 := NB233_232.out
    have hms12_0 := NB232_230.out
    have hms12_1 := NB232_231.out
    have hms12_3 := NB232_233.out
    have hs13 : w11.cell? ⟨gb232, 1, none⟩ = some (.int .i64 0) := cz1 BK232
    have hfs13 := fz BK232 1
    have hns13_0 := NB230_232.out
    have hns13_1 := NB231_232.out
    have hns13_3 := NB233_232.out
    have hms13_0 := NB232_230.out
    have hms13_1 := NB232_231.out
    have hms13_3 := NB232_233.out
    have hs14 : w11.cell? ⟨gb232, 2, none⟩ = some (.int .i64 0) := cz2 BK232
    have hfs14 := fz BK232 2
    have hns14_0 := NB230_232.out
    have hns14_1 := NB231_232.out
    have hns14_3 := NB233_232.out
    have hms14_0 := NB232_230.out
    have hms14_1 := NB232_231.out
    have hms14_3 := NB232_233.out
    refine skip_ (w1 := ?_) (by rfl) rfl ?_ ?_
    rotate_left
    ·
     go_simp
     rfl
    refine hK.out _ _ ⟨((cell_far (p := ⟨gb232, _, none⟩) NB230_232.out _).trans (((cell_far (p := ⟨gb232, _, none⟩) NB230_232.out _).trans (((cell_far (p := ⟨gb232, _, none⟩) NB230_232.out _).trans (hHeld.1)))))), ((cell_far (p := ⟨gb232, _, none⟩) NB230_232.out _).trans (((cell_far (p := ⟨gb232, _, none⟩) NB230_232.out _).trans (((cell_far (p := ⟨gb232, _, none⟩) NB230_232.out _).trans (hHeld.2.1)))))), ((cell_far (p := ⟨gb232, _, none⟩) NB230_232.out _).trans (((cell_far (p := ⟨gb232, _, none⟩) NB230_232.out _).trans (((cell_far (p := ⟨gb232, _, none⟩) NB230_232.out _).trans (hHeld.2.2.1)))))), ((cell_far (p := ⟨gb232, _, none⟩) NB231_232.out _).trans (((cell_far (p := ⟨gb232, _, none⟩) NB231_232.out _).trans (((cell_far (p := ⟨gb232, _, none⟩) NB231_232.out _).trans (hHeld.2.2.2.1)))))), ((cell_far (p := ⟨gb232, _, none⟩) NB231_232.out _).trans (((cell_far (p := ⟨gb232, _, none⟩) NB231_232.out _).trans (((cell_far (p := ⟨gb232, _, none⟩) NB231_232.out _).trans (hHeld.2.2.2.2.1)))))), ((cell_far (p := ⟨gb232, _, none⟩) NB231_232.out _).trans (((cell_far (p := ⟨gb232, _, none⟩) NB231_232.out _).trans (((cell_far (p := ⟨gb232, _, none⟩) NB231_232.out _).trans (hHeld.2.2.2.2.2))))))⟩ (fun hHeld => ?_)
    clear hK K
    refine one_ (i := 3) (N := none) #[true, true, true, true] rfl rfl (by kernel_rfl) (by decide) (fun K hK => ?_)
    have hs15 : w11.cell? ⟨gb233, 0, none⟩ = some (.bool false) := cz0 BK233
    have hfs15 := fz BK233 0
    have hns15_0 := NB230_233.out
    have hns15_1 := NB231_233.out
    have hns15_2 := NB232_233.out
    have hms15_0 := NB233_230.out
    have hms15_1 := NB233_231.out
    have hms15_2 := NB233_232.out
    have hs16 : w11.cell? ⟨gb233, 1, none⟩ = some (.int .i64 0) := cz1 BK233
    have hfs16 := fz BK233 1
    have hns16_0 := NB230_233.out
    have hns16_1 := NB231_233.out
    have hns16_2 := NB232_233.out
    have hms16_0 := NB233_230.out
    have hms16_1 := NB233_231.out
    have hms16_2 := NB233_232.out
    have hs17 : w11.cell? ⟨gb233, 2, none⟩ = some (.int .i64 0) := cz2 BK233
    have hfs17 := fz BK233 2
    have hns17_0 := NB230_233.out
    have hns17_1 := NB231_233.out
    have hns17_2 := NB232_233.out
    have hms17_0 := NB233_230.out
    have hms17_1 := NB233_231.out
    have hms17_2 := NB233_232.out
    refine skip_ (w1 := ?_) (by rfl) rfl ?_ ?_
    rotate_left
    ·
     go_simp
     rfl
    refine hK.out _ _ ⟨((cell_far (p := ⟨gb233, _, none⟩) NB230_233.out _).trans (((cell_far (p := ⟨gb233, _, none⟩) NB230_233.out _).trans (((cell_far (p := ⟨gb233, _, none⟩) NB230_233.out _).trans (hHeld.1)))))), ((cell_far (p := ⟨gb233, _, none⟩) NB230_233.out _).trans (((cell_far (p := ⟨gb233, _, none⟩) NB230_233.out _).trans (((cell_far (p := ⟨gb233, _, none⟩) NB230_233.out _).trans (hHeld.2.1)))))), ((cell_far (p := ⟨gb233, _, none⟩) NB230_233.out _).trans (((cell_far (p := ⟨gb233, _, none⟩) NB230_233.out _).trans (((cell_far (p := ⟨gb233, _, none⟩) NB230_233.out _).trans (hHeld.2.2.1)))))), ((cell_far (p := ⟨gb233, _, none⟩) NB231_233.out _).trans (((cell_far (p := ⟨gb233, _, none⟩) NB231_233.out _).trans (((cell_far (p := ⟨gb233, _, none⟩) NB231_233.out _).trans (hHeld.2.2.2.1)))))), ((cell_far (p := ⟨gb233, _, none⟩) NB231_233.out _).trans (((cell_far (p := ⟨gb233, _, none⟩) NB231_233.out _).trans (((cell_far (p := ⟨gb233, _, none⟩) NB231_233.out _).trans (hHeld.2.2.2.2.1)))))), ((cell_far (p := ⟨gb233, _, none⟩) NB231_233.out _).trans (((cell_far (p := ⟨gb233, _, none⟩) NB231_233.out _).trans (((cell_far (p := ⟨gb233, _, none⟩) NB231_233.out _).trans (hHeld.2.2.2.2.2))))))⟩ (fun hHeld => ?_)
    clear hK K
    refine done_ (by kernel_rfl) ?_
    try go_wp2
    refine bodyPost_ret (results_cc rfl _ _ gb232 gb233 23 23 #[.bool a1_0, .int .i64 a1_1, .int .i64 a1_2] #[.bool a2_0, .int .i64 a2_1, .int .i64 a2_2] (0, 0) (0, 0) _ _ rfl (by (with_reducible repeat (first | refine b1 ?_ _ | refine b2 ?_ | refine b3 ?_ _)); refine blk_far ?_ NB232_233.out _; (with_reducible repeat (first | refine b1 ?_ _ | refine b2 ?_ | refine b3 ?_ _)); refine blk_far ?_ NB232_233.out _; (with_reducible repeat (first | refine b1 ?_ _ | refine b2 ?_ | refine b3 ?_ _)); refine blk_far ?_ NB232_233.out _; (with_reducible repeat (first | refine b1 ?_ _ | refine b2 ?_ | refine b3 ?_ _)); refine blk_put (cs := #[.bool a1_0, .int .i64 a1_1, .int .i64 0]) ?_ 2 _ rfl; (with_reducible repeat (first | refine b1 ?_ _ | refine b2 ?_ | refine b3 ?_ _)); refine blk_put (cs := #[.bool a1_0, .int .i64 0, .int .i64 0]) ?_ 1 _ rfl; (with_reducible repeat (first | refine b1 ?_ _ | refine b2 ?_ | refine b3 ?_ _)); refine blk_put (cs := #[.bool false, .int .i64 0, .int .i64 0]) ?_ 0 _ rfl; (with_reducible repeat (first | refine b1 ?_ _ | refine b2 ?_ | refine b3 ?_ _)); exact BK232.out) Tryd.underlying23 rfl (by kernel_rfl) rfl (by (with_reducible repeat (first | refine b1 ?_ _ | refine b2 ?_ | refine b3 ?_ _)); refine blk_put (cs := #[.bool a2_0, .int .i64 a2_1, .int .i64 0]) ?_ 2 _ rfl; (with_reducible repeat (first | refine b1 ?_ _ | refine b2 ?_ | refine b3 ?_ _)); refine blk_put (cs := #[.bool a2_0, .int .i64 0, .int .i64 0]) ?_ 1 _ rfl; (with_reducible repeat (first | refine b1 ?_ _ | refine b2 ?_ | refine b3 ?_ _)); refine blk_put (cs := #[.bool false, .int .i64 0, .int .i64 0]) ?_ 0 _ rfl; (with_reducible repeat (first | refine b1 ?_ _ | refine b2 ?_ | refine b3 ?_ _)); refine blk_far ?_ NB233_232.out _; (with_reducible repeat (first | refine b1 ?_ _ | refine b2 ?_ | refine b3 ?_ _)); refine blk_far ?_ NB233_232.out _; (with_reducible repeat (first | refine b1 ?_ _ | refine b2 ?_ | refine b3 ?_ _)); refine blk_far ?_ NB233_232.out _; (with_reducible repeat (first | refine b1 ?_ _ | refine b2 ?_ | refine b3 ?_ _)); exact BK233.out) Tryd.underlying23 rfl (by kernel_rfl)) rfl ?_
    exact ⟨eS, bS HB⟩
   ·
    replace c10 := Bool.eq_false_iff.mpr c10
    subst c10
    have H1 : (if a1_0 = true then (congr_Test.j1 kj3 a0 true a1_0 a1_1 a1_2 a2_0 a2_1 a2_2) else (if a2_0 = true then (congr_Test.j1 kj3 a0 true a1_0 a1_1 a1_2 a2_0 a2_1 a2_2) else (if a1_1 = 0 then (if a2_1 = 0 then ((congr_holds.f a0 a1_2 a2_2).bind fun t234 => (congr_Test.j1 kj3 a0 (!t234) a1_0 a1_1 a1_2 a2_0 a2_1 a2_2)) else (congr_Test.j1 kj3 a0 false a1_0 a1_1 a1_2 a2_0 a2_1 a2_2)) else (congr_Test.j1 kj3 a0 false a1_0 a1_1 a1_2 a2_0 a2_1 a2_2)))) = some (r1, r2, r3, r4, r5, r6) := by rw [if_neg (show ¬ (false = true) by decide)] at H; exact H
    clear H
    have H := H1
    clear H1
    have HC18 := Aside0.mk H
    clear H
    go_upto_region 3 with (fail)
    go_cut [18] (fun v18 wc => ∃ (kq : Nat) (x18_17 : Bool), v18 = .bool x18_17 ∧ Aside0 (congr_Test.j1 kq a0 x18_17 a1_0 a1_1 a1_2 a2_0 a2_1 a2_2 = some (r1, r2, r3, r4, r5, r6)) ∧ Aside0 (kq ≤ kj3) ∧ Aside0 (wc.heap[gb230]? = some (.cells #[.bool a1_0, .int .i64 a1_1, .int .i64 a1_2] 23 (0, 0))) ∧ Aside0 (wc.heap[gb231]? = some (.cells #[.bool a2_0, .int .i64 a2_1, .int .i64 a2_2] 23 (0, 0))) ∧ Aside0 (wc.heap[gb232]? = some (.cells #[.bool false, .int .i64 0, .int .i64 0] 23 (0, 0))) ∧ Aside0 (wc.heap[gb233]? = some (.cells #[.bool false, .int .i64 0, .int .i64 0] 23 (0, 0))) ∧ Aside0 (Below w.heap.size w wc))
    case first =>
     have H := HC18.out
     clear HC18
     by_cases c19 : a1_0 = true
     ·
      subst c19
      have H1 : (congr_Test.j1 kj3 a0 true true a1_1 a1_2 a2_0 a2_1 a2_2) = some (r1, r2, r3, r4, r5, r6) := by rw [if_pos rfl] at H; exact H
      clear H
      have H := H1
      clear H1
      have H' := Aside0.mk H
      clear H
      have hnb20 := NB230_231.out
      have hnc20 := NB231_230.out
      have hnb21 := NB230_232.out
      have hnc21 := NB232_230.out
      have hnb22 := NB230_233.out
      have hnc22 := NB233_230.out
      have hcz23_0 : wc.cell? ⟨gb230, 0, none⟩ = some (.bool true) := cz0 BK230
      have hcz23_1 : wc.cell? ⟨gb230, 1, none⟩ = some (.int .i64 a1_1) := cz1 BK230
      have hcz23_2 : wc.cell? ⟨gb230, 2, none⟩ = some (.int .i64 a1_2) := cz2 BK230
      have hfz23_0 := fz BK230 0
      have hfz23_1 := fz BK230 1
      have hfz23_2 := fz BK230 2
      go_wp2
      go_meet
      case rel => exact ⟨_, (true), (by first | rfl | (simp; done) | (simp [*]; done)), H', ⟨by have := HJ3.out; first | omega | exact Nat.le_refl _⟩, ⟨bkS BK230⟩, ⟨bkS BK231⟩, ⟨bkS BK232⟩, ⟨bkS BK233⟩, ⟨bS HB⟩⟩
     ·
      replace c19 := Bool.eq_false_iff.mpr c19
      subst c19
      have H1 : (if a2_0 = true then (congr_Test.j1 kj3 a0 true false a1_1 a1_2 a2_0 a2_1 a2_2) else (if a1_1 = 0 then (if a2_1 = 0 then ((congr_holds.f a0 a1_2 a2_2).bind fun t234 => (congr_Test.j1 kj3 a0 (!t234) false a1_1 a1_2 a2_0 a2_1 a2_2)) else (congr_Test.j1 kj3 a0 false false a1_1 a1_2 a2_0 a2_1 a2_2)) else (congr_Test.j1 kj3 a0 false false a1_1 a1_2 a2_0 a2_1 a2_2))) = some (r1, r2, r3, r4, r5, r6) := by rw [if_neg (show ¬ (false = true) by decide)] at H; exact H
      clear H
      have H := H1
      clear H1
      by_cases c24 : a2_0 = true
      ·
       subst c24
       have H1 : (congr_Test.j1 kj3 a0 true false a1_1 a1_2 true a2_1 a2_2) = some (r1, r2, r3, r4, r5, r6) := by rw [if_pos rfl] at H; exact H
       clear H
       have H := H1
       clear H1
       have H' := Aside0.mk H
       clear H
       have hnb25 := NB230_231.out
       have hnc25 := NB231_230.out
       have hnb26 := NB230_232.out
       have hnc26 := NB232_230.out
       have hnb27 := NB230_233.out
       have hnc27 := NB233_230.out
       have hcz28_0 : wc.cell? ⟨gb230, 0, none⟩ = some (.bool false) := cz0 BK230
       have hcz28_1 : wc.cell? ⟨gb230, 1, none⟩ = some (.int .i64 a1_1) := cz1 BK230
       have hcz28_2 : wc.cell? ⟨gb230, 2, none⟩ = some (.int .i64 a1_2) := cz2 BK230
       have hfz28_0 := fz BK230 0
       have hfz28_1 := fz BK230 1
       have hfz28_2 := fz BK230 2
       have hnb29 := NB231_232.out
       have hnc29 := NB232_231.out
       have hnb30 := NB231_233.out
       have hnc30 := NB233_231.out
       have hcz31_0 : wc.cell? ⟨gb231, 0, none⟩ = some (.bool true) := cz0 BK231
       have hcz31_1 : wc.cell? ⟨gb231, 1, none⟩ = some (.int .i64 a2_1) := cz1 BK231
       have hcz31_2 : wc.cell? ⟨gb231, 2, none⟩ = some (.int .i64 a2_2) := cz2 BK231
       have hfz31_0 := fz BK231 0
       have hfz31_1 := fz BK231 1
       have hfz31_2 := fz BK231 2
       go_wp2
       go_meet
       case rel => exact ⟨_, (true), (by first | rfl | (simp; done) | (simp [*]; done)), H', ⟨by have := HJ3.out; first | omega | exact Nat.le_refl _⟩, ⟨bkS BK230⟩, ⟨bkS BK231⟩, ⟨bkS BK232⟩, ⟨bkS BK233⟩, ⟨bS HB⟩⟩
      ·
       replace c24 := Bool.eq_false_iff.mpr c24
       subst c24
       have H1 : (if a1_1 = 0 then (if a2_1 = 0 then ((congr_holds.f a0 a1_2 a2_2).bind fun t234 => (congr_Test.j1 kj3 a0 (!t234) false a1_1 a1_2 false a2_1 a2_2)) else (congr_Test.j1 kj3 a0 false false a1_1 a1_2 false a2_1 a2_2)) else (congr_Test.j1 kj3 a0 false false a1_1 a1_2 false a2_1 a2_2)) = some (r1, r2, r3, r4, r5, r6) := by rw [if_neg (show ¬ (false = true) by decide)] at H; exact H
       clear H
       have H := H1
       clear H1
       by_cases c32 : a1_1 = 0
       ·
        rw [if_pos c32] at H
        have c32b0 : (a1_1 == 0) = true := beq_iff_eq.mpr c32
        have c32b1 : (a1_1 != 0) = false := bne_eq_false_iff_eq.mpr c32
        clear c32
        (first | rw [c32b0] | (simp only [i64_w, i32_w]; rw [c32b0]) | skip)
        by_cases c33 : a2_1 = 0
        ·
         rw [if_pos c33] at H
         have c33b0 : (a2_1 == 0) = true := beq_iff_eq.mpr c33
         have c33b1 : (a2_1 != 0) = false := bne_eq_false_iff_eq.mpr c33
         clear c33
         replace H := Option.bind_eq_some_iff.mp H
         obtain ⟨t234, A340, H⟩ := H
         replace H : (congr_Test.j1 kj3 a0 (!t234) false a1_1 a1_2 false a2_1 a2_2) = some (r1, r2, r3, r4, r5, r6) := H
         have A34 := Aside0.mk A340
         clear A340
         have H' := Aside0.mk H
         clear H
         have hnb35 := NB230_231.out
         have hnc35 := NB231_230.out
         have hnb36 := NB230_232.out
         have hnc36 := NB232_230.out
         have hnb37 := NB230_233.out
         have hnc37 := NB233_230.out
         have hcz38_0 : wc.cell? ⟨gb230, 0, none⟩ = some (.bool false) := cz0 BK230
         have hcz38_1 : wc.cell? ⟨gb230, 1, none⟩ = some (.int .i64 a1_1) := cz1 BK230
         have hcz38_2 : wc.cell? ⟨gb230, 2, none⟩ = some (.int .i64 a1_2) := cz2 BK230
         have hfz38_0 := fz BK230 0
         have hfz38_1 := fz BK230 1
         have hfz38_2 := fz BK230 2
         have hnb39 := NB231_232.out
         have hnc39 := NB232_231.out
         have hnb40 := NB231_233.out
         have hnc40 := NB233_231.out
         have hcz41_0 : wc.cell? ⟨gb231, 0, none⟩ = some (.bool false) := cz0 BK231
         have hcz41_1 : wc.cell? ⟨gb231, 1, none⟩ = some (.int .i64 a2_1) := cz1 BK231
         have hcz41_2 : wc.cell? ⟨gb231, 2, none⟩ = some (.int .i64 a2_2) := cz2 BK231
         have hfz41_0 := fz BK231 0
         have hfz41_1 := fz BK231 1
         have hfz41_2 := fz BK231 2
         go_wp2_with (first | (go_at_call 67; (with_reducible refine (congr_holds.calls a0 a1_2 a2_2 t234 _ A34.out).mono ?_); rintro e w' ⟨rfl, ⟨nd, rfl⟩⟩))
         go_meet
         case rel => exact ⟨_, (!t234), (by first | rfl | (simp; done) | (simp [*]; done)), H', ⟨by have := HJ3.out; first | omega | exact Nat.le_refl _⟩, ⟨bkS BK230⟩, ⟨bkS BK231⟩, ⟨bkS BK232⟩, ⟨bkS BK233⟩, ⟨bS HB⟩⟩
        ·
         rw [if_neg c33] at H
         have c33b0 : (a2_1 == 0) = false := beq_eq_false_iff_ne.mpr c33
         have c33b1 : (a2_1 != 0) = true := bne_iff_ne.mpr c33
         have H' := Aside0.mk H
         clear H
         have hnb42 := NB230_231.out
         have hnc42 := NB231_230.out
         have hnb43 := NB230_232.out
         have hnc43 := NB232_230.out
         have hnb44 := NB230_233.out
         have hnc44 := NB233_230.out
         have hcz45_0 : wc.cell? ⟨gb230, 0, none⟩ = some (.bool false) := cz0 BK230
         have hcz45_1 : wc.cell? ⟨gb230, 1, none⟩ = some (.int .i64 a1_1) := cz1 BK230
         have hcz45_2 : wc.cell? ⟨gb230, 2, none⟩ = some (.int .i64 a1_2) := cz2 BK230
         have hfz45_0 := fz BK230 0
         have hfz45_1 := fz BK230 1
         have hfz45_2 := fz BK230 2
         have hnb46 := NB231_232.out
         have hnc46 := NB232_231.out
         have hnb47 := NB231_233.out
         have hnc47 := NB233_231.out
         have hcz48_0 : wc.cell? ⟨gb231, 0, none⟩ = some (.bool false) := cz0 BK231
         have hcz48_1 : wc.cell? ⟨gb231, 1, none⟩ = some (.int .i64 a2_1) := cz1 BK231
         have hcz48_2 : wc.cell? ⟨gb231, 2, none⟩ = some (.int .i64 a2_2) := cz2 BK231
         have hfz48_0 := fz BK231 0
         have hfz48_1 := fz BK231 1
         have hfz48_2 := fz BK231 2
         go_wp2
         go_meet
         case rel => exact ⟨_, (false), (by first | rfl | (simp; done) | (simp [*]; done)), H', ⟨by have := HJ3.out; first | omega | exact Nat.le_refl _⟩, ⟨bkS BK230⟩, ⟨bkS BK231⟩, ⟨bkS BK232⟩, ⟨bkS BK233⟩, ⟨bS HB⟩⟩
       ·
        rw [if_neg c32] at H
        have c32b0 : (a1_1 == 0) = false := beq_eq_false_iff_ne.mpr c32
        have c32b1 : (a1_1 != 0) = true := bne_iff_ne.mpr c32
        (first | rw [c32b0] | (simp only [i64_w, i32_w]; rw [c32b0]) | skip)
        have H' := Aside0.mk H
        clear H
        have hnb49 := NB230_231.out
        have hnc49 := NB231_230.out
        have hnb50 := NB230_232.out
        have hnc50 := NB232_230.out
        have hnb51 := NB230_233.out
        have hnc51 := NB233_230.out
        have hcz52_0 : wc.cell? ⟨gb230, 0, none⟩ = some (.bool false) := cz0 BK230
        have hcz52_1 : wc.cell? ⟨gb230, 1, none⟩ = some (.int .i64 a1_1) := cz1 BK230
        have hcz52_2 : wc.cell? ⟨gb230, 2, none⟩ = some (.int .i64 a1_2) := cz2 BK230
        have hfz52_0 := fz BK230 0
        have hfz52_1 := fz BK230 1
        have hfz52_2 := fz BK230 2
        have hnb53 := NB231_232.out
        have hnc53 := NB232_231.out
        have hnb54 := NB231_233.out
        have hnc54 := NB233_231.out
        have hcz55_0 : wc.cell? ⟨gb231, 0, none⟩ = some (.bool false) := cz0 BK231
        have hcz55_1 : wc.cell? ⟨gb231, 1, none⟩ = some (.int .i64 a2_1) := cz1 BK231
        have hcz55_2 : wc.cell? ⟨gb231, 2, none⟩ = some (.int .i64 a2_2) := cz2 BK231
        have hfz55_0 := fz BK231 0
        have hfz55_1 := fz BK231 1
        have hfz55_2 := fz BK231 2
        go_wp2
        go_meet
        case rel => exact ⟨_, (false), (by first | rfl | (simp; done) | (simp [*]; done)), H', ⟨by have := HJ3.out; first | omega | exact Nat.le_refl _⟩, ⟨bkS BK230⟩, ⟨bkS BK231⟩, ⟨bkS BK232⟩, ⟨bkS BK233⟩, ⟨bS HB⟩⟩
    case rest =>
     clear HC18
     try clear c1
     try clear c2
     try clear p2
     try clear c3
     try clear c4
     try clear c5
     try clear c9
     try clear c9b0
     try clear c10
     try clear c19
     try clear c20
     try clear c21
     try clear c22
     try clear c24
     try clear c25
     try clear c26
     try clear c27
     try clear c29
     try clear c30
     try clear c32
     try clear c32b0
     try clear c32b1
     try clear c33
     try clear c33b0
     try clear c33b1
     try clear c35
     try clear c36
     try clear c37
     try clear c39
     try clear c40
     try clear c42
     try clear c43
     try clear c44
     try clear c46
     try clear c47
     try clear c49
     try clear c50
     try clear c51
     try clear c53
     try clear c54
     try clear hcz23_0
     try clear hcz23_1
     try clear hcz23_2
     try clear hcz28_0
     try clear hcz28_1
     try clear hcz28_2
     try clear hcz31_0
     try clear hcz31_1
     try clear hcz31_2
     try clear hcz38_0
     try clear hcz38_1
     try clear hcz38_2
     try clear hcz41_0
     try clear hcz41_1
     try clear hcz41_2
     try clear hcz45_0
     try clear hcz45_1
     try clear hcz45_2
     try clear hcz48_0
     try clear hcz48_1
     try clear hcz48_2
     try clear hcz52_0
     try clear hcz52_1
     try clear hcz52_2
     try clear hcz55_0
     try clear hcz55_1
     try clear hcz55_2
     try clear hfz23_0
     try clear hfz23_1
     try clear hfz23_2
     try clear hfz28_0
     try clear hfz28_1
     try clear hfz28_2
     try clear hfz31_0
     try clear hfz31_1
     try clear hfz31_2
     try clear hfz38_0
     try clear hfz38_1
     try clear hfz38_2
     try clear hfz41_0
     try clear hfz41_1
     try clear hfz41_2
     try clear hfz45_0
     try clear hfz45_1
     try clear hfz45_2
     try clear hfz48_0
     try clear hfz48_1
     try clear hfz48_2
     try clear hfz52_0
     try clear hfz52_1
     try clear hfz52_2
     try clear hfz55_0
     try clear hfz55_1
     try clear hfz55_2
     try clear p2
     obtain ⟨kq, x18_17, rfl, HA, HJ17, BK230, BK231, BK232, BK233, HB⟩ := hcut
     cases kq with
     | zero => exact absurd HA.out (by simp [congr_Test.j1])
     | succ kj17 =>
      have H := HA.out
      clear HA
      simp only [congr_Test.j1] at H
      by_cases c56 : x18_17 = true
      ·
       subst c56
       have H1 : ((congr_none.f).bind fun bt235 => ((congr_none.f).bind fun bt238 => (some (bt235.1, bt235.2.1, bt235.2.2, bt238.1, bt238.2.1, bt238.2.2)))) = some (r1, r2, r3, r4, r5, r6) := by rw [if_pos rfl] at H; exact H
       clear H
       have H := H1
       clear H1
       replace H := Option.bind_eq_some_iff.mp H
       obtain ⟨⟨t235, t236, t237⟩, A570, H⟩ := H
       replace H : ((congr_none.f).bind fun bt238 => (some (t235, t236, t237, bt238.1, bt238.2.1, bt238.2.2))) = some (r1, r2, r3, r4, r5, r6) := H
       have A57 := Aside0.mk A570
       clear A570
       replace H := Option.bind_eq_some_iff.mp H
       obtain ⟨⟨t238, t239, t240⟩, A580, H⟩ := H
       replace H : (some (t235, t236, t237, t238, t239, t240)) = some (r1, r2, r3, r4, r5, r6) := H
       have A58 := Aside0.mk A580
       clear A580
       simp only [Option.some.injEq, Prod.mk.injEq] at H
       obtain ⟨rfl, rfl, rfl, rfl, rfl, rfl⟩ := H
       go_wp2_with (first | ((with_reducible refine gate_callee (f := 56) rfl ?_); refine goesL_ (some 44) rfl rfl Tryd.func56 (by kernel_rfl) rfl #[] rfl mS ?_; (with_reducible refine (congr_none.calls  t235 t236 t237 _ A57.out).mono ?_); rintro e w59 ⟨rfl, hb⟩; refine ⟨_, rfl, ?_⟩; replace BK230 := kB BK230 hb; replace BK231 := kB BK231 hb; replace BK232 := kB BK232 hb; replace BK233 := kB BK233 hb; replace HB := kW HB hb; (try clear hb); (try clear hb2); (try clear hk); (try clear hi)) | ((with_reducible refine gate_callee (f := 56) rfl ?_); refine goesL_ (some 45) rfl rfl Tryd.func56 (by kernel_rfl) rfl #[] rfl mS ?_; (with_reducible refine (congr_none.calls  t238 t239 t240 _ A58.out).mono ?_); rintro e w60 ⟨rfl, hb⟩; refine ⟨_, rfl, ?_⟩; replace BK230 := kB BK230 hb; replace BK231 := kB BK231 hb; replace BK232 := kB BK232 hb; replace BK233 := kB BK233 hb; replace HB := kW HB hb; (try clear hb); (try clear hb2); (try clear hk); (try clear hi); have hnb61 := NB232_230.out; have hnc61 := NB230_232.out; have hnb62 := NB232_231.out; have hnc62 := NB231_232.out; have hnb63 := NB232_233.out; have hnc63 := NB233_232.out; have hcz64_0 := cz0 BK232; have hcz64_1 := cz1 BK232; have hcz64_2 := cz2 BK232; have hfz64_0 := fz BK232 0; have hfz64_1 := fz BK232 1; have hfz64_2 := fz BK232 2; have hnb65 := NB233_230.out; have hnc65 := NB230_233.out; have hnb66 := NB233_231.out; have hnc66 := NB231_233.out; have hcz67_0 := cz0 BK233; have hcz67_1 := cz1 BK233; have hcz67_2 := cz2 BK233; have hfz67_0 := fz BK233 0; have hfz67_1 := fz BK233 1; have hfz67_2 := fz BK233 2))
       refine bodyPost_ret (results_cc rfl _ _ gb232 gb233 23 23 #[.bool t235, .int .i64 t236, .int .i64 t237] #[.bool t238, .int .i64 t239, .int .i64 t240] (0, 0) (0, 0) _ _ rfl (by (with_reducible repeat (first | refine b1 ?_ _ | refine b2 ?_ | refine b3 ?_ _)); refine blk_far ?_ NB232_233.out _; (with_reducible repeat (first | refine b1 ?_ _ | refine b2 ?_ | refine b3 ?_ _)); refine blk_far ?_ NB232_233.out _; (with_reducible repeat (first | refine b1 ?_ _ | refine b2 ?_ | refine b3 ?_ _)); refine blk_far ?_ NB232_233.out _; (with_reducible repeat (first | refine b1 ?_ _ | refine b2 ?_ | refine b3 ?_ _)); refine blk_put (cs := #[.bool t235, .int .i64 t236, .int .i64 0]) ?_ 2 _ rfl; (with_reducible repeat (first | refine b1 ?_ _ | refine b2 ?_ | refine b3 ?_ _)); refine blk_put (cs := #[.bool t235, .int .i64 0, .int .i64 0]) ?_ 1 _ rfl; (with_reducible repeat (first | refine b1 ?_ _ | refine b2 ?_ | refine b3 ?_ _)); refine blk_put (cs := #[.bool false, .int .i64 0, .int .i64 0]) ?_ 0 _ rfl; (with_reducible repeat (first | refine b1 ?_ _ | refine b2 ?_ | refine b3 ?_ _)); exact BK232.out) Tryd.underlying23 rfl (by kernel_rfl) rfl (by (with_reducible repeat (first | refine b1 ?_ _ | refine b2 ?_ | refine b3 ?_ _)); refine blk_put (cs := #[.bool t238, .int .i64 t239, .int .i64 0]) ?_ 2 _ rfl; (with_reducible repeat (first | refine b1 ?_ _ | refine b2 ?_ | refine b3 ?_ _)); refine blk_put (cs := #[.bool t238, .int .i64 0, .int .i64 0]) ?_ 1 _ rfl; (with_reducible repeat (first | refine b1 ?_ _ | refine b2 ?_ | refine b3 ?_ _)); refine blk_put (cs := #[.bool false, .int .i64 0, .int .i64 0]) ?_ 0 _ rfl; (with_reducible repeat (first | refine b1 ?_ _ | refine b2 ?_ | refine b3 ?_ _)); refine blk_far ?_ NB233_232.out _; (with_reducible repeat (first | refine b1 ?_ _ | refine b2 ?_ | refine b3 ?_ _)); refine blk_far ?_ NB233_232.out _; (with_reducible repeat (first | refine b1 ?_ _ | refine b2 ?_ | refine b3 ?_ _)); refine blk_far ?_ NB233_232.out _; (with_reducible repeat (first | refine b1 ?_ _ | refine b2 ?_ | refine b3 ?_ _)); exact BK233.out) Tryd.underlying23 rfl (by kernel_rfl)) rfl ?_
       exact ⟨eS, bS HB⟩
      ·
       replace c56 := Bool.eq_false_iff.mpr c56
       subst c56
       have H1 : (if a0 = 14 then ((congr_Meet.f kj17 a1_0 a1_1 a1_2 a2_0 a2_1 a2_2).bind fun bt241 => (some (bt241.1, bt241.2.1, bt241.2.2, bt241.1, bt241.2.1, bt241.2.2))) else (some (a1_0, a1_1, a1_2, a2_0, a2_1, a2_2))) = some (r1, r2, r3, r4, r5, r6) := by rw [if_neg (show ¬ (false = true) by decide)] at H; exact H
       clear H
       have H := H1
       clear H1
       by_cases c68 : a0 = 14
       ·
        rw [if_pos c68] at H
        have c68b0 : (a0 == 14) = true := beq_iff_eq.mpr c68
        have c68b1 : (a0 != 14) = false := bne_eq_false_iff_eq.mpr c68
        clear c68
        replace H := Option.bind_eq_some_iff.mp H
        obtain ⟨⟨t241, t242, t243⟩, A690, H⟩ := H
        replace H : (some (t241, t242, t243, t241, t242, t243)) = some (r1, r2, r3, r4, r5, r6) := H
        have A69 := Aside0.mk A690
        clear A690
        simp only [Option.some.injEq, Prod.mk.injEq] at H
        obtain ⟨rfl, rfl, rfl, rfl, rfl, rfl⟩ := H
        have hnb70 := NB230_231.out
        have hnc70 := NB231_230.out
        have hnb71 := NB230_232.out
        have hnc71 := NB232_230.out
        have hnb72 := NB230_233.out
        have hnc72 := NB233_230.out
        have hcz73_0 : wc.cell? ⟨gb230, 0, none⟩ = some (.bool a1_0) := cz0 BK230
        have hcz73_1 : wc.cell? ⟨gb230, 1, none⟩ = some (.int .i64 a1_1) := cz1 BK230
        have hcz73_2 : wc.cell? ⟨gb230, 2, none⟩ = some (.int .i64 a1_2) := cz2 BK230
        have hfz73_0 := fz BK230 0
        have hfz73_1 := fz BK230 1
        have hfz73_2 := fz BK230 2
        have hnb74 := NB231_232.out
        have hnc74 := NB232_231.out
        have hnb75 := NB231_233.out
        have hnc75 := NB233_231.out
        have hcz76_0 : wc.cell? ⟨gb231, 0, none⟩ = some (.bool a2_0) := cz0 BK231
        have hcz76_1 : wc.cell? ⟨gb231, 1, none⟩ = some (.int .i64 a2_1) := cz1 BK231
        have hcz76_2 : wc.cell? ⟨gb231, 2, none⟩ = some (.int .i64 a2_2) := cz2 BK231
        have hfz76_0 := fz BK231 0
        have hfz76_1 := fz BK231 1
        have hfz76_2 := fz BK231 2
        try go_wp2_with (first | ((with_reducible refine gate_callee (f := 20) rfl ?_); refine goesL_ (some 51) rfl rfl Tryd.func20 (by kernel_rfl) rfl #[.agg #[.bool a1_0, .int .i64 a1_1, .int .i64 a1_2], .agg #[.bool a2_0, .int .i64 a2_1, .int .i64 a2_2]] rfl mS ?_; (with_reducible refine (congr_Meet.calls kj17 a1_0 a1_1 a1_2 a2_0 a2_1 a2_2 t241 t242 t243 _ A69.out).mono ?_); rintro e w77 ⟨rfl, hb⟩; refine ⟨_, rfl, ?_⟩; replace BK230 := kB BK230 hb; replace BK231 := kB BK231 hb; replace BK232 := kB BK232 hb; replace BK233 := kB BK233 hb; replace HB := kW HB hb; (try clear hb); (try clear hb2); (try clear hk); (try clear hi)) | ((with_reducible refine gate_dst (N := 8) rfl ?_); refine box_event ?hg (N := 8) ?hd (cs := #[.bool false, .int .i64 0, .int .i64 0]) (t := 23) ?hr ?_; (case hd => rfl); (case hg => rfl); (case hr => first | (go_simp; done) | (go_simp; rfl)); intro gb244 hg w78 hbox hb; have n0_ := kB BK230 hb; have n1_ := kB BK231 hb; have n2_ := kB BK232 hb; have n3_ := kB BK233 hb; have n4_ := kW HB hb; have n5_ := Aside0.mk (hbox); have n6_ := Aside0.mk ((by rw [hg]; exact (below_size (bS HB)) : w.heap.size ≤ gb244)); have n7_ := Aside0.mk ((by rw [hg]; exact (below_size (bS HB)) : w.heap.size ≤ gb244)); have n8_ := Aside0.mk ((by rw [hg]; exact Nat.ne_of_lt (blk_lt (bkS BK230)) : gb230 ≠ gb244)); have n9_ := Aside0.mk ((by rw [hg]; exact Nat.ne_of_gt (blk_lt (bkS BK230)) : gb244 ≠ gb230)); have n10_ := Aside0.mk ((by rw [hg]; exact Nat.ne_of_lt (blk_lt (bkS BK231)) : gb231 ≠ gb244)); have n11_ := Aside0.mk ((by rw [hg]; exact Nat.ne_of_gt (blk_lt (bkS BK231)) : gb244 ≠ gb231)); have n12_ := Aside0.mk ((by rw [hg]; exact Nat.ne_of_lt (blk_lt (bkS BK232)) : gb232 ≠ gb244)); have n13_ := Aside0.mk ((by rw [hg]; exact Nat.ne_of_gt (blk_lt (bkS BK232)) : gb244 ≠ gb232)); have n14_ := Aside0.mk ((by rw [hg]; exact Nat.ne_of_lt (blk_lt (bkS BK233)) : gb233 ≠ gb244)); have n15_ := Aside0.mk ((by rw [hg]; exact Nat.ne_of_gt (blk_lt (bkS BK233)) : gb244 ≠ gb233)); clear BK230; clear BK231; clear BK232; clear BK233; clear HB; have BK230 := n0_; have BK231 := n1_; have BK232 := n2_; have BK233 := n3_; have HB := n4_; have BK244 := n5_; have GW244 := n6_; have GE244 := n7_; have NB230_244 := n8_; have NB244_230 := n9_; have NB231_244 := n10_; have NB244_231 := n11_; have NB232_244 := n12_; have NB244_232 := n13_; have NB233_244 := n14_; have NB244_233 := n15_; clear n0_ n1_ n2_ n3_ n4_ n5_ n6_ n7_ n8_ n9_ n10_ n11_ n12_ n13_ n14_ n15_; clear hb hbox hg; have hnb79 := NB244_230.out; have hnc79 := NB230_244.out; have hnb80 := NB244_231.out; have hnc80 := NB231_244.out; have hnb81 := NB244_232.out; have hnc81 := NB232_244.out; have hnb82 := NB244_233.out; have hnc82 := NB233_244.out; have hcz83_0 := cz0 BK244; have hcz83_1 := cz1 BK244; have hcz83_2 := cz2 BK244; have hfz83_0 := fz BK244 0; have hfz83_1 := fz BK244 1; have hfz83_2 := fz BK244 2))
        have n0_ : Aside0 ((((w78.setCell ⟨gb244, 0, none⟩ (.bool t241)).setCell ⟨gb244, 1, none⟩ (.int .i64 t242)).setCell ⟨gb244, 2, none⟩ (.int .i64 t243)).heap[gb230]? = some (.cells #[.bool a1_0, .int .i64 a1_1, .int .i64 a1_2] 23 (0, 0))) := ⟨bkS BK230⟩
        have n1_ : Aside0 ((((w78.setCell ⟨gb244, 0, none⟩ (.bool t241)).setCell ⟨gb244, 1, none⟩ (.int .i64 t242)).setCell ⟨gb244, 2, none⟩ (.int .i64 t243)).heap[gb231]? = some (.cells #[.bool a2_0, .int .i64 a2_1, .int .i64 a2_2] 23 (0, 0))) := ⟨bkS BK231⟩
        have n2_ : Aside0 ((((w78.setCell ⟨gb244, 0, none⟩ (.bool t241)).setCell ⟨gb244, 1, none⟩ (.int .i64 t242)).setCell ⟨gb244, 2, none⟩ (.int .i64 t243)).heap[gb232]? = some (.cells #[.bool false, .int .i64 0, .int .i64 0] 23 (0, 0))) := ⟨bkS BK232⟩
        have n3_ : Aside0 ((((w78.setCell ⟨gb244, 0, none⟩ (.bool t241)).setCell ⟨gb244, 1, none⟩ (.int .i64 t242)).setCell ⟨gb244, 2, none⟩ (.int .i64 t243)).heap[gb233]? = some (.cells #[.bool false, .int .i64 0, .int .i64 0] 23 (0, 0))) := ⟨bkS BK233⟩
        have n4_ : Aside0 ((((w78.setCell ⟨gb244, 0, none⟩ (.bool t241)).setCell ⟨gb244, 1, none⟩ (.int .i64 t242)).setCell ⟨gb244, 2, none⟩ (.int .i64 t243)).heap[gb244]? = some (.cells #[.bool t241, .int .i64 t242, .int .i64 t243] 23 (0, 0))) := ⟨by (with_reducible repeat (first | refine b1 ?_ _ | refine b2 ?_ | refine b3 ?_ _)); refine blk_put (cs := #[.bool t241, .int .i64 t242, .int .i64 0]) ?_ 2 _ rfl; (with_reducible repeat (first | refine b1 ?_ _ | refine b2 ?_ | refine b3 ?_ _)); refine blk_put (cs := #[.bool t241, .int .i64 0, .int .i64 0]) ?_ 1 _ rfl; (with_reducible repeat (first | refine b1 ?_ _ | refine b2 ?_ | refine b3 ?_ _)); refine blk_put (cs := #[.bool false, .int .i64 0, .int .i64 0]) ?_ 0 _ rfl; (with_reducible repeat (first | refine b1 ?_ _ | refine b2 ?_ | refine b3 ?_ _)); exact BK244.out⟩
        have n5_ : Aside0 (Below w.heap.size w (((w78.setCell ⟨gb244, 0, none⟩ (.bool t241)).setCell ⟨gb244, 1, none⟩ (.int .i64 t242)).setCell ⟨gb244, 2, none⟩ (.int .i64 t243))) := ⟨bS HB⟩
        (try clear BK230)
        (try clear BK231)
        (try clear BK232)
        (try clear BK233)
        (try clear BK244)
        (try clear HB)
        generalize (((w78.setCell ⟨gb244, 0, none⟩ (.bool t241)).setCell ⟨gb244, 1, none⟩ (.int .i64 t242)).setCell ⟨gb244, 2, none⟩ (.int .i64 t243)) = w84 at n0_ n1_ n2_ n3_ n4_ n5_ ⊢
        have BK230 := n0_
        have BK231 := n1_
        have BK232 := n2_
        have BK233 := n3_
        have BK244 := n4_
        have HB := n5_
        clear n0_ n1_ n2_ n3_ n4_ n5_
        replace BK230 := Aside0.mk (blk_drew BK230.out)
        replace BK231 := Aside0.mk (blk_drew BK231.out)
        replace BK232 := Aside0.mk (blk_drew BK232.out)
        replace BK233 := Aside0.mk (blk_drew BK233.out)
        replace BK244 := Aside0.mk (blk_drew BK244.out)
        replace HB := Aside0.mk (below_drew1 HB.out)
        refine start_ (n := 4) (S := fun w' => w'.cell? ⟨gb244, 0, none⟩ = some (.bool t241) ∧ w'.cell? ⟨gb244, 1, none⟩ = some (.int .i64 t242) ∧ w'.cell? ⟨gb244, 2, none⟩ = some (.int .i64 t243)) (ds := []) #[false, false, false, false] (by kernel_rfl) rfl rfl ⟨cz0 BK244, cz1 BK244, cz2 BK244⟩ (fun hHeld => ?_)
        generalize w84.drew = w85 at BK230 BK231 BK232 BK233 BK244 HB hHeld ⊢
        refine take_ (i := 0) (N := some 52) (v := ?_) (a' := ?_) #[true, false, false, false] rfl rfl (by kernel_rfl) (fun _ _ _ h => h) (Or.inl ⟨by rfl, ?_⟩) hHeld ?_ ?_
        rotate_left
        ·
         rintro w' ⟨s0, s1, s2⟩
         go_simp
         with_reducible rfl
        rotate_left
        ·
         simp only [Act.put, lA, lB, lC, i64_w, i32_w]
         rfl
        refine take_ (i := 1) (N := some 53) (v := ?_) (a' := ?_) #[true, true, false, false] rfl rfl (by kernel_rfl) (fun _ _ _ h => h) (Or.inl ⟨by rfl, ?_⟩) hHeld ?_ ?_
        rotate_left
        ·
         rintro w' ⟨s0, s1, s2⟩
         go_simp
         with_reducible rfl
        rotate_left
        ·
         simp only [Act.put, lA, lB, lC, i64_w, i32_w]
         rfl
        refine one_ (i := 2) (N := none) #[true, true, true, false] rfl rfl (by kernel_rfl) (by decide) (fun K hK => ?_)
        have hs86 : w85.cell? ⟨gb232, 0, none⟩ = some (.bool false) := cz0 BK232
        have hfs86 := fz BK232 0
        have hns86_0 := NB230_232.out
        have hns86_1 := NB231_232.out
        have hns86_3 := NB233_232.out
        have hns86_4 := NB244_232.out
        have hms86_0 := NB232_230.out
        have hms86_1 := NB232_231.out
        have hms86_3 := NB232_233.out
        have hms86_4 := NB232_244.out
        have hs87 : w85.cell? ⟨gb232, 1, none⟩ = some (.int .i64 0) := cz1 BK232
        have hfs87 := fz BK232 1
        have hns87_0 := NB230_232.out
        have hns87_1 := NB231_232.out
        have hns87_3 := NB233_232.out
        have hns87_4 := NB244_232.out
        have hms87_0 := NB232_230.out
        have hms87_1 := NB232_231.out
        have hms87_3 := NB232_233.out
        have hms87_4 := NB232_244.out
        have hs88 : w85.cell? ⟨gb232, 2, none⟩ = some (.int .i64 0) := cz2 BK232
        have hfs88 := fz BK232 2
        have hns88_0 := NB230_232.out
        have hns88_1 := NB231_232.out
        have hns88_3 := NB233_232.out
        have hns88_4 := NB244_232.out
        have hms88_0 := NB232_230.out
        have hms88_1 := NB232_231.out
        have hms88_3 := NB232_233.out
        have hms88_4 := NB232_244.out
        refine skip_ (w1 := ?_) (by rfl) rfl ?_ ?_
        rotate_left
        ·
         go_simp
         rfl
        refine hK.out _ _ ⟨((cell_far (p := ⟨gb232, _, none⟩) NB244_232.out _).trans (((cell_far (p := ⟨gb232, _, none⟩) NB244_232.out _).trans (((cell_far (p := ⟨gb232, _, none⟩) NB244_232.out _).trans (hHeld.1)))))), ((cell_far (p := ⟨gb232, _, none⟩) NB244_232.out _).trans (((cell_far (p := ⟨gb232, _, none⟩) NB244_232.out _).trans (((cell_far (p := ⟨gb232, _, none⟩) NB244_232.out _).trans (hHeld.2.1)))))), ((cell_far (p := ⟨gb232, _, none⟩) NB244_232.out _).trans (((cell_far (p := ⟨gb232, _, none⟩) NB244_232.out _).trans (((cell_far (p := ⟨gb232, _, none⟩) NB244_232.out _).trans (hHeld.2.2))))))⟩ (fun hHeld => ?_)
        clear hK K
        refine one_ (i := 3) (N := none) #[true, true, true, true] rfl rfl (by kernel_rfl) (by decide) (fun K hK => ?_)
        have hs89 : w85.cell? ⟨gb233, 0, none⟩ = some (.bool false) := cz0 BK233
        have hfs89 := fz BK233 0
        have hns89_0 := NB230_233.out
        have hns89_1 := NB231_233.out
        have hns89_2 := NB232_233.out
        have hns89_4 := NB244_233.out
        have hms89_0 := NB233_230.out
        have hms89_1 := NB233_231.out
        have hms89_2 := NB233_232.out
        have hms89_4 := NB233_244.out
        have hs90 : w85.cell? ⟨gb233, 1, none⟩ = some (.int .i64 0) := cz1 BK233
        have hfs90 := fz BK233 1
        have hns90_0 := NB230_233.out
        have hns90_1 := NB231_233.out
        have hns90_2 := NB232_233.out
        have hns90_4 := NB244_233.out
        have hms90_0 := NB233_230.out
        have hms90_1 := NB233_231.out
        have hms90_2 := NB233_232.out
        have hms90_4 := NB233_244.out
        have hs91 : w85.cell? ⟨gb233, 2, none⟩ = some (.int .i64 0) := cz2 BK233
        have hfs91 := fz BK233 2
        have hns91_0 := NB230_233.out
        have hns91_1 := NB231_233.out
        have hns91_2 := NB232_233.out
        have hns91_4 := NB244_233.out
        have hms91_0 := NB233_230.out
        have hms91_1 := NB233_231.out
        have hms91_2 := NB233_232.out
        have hms91_4 := NB233_244.out
        refine skip_ (w1 := ?_) (by rfl) rfl ?_ ?_
        rotate_left
        ·
         go_simp
         rfl
        refine hK.out _ _ ⟨((cell_far (p := ⟨gb233, _, none⟩) NB244_233.out _).trans (((cell_far (p := ⟨gb233, _, none⟩) NB244_233.out _).trans (((cell_far (p := ⟨gb233, _, none⟩) NB244_233.out _).trans (hHeld.1)))))), ((cell_far (p := ⟨gb233, _, none⟩) NB244_233.out _).trans (((cell_far (p := ⟨gb233, _, none⟩) NB244_233.out _).trans (((cell_far (p := ⟨gb233, _, none⟩) NB244_233.out _).trans (hHeld.2.1)))))), ((cell_far (p := ⟨gb233, _, none⟩) NB244_233.out _).trans (((cell_far (p := ⟨gb233, _, none⟩) NB244_233.out _).trans (((cell_far (p := ⟨gb233, _, none⟩) NB244_233.out _).trans (hHeld.2.2))))))⟩ (fun hHeld => ?_)
        clear hK K
        refine done_ (by kernel_rfl) ?_
        try go_wp2
        refine bodyPost_ret (results_cc rfl _ _ gb232 gb233 23 23 #[.bool t241, .int .i64 t242, .int .i64 t243] #[.bool t241, .int .i64 t242, .int .i64 t243] (0, 0) (0, 0) _ _ rfl (by (with_reducible repeat (first | refine b1 ?_ _ | refine b2 ?_ | refine b3 ?_ _)); refine blk_far ?_ NB232_233.out _; (with_reducible repeat (first | refine b1 ?_ _ | refine b2 ?_ | refine b3 ?_ _)); refine blk_far ?_ NB232_233.out _; (with_reducible repeat (first | refine b1 ?_ _ | refine b2 ?_ | refine b3 ?_ _)); refine blk_far ?_ NB232_233.out _; (with_reducible repeat (first | refine b1 ?_ _ | refine b2 ?_ | refine b3 ?_ _)); refine blk_put (cs := #[.bool t241, .int .i64 t242, .int .i64 0]) ?_ 2 _ rfl; (with_reducible repeat (first | refine b1 ?_ _ | refine b2 ?_ | refine b3 ?_ _)); refine blk_put (cs := #[.bool t241, .int .i64 0, .int .i64 0]) ?_ 1 _ rfl; (with_reducible repeat (first | refine b1 ?_ _ | refine b2 ?_ | refine b3 ?_ _)); refine blk_put (cs := #[.bool false, .int .i64 0, .int .i64 0]) ?_ 0 _ rfl; (with_reducible repeat (first | refine b1 ?_ _ | refine b2 ?_ | refine b3 ?_ _)); exact BK232.out) Tryd.underlying23 rfl (by kernel_rfl) rfl (by (with_reducible repeat (first | refine b1 ?_ _ | refine b2 ?_ | refine b3 ?_ _)); refine blk_put (cs := #[.bool t241, .int .i64 t242, .int .i64 0]) ?_ 2 _ rfl; (with_reducible repeat (first | refine b1 ?_ _ | refine b2 ?_ | refine b3 ?_ _)); refine blk_put (cs := #[.bool t241, .int .i64 0, .int .i64 0]) ?_ 1 _ rfl; (with_reducible repeat (first | refine b1 ?_ _ | refine b2 ?_ | refine b3 ?_ _)); refine blk_put (cs := #[.bool false, .int .i64 0, .int .i64 0]) ?_ 0 _ rfl; (with_reducible repeat (first | refine b1 ?_ _ | refine b2 ?_ | refine b3 ?_ _)); refine blk_far ?_ NB233_232.out _; (with_reducible repeat (first | refine b1 ?_ _ | refine b2 ?_ | refine b3 ?_ _)); refine blk_far ?_ NB233_232.out _; (with_reducible repeat (first | refine b1 ?_ _ | refine b2 ?_ | refine b3 ?_ _)); refine blk_far ?_ NB233_232.out _; (with_reducible repeat (first | refine b1 ?_ _ | refine b2 ?_ | refine b3 ?_ _)); exact BK233.out) Tryd.underlying23 rfl (by kernel_rfl)) rfl ?_
        exact ⟨eS, bS HB⟩
       ·
        rw [if_neg c68] at H
        have c68b0 : (a0 == 14) = false := beq_eq_false_iff_ne.mpr c68
        have c68b1 : (a0 != 14) = true := bne_iff_ne.mpr c68
        simp only [Option.some.injEq, Prod.mk.injEq] at H
        obtain ⟨rfl, rfl, rfl, rfl, rfl, rfl⟩ := H
        try go_wp2
        replace BK230 := Aside0.mk (blk_drew BK230.out)
        replace BK231 := Aside0.mk (blk_drew BK231.out)
        replace BK232 := Aside0.mk (blk_drew BK232.out)
        replace BK233 := Aside0.mk (blk_drew BK233.out)
        replace HB := Aside0.mk (below_drew1 HB.out)
        refine start_ (n := 4) (S := fun w' => w'.cell? ⟨gb230, 0, none⟩ = some (.bool a1_0) ∧ w'.cell? ⟨gb230, 1, none⟩ = some (.int .i64 a1_1) ∧ w'.cell? ⟨gb230, 2, none⟩ = some (.int .i64 a1_2) ∧ w'.cell? ⟨gb231, 0, none⟩ = some (.bool a2_0) ∧ w'.cell? ⟨gb231, 1, none⟩ = some (.int .i64 a2_1) ∧ w'.cell? ⟨gb231, 2, none⟩ = some (.int .i64 a2_2)) (ds := []) #[false, false, false, false] (by kernel_rfl) rfl rfl ⟨cz0 BK230, cz1 BK230, cz2 BK230, cz0 BK231, cz1 BK231, cz2 BK231⟩ (fun hHeld => ?_)
        generalize wc.drew = w92 at BK230 BK231 BK232 BK233 HB hHeld ⊢
        refine take_ (i := 0) (N := some 54) (v := ?_) (a' := ?_) #[true, false, false, false] rfl rfl (by kernel_rfl) (fun _ _ _ h => h) (Or.inl ⟨by rfl, ?_⟩) hHeld ?_ ?_
        rotate_left
        ·
         rintro w' ⟨s0, s1, s2, s3, s4, s5⟩
         go_simp
         with_reducible rfl
        rotate_left
        ·
         simp only [Act.put, lA, lB, lC, i64_w, i32_w]
         rfl
        refine take_ (i := 1) (N := some 55) (v := ?_) (a' := ?_) #[true, true, false, false] rfl rfl (by kernel_rfl) (fun _ _ _ h => h) (Or.inl ⟨by rfl, ?_⟩) hHeld ?_ ?_
        rotate_left
        ·
         rintro w' ⟨s0, s1, s2, s3, s4, s5⟩
         go_simp
         with_reducible rfl
        rotate_left
        ·
         simp only [Act.put, lA, lB, lC, i64_w, i32_w]
         rfl
        refine one_ (i := 2) (N := none) #[true, true, true, false] rfl rfl (by kernel_rfl) (by decide) (fun K hK => ?_)
        have hs93 : w92.cell? ⟨gb232, 0, none⟩ = some (.bool false) := cz0 BK232
        have hfs93 := fz BK232 0
        have hns93_0 := NB230_232.out
        have hns93_1 := NB231_232.out
        have hns93_3 := NB233_232.out
        have hms93_0 := NB232_230.out
        have hms93_1 := NB232_231.out
        have hms93_3 := NB232_233.out
        have hs94 : w92.cell? ⟨gb232, 1, none⟩ = some (.int .i64 0) := cz1 BK232
        have hfs94 := fz BK232 1
        have hns94_0 := NB230_232.out
        have hns94_1 := NB231_232.out
        have hns94_3 := NB233_232.out
        have hms94_0 := NB232_230.out
        have hms94_1 := NB232_231.out
        have hms94_3 := NB232_233.out
        have hs95 : w92.cell? ⟨gb232, 2, none⟩ = some (.int .i64 0) := cz2 BK232
        have hfs95 := fz BK232 2
        have hns95_0 := NB230_232.out
        have hns95_1 := NB231_232.out
        have hns95_3 := NB233_232.out
        have hms95_0 := NB232_230.out
        have hms95_1 := NB232_231.out
        have hms95_3 := NB232_233.out
        refine skip_ (w1 := ?_) (by rfl) rfl ?_ ?_
        rotate_left
        ·
         go_simp
         rfl
        refine hK.out _ _ ⟨((cell_far (p := ⟨gb232, _, none⟩) NB230_232.out _).trans (((cell_far (p := ⟨gb232, _, none⟩) NB230_232.out _).trans (((cell_far (p := ⟨gb232, _, none⟩) NB230_232.out _).trans (hHeld.1)))))), ((cell_far (p := ⟨gb232, _, none⟩) NB230_232.out _).trans (((cell_far (p := ⟨gb232, _, none⟩) NB230_232.out _).trans (((cell_far (p := ⟨gb232, _, none⟩) NB230_232.out _).trans (hHeld.2.1)))))), ((cell_far (p := ⟨gb232, _, none⟩) NB230_232.out _).trans (((cell_far (p := ⟨gb232, _, none⟩) NB230_232.out _).trans (((cell_far (p := ⟨gb232, _, none⟩) NB230_232.out _).trans (hHeld.2.2.1)))))), ((cell_far (p := ⟨gb232, _, none⟩) NB231_232.out _).trans (((cell_far (p := ⟨gb232, _, none⟩) NB231_232.out _).trans (((cell_far (p := ⟨gb232, _, none⟩) NB231_232.out _).trans (hHeld.2.2.2.1)))))), ((cell_far (p := ⟨gb232, _, none⟩) NB231_232.out _).trans (((cell_far (p := ⟨gb232, _, none⟩) NB231_232.out _).trans (((cell_far (p := ⟨gb232, _, none⟩) NB231_232.out _).trans (hHeld.2.2.2.2.1)))))), ((cell_far (p := ⟨gb232, _, none⟩) NB231_232.out _).trans (((cell_far (p := ⟨gb232, _, none⟩) NB231_232.out _).trans (((cell_far (p := ⟨gb232, _, none⟩) NB231_232.out _).trans (hHeld.2.2.2.2.2))))))⟩ (fun hHeld => ?_)
        clear hK K
        refine one_ (i := 3) (N := none) #[true, true, true, true] rfl rfl (by kernel_rfl) (by decide) (fun K hK => ?_)
        have hs96 : w92.cell? ⟨gb233, 0, none⟩ = some (.bool false) := cz0 BK233
        have hfs96 := fz BK233 0
        have hns96_0 := NB230_233.out
        have hns96_1 := NB231_233.out
        have hns96_2 := NB232_233.out
        have hms96_0 := NB233_230.out
        have hms96_1 := NB233_231.out
        have hms96_2 := NB233_232.out
        have hs97 : w92.cell? ⟨gb233, 1, none⟩ = some (.int .i64 0) := cz1 BK233
        have hfs97 := fz BK233 1
        have hns97_0 := NB230_233.out
        have hns97_1 := NB231_233.out
        have hns97_2 := NB232_233.out
        have hms97_0 := NB233_230.out
        have hms97_1 := NB233_231.out
        have hms97_2 := NB233_232.out
        have hs98 : w92.cell? ⟨gb233, 2, none⟩ = some (.int .i64 0) := cz2 BK233
        have hfs98 := fz BK233 2
        have hns98_0 := NB230_233.out
        have hns98_1 := NB231_233.out
        have hns98_2 := NB232_233.out
        have hms98_0 := NB233_230.out
        have hms98_1 := NB233_231.out
        have hms98_2 := NB233_232.out
        refine skip_ (w1 := ?_) (by rfl) rfl ?_ ?_
        rotate_left
        ·
         go_simp
         rfl
        refine hK.out _ _ ⟨((cell_far (p := ⟨gb233, _, none⟩) NB230_233.out _).trans (((cell_far (p := ⟨gb233, _, none⟩) NB230_233.out _).trans (((cell_far (p := ⟨gb233, _, none⟩) NB230_233.out _).trans (hHeld.1)))))), ((cell_far (p := ⟨gb233, _, none⟩) NB230_233.out _).trans (((cell_far (p := ⟨gb233, _, none⟩) NB230_233.out _).trans (((cell_far (p := ⟨gb233, _, none⟩) NB230_233.out _).trans (hHeld.2.1)))))), ((cell_far (p := ⟨gb233, _, none⟩) NB230_233.out _).trans (((cell_far (p := ⟨gb233, _, none⟩) NB230_233.out _).trans (((cell_far (p := ⟨gb233, _, none⟩) NB230_233.out _).trans (hHeld.2.2.1)))))), ((cell_far (p := ⟨gb233, _, none⟩) NB231_233.out _).trans (((cell_far (p := ⟨gb233, _, none⟩) NB231_233.out _).trans (((cell_far (p := ⟨gb233, _, none⟩) NB231_233.out _).trans (hHeld.2.2.2.1)))))), ((cell_far (p := ⟨gb233, _, none⟩) NB231_233.out _).trans (((cell_far (p := ⟨gb233, _, none⟩) NB231_233.out _).trans (((cell_far (p := ⟨gb233, _, none⟩) NB231_233.out _).trans (hHeld.2.2.2.2.1)))))), ((cell_far (p := ⟨gb233, _, none⟩) NB231_233.out _).trans (((cell_far (p := ⟨gb233, _, none⟩) NB231_233.out _).trans (((cell_far (p := ⟨gb233, _, none⟩) NB231_233.out _).trans (hHeld.2.2.2.2.2))))))⟩ (fun hHeld => ?_)
        clear hK K
        refine done_ (by kernel_rfl) ?_
        try go_wp2
        refine bodyPost_ret (results_cc rfl _ _ gb232 gb233 23 23 #[.bool a1_0, .int .i64 a1_1, .int .i64 a1_2] #[.bool a2_0, .int .i64 a2_1, .int .i64 a2_2] (0, 0) (0, 0) _ _ rfl (by (with_reducible repeat (first | refine b1 ?_ _ | refine b2 ?_ | refine b3 ?_ _)); refine blk_far ?_ NB232_233.out _; (with_reducible repeat (first | refine b1 ?_ _ | refine b2 ?_ | refine b3 ?_ _)); refine blk_far ?_ NB232_233.out _; (with_reducible repeat (first | refine b1 ?_ _ | refine b2 ?_ | refine b3 ?_ _)); refine blk_far ?_ NB232_233.out _; (with_reducible repeat (first | refine b1 ?_ _ | refine b2 ?_ | refine b3 ?_ _)); refine blk_put (cs := #[.bool a1_0, .int .i64 a1_1, .int .i64 0]) ?_ 2 _ rfl; (with_reducible repeat (first | refine b1 ?_ _ | refine b2 ?_ | refine b3 ?_ _)); refine blk_put (cs := #[.bool a1_0, .int .i64 0, .int .i64 0]) ?_ 1 _ rfl; (with_reducible repeat (first | refine b1 ?_ _ | refine b2 ?_ | refine b3 ?_ _)); refine blk_put (cs := #[.bool false, .int .i64 0, .int .i64 0]) ?_ 0 _ rfl; (with_reducible repeat (first | refine b1 ?_ _ | refine b2 ?_ | refine b3 ?_ _)); exact BK232.out) Tryd.underlying23 rfl (by kernel_rfl) rfl (by (with_reducible repeat (first | refine b1 ?_ _ | refine b2 ?_ | refine b3 ?_ _)); refine blk_put (cs := #[.bool a2_0, .int .i64 a2_1, .int .i64 0]) ?_ 2 _ rfl; (with_reducible repeat (first | refine b1 ?_ _ | refine b2 ?_ | refine b3 ?_ _)); refine blk_put (cs := #[.bool a2_0, .int .i64 0, .int .i64 0]) ?_ 1 _ rfl; (with_reducible repeat (first | refine b1 ?_ _ | refine b2 ?_ | refine b3 ?_ _)); refine blk_put (cs := #[.bool false, .int .i64 0, .int .i64 0]) ?_ 0 _ rfl; (with_reducible repeat (first | refine b1 ?_ _ | refine b2 ?_ | refine b3 ?_ _)); refine blk_far ?_ NB233_232.out _; (with_reducible repeat (first | refine b1 ?_ _ | refine b2 ?_ | refine b3 ?_ _)); refine blk_far ?_ NB233_232.out _; (with_reducible repeat (first | refine b1 ?_ _ | refine b2 ?_ | refine b3 ?_ _)); refine blk_far ?_ NB233_232.out _; (with_reducible repeat (first | refine b1 ?_ _ | refine b2 ?_ | refine b3 ?_ _)); exact BK233.out) Tryd.underlying23 rfl (by kernel_rfl)) rfl ?_
        exact ⟨eS, bS HB⟩

def itv_None.f (a0_0 : Int) (a0_1 : Int) : Option (Bool) := some (decide (a0_0 > a0_1))
set_option maxHeartbeats 8000000 in
set_option maxRecDepth 100000 in
theorem itv_None.calls (a0_0 : Int) (a0_1 : Int) (r : Bool) (w : World) (h : itv_None.f a0_0 a0_1 = some r) :
  Calls Tryd.prog 72 #[.agg #[.int .i64 a0_0, .int .i64 a0_1]] w fun e w' => e = .returned (.bool r) ∧ Below w.heap.size w w' := by
 have hu38 := Tryd.underlying38
 have HB := Aside0.mk (Below.refl w.heap.size w)
 have H : (some (decide (a0_0 > a0_1))) = some r := h
 clear h
 obtain rfl := Option.some.inj H
 go_enter Tryd.func72, Tryd.ntmps72
 go_wp2_with (first | ((with_reducible refine gate_dst (N := 1) rfl ?_); refine box_event ?hg (N := 1) ?hd (cs := #[.int .i64 a0_0, .int .i64 a0_1]) (t := 38) ?hr ?_; (case hd => rfl); (case hg => rfl); (case hr => first | (go_simp; done) | (go_simp; rfl)); intro gb289 hg w2 hbox hb; have n0_ := kW HB hb; have n1_ := Aside0.mk (hbox); have n2_ := Aside0.mk ((by rw [hg]; exact (below_size (bS HB)) : w.heap.size ≤ gb289)); have n3_ := Aside0.mk ((by rw [hg]; exact (below_size (bS HB)) : w.heap.size ≤ gb289)); clear HB; have HB := n0_; have BK289 := n1_; have GW289 := n2_; have GE289 := n3_; clear n0_ n1_ n2_ n3_; clear hb hbox hg; have hcz3_0 := cz0 BK289; have hcz3_1 := cz1 BK289; have hfz3_0 := fz BK289 0; have hfz3_1 := fz BK289 1))
 go_ret
 exact ⟨eS, bS HB⟩

def itv_Empty.f  : Option (Int × Int) := some (1, 0)
set_option maxHeartbeats 8000000 in
set_option maxRecDepth 100000 in
theorem itv_Empty.calls  (r1 : Int) (r2 : Int) (w : World) (h : itv_Empty.f  = some (r1, r2)) :
  Calls Tryd.prog 73 #[] w fun e w' => e = .returned (.agg #[.int .i64 r1, .int .i64 r2]) ∧ Below w.heap.size w w' := by
 have hu38 := Tryd.underlying38
 have HB := Aside0.mk (Below.refl w.heap.size w)
 have H : (some (1, 0)) = some (r1, r2) := h
 clear h
 simp only [Option.some.injEq, Prod.mk.injEq] at H
 obtain ⟨rfl, rfl⟩ := H
 go_enter Tryd.func73, Tryd.ntmps73
 go_wp2_with (first | ((with_reducible refine gate_dst (N := 0) rfl ?_); refine box_event ?hg (N := 0) ?hd (cs := #[.int .i64 0, .int .i64 0]) (t := 38) ?hr ?_; (case hd => rfl); (case hg => rfl); (case hr => first | (go_simp; done) | (go_simp; rfl)); intro gb290 hg w1 hbox hb; have n0_ := kW HB hb; have n1_ := Aside0.mk (hbox); have n2_ := Aside0.mk ((by rw [hg]; exact (below_size (bS HB)) : w.heap.size ≤ gb290)); have n3_ := Aside0.mk ((by rw [hg]; exact (below_size (bS HB)) : w.heap.size ≤ gb290)); clear HB; have HB := n0_; have BK290 := n1_; have GW290 := n2_; have GE290 := n3_; clear n0_ n1_ n2_ n3_; clear hb hbox hg; have hcz2_0 := cz0 BK290; have hcz2_1 := cz1 BK290; have hfz2_0 := fz BK290 0; have hfz2_1 := fz BK290 1))
 refine bodyPost_ret (results_cell_row rfl _ _ gb290 38 #[.int .i64 1, .int .i64 0] (0, 0) _ rfl (by (with_reducible repeat (first | refine b1 ?_ _ | refine b2 ?_ | refine b3 ?_ _)); refine blk_put (cs := #[.int .i64 1, .int .i64 0]) ?_ 1 _ rfl; (with_reducible repeat (first | refine b1 ?_ _ | refine b2 ?_ | refine b3 ?_ _)); refine blk_put (cs := #[.int .i64 0, .int .i64 0]) ?_ 0 _ rfl; (with_reducible repeat (first | refine b1 ?_ _ | refine b2 ?_ | refine b3 ?_ _)); exact BK290.out) Tryd.underlying38 rfl (by kernel_rfl)) rfl ?_
 exact ⟨eS, bS HB⟩

def itv_sound.f (a0_0 : Int) (a0_1 : Int) : Option (Int × Int) := (itv_Of.f a0_0 a0_1).bind fun bt293 => (some (bt293.1, bt293.2))
set_option maxHeartbeats 8000000 in
set_option maxRecDepth 100000 in
theorem itv_sound.calls (a0_0 : Int) (a0_1 : Int) (r1 : Int) (r2 : Int) (w : World) (h : itv_sound.f a0_0 a0_1 = some (r1, r2)) :
  Calls Tryd.prog 95 #[.agg #[.int .i64 a0_0, .int .i64 a0_1]] w fun e w' => e = .returned (.agg #[.int .i64 r1, .int .i64 r2]) ∧ Below w.heap.size w w' := by
 have hu38 := Tryd.underlying38
 have HB := Aside0.mk (Below.refl w.heap.size w)
 have H : ((itv_Of.f a0_0 a0_1).bind fun bt293 => (some (bt293.1, bt293.2))) = some (r1, r2) := h
 clear h
 replace H := Option.bind_eq_some_iff.mp H
 obtain ⟨⟨t293, t294⟩, A20, H⟩ := H
 replace H : (some (t293, t294)) = some (r1, r2) := H
 have A2 := Aside0.mk A20
 clear A20
 simp only [Option.some.injEq, Prod.mk.injEq] at H
 obtain ⟨rfl, rfl⟩ := H
 go_enter Tryd.func95, Tryd.ntmps95
 go_wp2_with (first | ((with_reducible refine gate_dst (N := 1) rfl ?_); refine box_event ?hg (N := 1) ?hd (cs := #[.int .i64 a0_0, .int .i64 a0_1]) (t := 38) ?hr ?_; (case hd => rfl); (case hg => rfl); (case hr => first | (go_simp; done) | (go_simp; rfl)); intro gb291 hg w3 hbox hb; have n0_ := kW HB hb; have n1_ := Aside0.mk (hbox); have n2_ := Aside0.mk ((by rw [hg]; exact (below_size (bS HB)) : w.heap.size ≤ gb291)); have n3_ := Aside0.mk ((by rw [hg]; exact (below_size (bS HB)) : w.heap.size ≤ gb291)); clear HB; have HB := n0_; have BK291 := n1_; have GW291 := n2_; have GE291 := n3_; clear n0_ n1_ n2_ n3_; clear hb hbox hg) | ((with_reducible refine gate_dst (N := 2) rfl ?_); refine box_event ?hg (N := 2) ?hd (cs := #[.int .i64 0, .int .i64 0]) (t := 38) ?hr ?_; (case hd => rfl); (case hg => rfl); (case hr => first | (go_simp; done) | (go_simp; rfl)); intro gb292 hg w4 hbox hb; have n0_ := kB BK291 hb; have n1_ := kW HB hb; have n2_ := Aside0.mk (hbox); have n3_ := Aside0.mk ((by rw [hg]; exact (below_size (bS HB)) : w.heap.size ≤ gb292)); have n4_ := Aside0.mk ((by rw [hg]; exact (below_size (bS HB)) : w.heap.size ≤ gb292)); have n5_ := Aside0.mk ((by rw [hg]; exact Nat.ne_of_lt (blk_lt (bkS BK291)) : gb291 ≠ gb292)); have n6_ := Aside0.mk ((by rw [hg]; exact Nat.ne_of_gt (blk_lt (bkS BK291)) : gb292 ≠ gb291)); clear BK291; clear HB; have BK291 := n0_; have HB := n1_; have BK292 := n2_; have GW292 := n3_; have GE292 := n4_; have NB291_292 := n5_; have NB292_291 := n6_; clear n0_ n1_ n2_ n3_ n4_ n5_ n6_; clear hb hbox hg; have hnb5 := NB291_292.out; have hnc5 := NB292_291.out; have hcz6_0 := cz0 BK291; have hcz6_1 := cz1 BK291; have hfz6_0 := fz BK291 0; have hfz6_1 := fz BK291 1) | ((with_reducible refine gate_callee (f := 75) rfl ?_); refine goesL_ (some 7) rfl rfl Tryd.func75 (by kernel_rfl) rfl #[.int .i64 a0_0, .int .i64 a0_1] rfl mS ?_; (with_reducible refine (itv_Of.calls a0_0 a0_1 t293 t294 _ A2.out).mono ?_); rintro e w7 ⟨rfl, hb⟩; refine ⟨_, rfl, ?_⟩; replace BK291 := kB BK291 hb; replace BK292 := kB BK292 hb; replace HB := kW HB hb; (try clear hb); (try clear hb2); (try clear hk); (try clear hi); have hcz8_0 := cz0 BK292; have hcz8_1 := cz1 BK292; have hfz8_0 := fz BK292 0; have hfz8_1 := fz BK292 1))
 refine bodyPost_ret (results_cell_row rfl _ _ gb292 38 #[.int .i64 t293, .int .i64 t294] (0, 0) _ rfl (by (with_reducible repeat (first | refine b1 ?_ _ | refine b2 ?_ | refine b3 ?_ _)); refine blk_put (cs := #[.int .i64 t293, .int .i64 0]) ?_ 1 _ rfl; (with_reducible repeat (first | refine b1 ?_ _ | refine b2 ?_ | refine b3 ?_ _)); refine blk_put (cs := #[.int .i64 0, .int .i64 0]) ?_ 0 _ rfl; (with_reducible repeat (first | refine b1 ?_ _ | refine b2 ?_ | refine b3 ?_ _)); exact BK292.out) Tryd.underlying38 rfl (by kernel_rfl)) rfl ?_
 exact ⟨eS, bS HB⟩

def itv_Meet.j0 : Nat → Bool → Int → Int → Int → Int → Option (Int × Int)
 | 0, _, _, _, _, _ => none
 | k + 1, x14, x296000, x296001, x297000, x297001 => if x14 = true then ((itv_Empty.f).bind fun bt304 => (some (bt304.1, bt304.2))) else ((itv_Of.f (mx x296000 x297000) (mn x296001 x297001)).bind fun bt306 => (some (bt306.1, bt306.2)))
def itv_Meet.f (k : Nat) (a0_0 : Int) (a0_1 : Int) (a1_0 : Int) (a1_1 : Int) : Option (Int × Int) := (itv_sound.f a0_0 a0_1).bind fun bt298 => ((itv_sound.f a1_0 a1_1).bind fun bt300 => ((itv_None.f bt298.1 bt298.2).bind fun t302 => (if t302 = true then (itv_Meet.j0 k true bt298.1 bt298.2 bt300.1 bt300.2) else ((itv_None.f bt300.1 bt300.2).bind fun t303 => (itv_Meet.j0 k t303 bt298.1 bt298.2 bt300.1 bt300.2)))))
set_option maxHeartbeats 8000000 in
set_option maxRecDepth 100000 in
theorem itv_Meet.calls (k : Nat) (a0_0 : Int) (a0_1 : Int) (a1_0 : Int) (a1_1 : Int) (r1 : Int) (r2 : Int) (w : World) (h : itv_Meet.f k a0_0 a0_1 a1_0 a1_1 = some (r1, r2)) :
  Calls Tryd.prog 70 #[.agg #[.int .i64 a0_0, .int .i64 a0_1], .agg #[.int .i64 a1_0, .int .i64 a1_1]] w fun e w' => e = .returned (.agg #[.int .i64 r1, .int .i64 r2]) ∧ Below w.heap.size w w' := by
 have hu38 := Tryd.underlying38
 have HB := Aside0.mk (Below.refl w.heap.size w)
 have H : ((itv_sound.f a0_0 a0_1).bind fun bt298 => ((itv_sound.f a1_0 a1_1).bind fun bt300 => ((itv_None.f bt298.1 bt298.2).bind fun t302 => (if t302 = true then (itv_Meet.j0 k true bt298.1 bt298.2 bt300.1 bt300.2) else ((itv_None.f bt300.1 bt300.2).bind fun t303 => (itv_Meet.j0 k t303 bt298.1 bt298.2 bt300.1 bt300.2)))))) = some (r1, r2) := h
 clear h
 replace H := Option.bind_eq_some_iff.mp H
 obtain ⟨⟨t298, t299⟩, A30, H⟩ := H
 replace H : ((itv_sound.f a1_0 a1_1).bind fun bt300 => ((itv_None.f t298 t299).bind fun t302 => (if t302 = true then (itv_Meet.j0 k true t298 t299 bt300.1 bt300.2) else ((itv_None.f bt300.1 bt300.2).bind fun t303 => (itv_Meet.j0 k t303 t298 t299 bt300.1 bt300.2))))) = some (r1, r2) := H
 have A3 := Aside0.mk A30
 clear A30
 replace H := Option.bind_eq_some_iff.mp H
 obtain ⟨⟨t300, t301⟩, A40, H⟩ := H
 replace H : ((itv_None.f t298 t299).bind fun t302 => (if t302 = true then (itv_Meet.j0 k true t298 t299 t300 t301) else ((itv_None.f t300 t301).bind fun t303 => (itv_Meet.j0 k t303 t298 t299 t300 t301)))) = some (r1, r2) := H
 have A4 := Aside0.mk A40
 clear A40
 have HC5 := Aside0.mk H
 clear H
 go_enter Tryd.func70, Tryd.ntmps70
 try go_wp2_with (first | ((with_reducible refine gate_dst (N := 2) rfl ?_); refine box_event ?hg (N := 2) ?hd (cs := #[.int .i64 a0_0, .int .i64 a0_1]) (t := 38) ?hr ?_; (case hd => rfl); (case hg => rfl); (case hr => first | (go_simp; done) | (go_simp; rfl)); intro gb295 hg w6 hbox hb; have n0_ := kW HB hb; have n1_ := Aside0.mk (hbox); have n2_ := Aside0.mk ((by rw [hg]; exact (below_size (bS HB)) : w.heap.size ≤ gb295)); have n3_ := Aside0.mk ((by rw [hg]; exact (below_size (bS HB)) : w.heap.size ≤ gb295)); clear HB; have HB := n0_; have BK295 := n1_; have GW295 := n2_; have GE295 := n3_; clear n0_ n1_ n2_ n3_; clear hb hbox hg) | ((with_reducible refine gate_dst (N := 3) rfl ?_); refine box_event ?hg (N := 3) ?hd (cs := #[.int .i64 a1_0, .int .i64 a1_1]) (t := 38) ?hr ?_; (case hd => rfl); (case hg => rfl); (case hr => first | (go_simp; done) | (go_simp; rfl)); intro gb296 hg w7 hbox hb; have n0_ := kB BK295 hb; have n1_ := kW HB hb; have n2_ := Aside0.mk (hbox); have n3_ := Aside0.mk ((by rw [hg]; exact (below_size (bS HB)) : w.heap.size ≤ gb296)); have n4_ := Aside0.mk ((by rw [hg]; exact (below_size (bS HB)) : w.heap.size ≤ gb296)); have n5_ := Aside0.mk ((by rw [hg]; exact Nat.ne_of_lt (blk_lt (bkS BK295)) : gb295 ≠ gb296)); have n6_ := Aside0.mk ((by rw [hg]; exact Nat.ne_of_gt (blk_lt (bkS BK295)) : gb296 ≠ gb295)); clear BK295; clear HB; have BK295 := n0_; have HB := n1_; have BK296 := n2_; have GW296 := n3_; have GE296 := n4_; have NB295_296 := n5_; have NB296_295 := n6_; clear n0_ n1_ n2_ n3_ n4_ n5_ n6_; clear hb hbox hg) | ((with_reducible refine gate_dst (N := 4) rfl ?_); refine box_event ?hg (N := 4) ?hd (cs := #[.int .i64 0, .int .i64 0]) (t := 38) ?hr ?_; (case hd => rfl); (case hg => rfl); (case hr => first | (go_simp; done) | (go_simp; rfl)); intro gb297 hg w8 hbox hb; have n0_ := kB BK295 hb; have n1_ := kB BK296 hb; have n2_ := kW HB hb; have n3_ := Aside0.mk (hbox); have n4_ := Aside0.mk ((by rw [hg]; exact (below_size (bS HB)) : w.heap.size ≤ gb297)); have n5_ := Aside0.mk ((by rw [hg]; exact (below_size (bS HB)) : w.heap.size ≤ gb297)); have n6_ := Aside0.mk ((by rw [hg]; exact Nat.ne_of_lt (blk_lt (bkS BK295)) : gb295 ≠ gb297)); have n7_ := Aside0.mk ((by rw [hg]; exact Nat.ne_of_gt (blk_lt (bkS BK295)) : gb297 ≠ gb295)); have n8_ := Aside0.mk ((by rw [hg]; exact Nat.ne_of_lt (blk_lt (bkS BK296)) : gb296 ≠ gb297)); have n9_ := Aside0.mk ((by rw [hg]; exact Nat.ne_of_gt (blk_lt (bkS BK296)) : gb297 ≠ gb296)); clear BK295; clear BK296; clear HB; have BK295 := n0_; have BK296 := n1_; have HB := n2_; have BK297 := n3_; have GW297 := n4_; have GE297 := n5_; have NB295_297 := n6_; have NB297_295 := n7_; have NB296_297 := n8_; have NB297_296 := n9_; clear n0_ n1_ n2_ n3_ n4_ n5_ n6_ n7_ n8_ n9_; clear hb hbox hg))
 replace BK295 := Aside0.mk (blk_drew BK295.out)
 replace BK296 := Aside0.mk (blk_drew BK296.out)
 replace BK297 := Aside0.mk (blk_drew BK297.out)
 replace HB := Aside0.mk (below_drew1 HB.out)
 refine start_ (n := 6) (S := fun w' => w'.cell? ⟨gb295, 0, none⟩ = some (.int .i64 a0_0) ∧ w'.cell? ⟨gb295, 1, none⟩ = some (.int .i64 a0_1) ∧ w'.cell? ⟨gb296, 0, none⟩ = some (.int .i64 a1_0) ∧ w'.cell? ⟨gb296, 1, none⟩ = some (.int .i64 a1_1)) (ds := [4, 5]) #[false, false, false, false, false, false] (by kernel_rfl) rfl rfl ⟨cz0 BK295, cz1 BK295, cz0 BK296, cz1 BK296⟩ (fun hHeld => ?_)
 generalize w8.drew = w9 at BK295 BK296 BK297 HB hHeld ⊢
 refine take_ (i := 0) (N := some 5) (v := ?_) (a' := ?_) #[true, false, false, false, false, false] rfl rfl (by kernel_rfl) (fun _ _ _ h => h) (Or.inl ⟨by rfl, ?_⟩) hHeld ?_ ?_
 rotate_left
 ·
  rintro w' ⟨s0, s1, s2, s3⟩
  go_simp
  with_reducible rfl
 rotate_left
 ·
  simp only [Act.put, lA, lB, lC, i64_w, i32_w]
  rfl
 refine take_ (i := 2) (N := some 7) (v := ?_) (a' := ?_) #[true, false, true, false, false, false] rfl rfl (by kernel_rfl) (fun _ _ _ h => h) (Or.inl ⟨by rfl, ?_⟩) hHeld ?_ ?_
 rotate_left
 ·
  rintro w' ⟨s0, s1, s2, s3⟩
  go_simp
  with_reducible rfl
 rotate_left
 ·
  simp only [Act.put, lA, lB, lC, i64_w, i32_w]
  rfl
 refine one_ (i := 1) (N := some 6) #[true, true, true, false, false, false] rfl rfl (by kernel_rfl) (by decide) (fun K hK => ?_)
 refine goes_ Tryd.func95 (by kernel_rfl) rfl #[.agg #[.int .i64 a0_0, .int .i64 a0_1]] (by rfl) rfl rfl mS ?_
 with_reducible refine (itv_sound.calls a0_0 a0_1 t298 t299 _ A3.out).mono ?_
 rintro e w10 ⟨rfl, hb⟩
 refine ⟨_, rfl, ?_⟩
 replace BK295 := kB BK295 hb
 replace BK296 := kB BK296 hb
 replace BK297 := kB BK297 hb
 replace HB := kW HB hb
 (try clear hb)
 (try clear hb2)
 (try clear hk)
 (try clear hi)
 refine hK.out _ _ ⟨cz0 BK295, cz1 BK295, cz0 BK296, cz1 BK296⟩ (fun hHeld => ?_)
 clear hK K
 refine norm_ (a' := ?_) ?_ ?_
 rotate_left
 ·
  show Act.put _ (some 6) _ = _
  simp only [Act.put, lA, lB, lC, i64_w, i32_w]
  rfl
 refine one_ (i := 3) (N := some 8) #[true, true, true, true, false, false] rfl rfl (by kernel_rfl) (by decide) (fun K hK => ?_)
 refine goes_ Tryd.func95 (by kernel_rfl) rfl #[.agg #[.int .i64 a1_0, .int .i64 a1_1]] (by rfl) rfl rfl mS ?_
 with_reducible refine (itv_sound.calls a1_0 a1_1 t300 t301 _ A4.out).mono ?_
 rintro e w11 ⟨rfl, hb⟩
 refine ⟨_, rfl, ?_⟩
 replace BK295 := kB BK295 hb
 replace BK296 := kB BK296 hb
 replace BK297 := kB BK297 hb
 replace HB := kW HB hb
 (try clear hb)
 (try clear hb2)
 (try clear hk)
 (try clear hi)
 refine hK.out _ _ ⟨cz0 BK295, cz1 BK295, cz0 BK296, cz1 BK296⟩ (fun hHeld => ?_)
 clear hK K
 refine norm_ (a' := ?_) ?_ ?_
 rotate_left
 ·
  show Act.put _ (some 8) _ = _
  simp only [Act.put, lA, lB, lC, i64_w, i32_w]
  rfl
 refine last_ (i := 4) (N := none) #[true, true, true, true, true, false] rfl rfl (by kernel_rfl) (by decide) (fun K hK => ?_)
 have hs12 : w11.cell? ⟨gb295, 0, none⟩ = some (.int .i64 a0_0) := cz0 BK295
 have hfs12 := fz BK295 0
 have hns12_1 := NB296_295.out
 have hns12_2 := NB297_295.out
 have hms12_1 := NB295_296.out
 have hms12_2 := NB295_297.out
 have hs13 : w11.cell? ⟨gb295, 1, none⟩ = some (.int .i64 a0_1) := cz1 BK295
 have hfs13 := fz BK295 1
 have hns13_1 := NB296_295.out
 have hns13_2 := NB297_295.out
 have hms13_1 := NB295_296.out
 have hms13_2 := NB295_297.out
 refine skip_ (w1 := ?_) (by rfl) rfl ?_ ?_
 rotate_left
 ·
  go_simp
  rfl
 refine hK.out _ _ ?_
 clear hK K
 refine last_ (i := 5) (N := none) #[true, true, true, true, true, true] rfl rfl (by kernel_rfl) (by decide) (fun K hK => ?_)
 have hs14 : w11.cell? ⟨gb296, 0, none⟩ = some (.int .i64 a1_0) := cz0 BK296
 have hfs14 := fz BK296 0
 have hns14_0 := NB295_296.out
 have hns14_2 := NB297_296.out
 have hms14_0 := NB296_295.out
 have hms14_2 := NB296_297.out
 have hs15 : w11.cell? ⟨gb296, 1, none⟩ = some (.int .i64 a1_1) := cz1 BK296
 have hfs15 := fz BK296 1
 have hns15_0 := NB295_296.out
 have hns15_2 := NB297_296.out
 have hms15_0 := NB296_295.out
 have hms15_2 := NB296_297.out
 refine skip_ (w1 := ?_) (by rfl) rfl ?_ ?_
 rotate_left
 ·
  go_simp
  rfl
 refine hK.out _ _ ?_
 clear hK K
 refine done_ (by kernel_rfl) ?_
 go_upto_region 2 with (fail)
 go_cut [14] (fun v14 wc => ∃ (kq : Nat) (x14_4 : Bool), v14 = .bool x14_4 ∧ Aside0 (itv_Meet.j0 kq x14_4 t298 t299 t300 t301 = some (r1, r2)) ∧ Aside0 (kq ≤ k) ∧ Aside0 (wc.heap[gb295]? = some (.cells #[.int .i64 t298, .int .i64 t299] 38 (0, 0))) ∧ Aside0 (wc.heap[gb296]? = some (.cells #[.int .i64 t300, .int .i64 t301] 38 (0, 0))) ∧ Aside0 (wc.heap[gb297]? = some (.cells #[.int .i64 0, .int .i64 0] 38 (0, 0))) ∧ Aside0 (Below w.heap.size w wc))
 case first =>
  have H := HC5.out
  clear HC5
  replace H := Option.bind_eq_some_iff.mp H
  obtain ⟨t302, A160, H⟩ := H
  replace H : (if t302 = true then (itv_Meet.j0 k true t298 t299 t300 t301) else ((itv_None.f t300 t301).bind fun t303 => (itv_Meet.j0 k t303 t298 t299 t300 t301))) = some (r1, r2) := H
  have A16 := Aside0.mk A160
  clear A160
  by_cases c17 : t302 = true
  ·
   subst c17
   have H1 : (itv_Meet.j0 k true t298 t299 t300 t301) = some (r1, r2) := by rw [if_pos rfl] at H; exact H
   clear H
   have H := H1
   clear H1
   have H' := Aside0.mk H
   clear H
   have hnb18 := NB295_296.out
   have hnc18 := NB296_295.out
   have hnb19 := NB295_297.out
   have hnc19 := NB297_295.out
   have hcz20_0 := cz0 BK295
   have hcz20_1 := cz1 BK295
   have hfz20_0 := fz BK295 0
   have hfz20_1 := fz BK295 1
   go_wp2_with (first | ((with_reducible refine gate_callee (f := 72) rfl ?_); refine goesL_ (some 10) rfl rfl Tryd.func72 (by kernel_rfl) rfl #[.agg #[.int .i64 t298, .int .i64 t299]] rfl mS ?_; (with_reducible refine (itv_None.calls t298 t299 true _ A16.out).mono ?_); rintro e w21 ⟨rfl, hb⟩; refine ⟨_, rfl, ?_⟩; have n0_ := Aside0.mk (blk_below (g := gb295) (o := .cells #[.int .i64 t298, .int .i64 t299] 38 (0, 0)) (by (with_reducible repeat (first | refine b1 ?_ _ | refine b2 ?_ | refine b3 ?_ _)); refine blk_far ?_ NB295_296.out _; (with_reducible repeat (first | refine b1 ?_ _ | refine b2 ?_ | refine b3 ?_ _)); refine blk_far ?_ NB295_296.out _; (with_reducible repeat (first | refine b1 ?_ _ | refine b2 ?_ | refine b3 ?_ _)); refine blk_put (cs := #[.int .i64 t298, .int .i64 a0_1]) ?_ 1 _ rfl; (with_reducible repeat (first | refine b1 ?_ _ | refine b2 ?_ | refine b3 ?_ _)); refine blk_put (cs := #[.int .i64 a0_0, .int .i64 a0_1]) ?_ 0 _ rfl; (with_reducible repeat (first | refine b1 ?_ _ | refine b2 ?_ | refine b3 ?_ _)); exact BK295.out) hb); have n1_ := Aside0.mk (blk_below (g := gb296) (o := .cells #[.int .i64 t300, .int .i64 t301] 38 (0, 0)) (by (with_reducible repeat (first | refine b1 ?_ _ | refine b2 ?_ | refine b3 ?_ _)); refine blk_put (cs := #[.int .i64 t300, .int .i64 a1_1]) ?_ 1 _ rfl; (with_reducible repeat (first | refine b1 ?_ _ | refine b2 ?_ | refine b3 ?_ _)); refine blk_put (cs := #[.int .i64 a1_0, .int .i64 a1_1]) ?_ 0 _ rfl; (with_reducible repeat (first | refine b1 ?_ _ | refine b2 ?_ | refine b3 ?_ _)); refine blk_far ?_ NB296_295.out _; (with_reducible repeat (first | refine b1 ?_ _ | refine b2 ?_ | refine b3 ?_ _)); refine blk_far ?_ NB296_295.out _; (with_reducible repeat (first | refine b1 ?_ _ | refine b2 ?_ | refine b3 ?_ _)); exact BK296.out) hb); have n2_ := kB BK297 hb; have n3_ := kW HB hb; clear BK295; clear BK296; clear BK297; clear HB; have BK295 := n0_; have BK296 := n1_; have BK297 := n2_; have HB := n3_; clear n0_ n1_ n2_ n3_; (try clear hb); (try clear hb2); (try clear hk); (try clear hi)))
   go_meet
   case rel => exact ⟨_, (true), (by first | rfl | (simp; done) | (simp [*]; done)), H', ⟨by first | omega | exact Nat.le_refl _⟩, ⟨bkS BK295⟩, ⟨bkS BK296⟩, ⟨bkS BK297⟩, ⟨bS HB⟩⟩
  ·
   replace c17 := Bool.eq_false_iff.mpr c17
   subst c17
   have H1 : ((itv_None.f t300 t301).bind fun t303 => (itv_Meet.j0 k t303 t298 t299 t300 t301)) = some (r1, r2) := by rw [if_neg (show ¬ (false = true) by decide)] at H; exact H
   clear H
   have H := H1
   clear H1
   replace H := Option.bind_eq_some_iff.mp H
   obtain ⟨t303, A220, H⟩ := H
   replace H : (itv_Meet.j0 k t303 t298 t299 t300 t301) = some (r1, r2) := H
   have A22 := Aside0.mk A220
   clear A220
   have H' := Aside0.mk H
   clear H
   have hnb23 := NB295_296.out
   have hnc23 := NB296_295.out
   have hnb24 := NB295_297.out
   have hnc24 := NB297_295.out
   have hcz25_0 := cz0 BK295
   have hcz25_1 := cz1 BK295
   have hfz25_0 := fz BK295 0
   have hfz25_1 := fz BK295 1
   go_wp2_with (first | ((with_reducible refine gate_callee (f := 72) rfl ?_); refine goesL_ (some 10) rfl rfl Tryd.func72 (by kernel_rfl) rfl #[.agg #[.int .i64 t298, .int .i64 t299]] rfl mS ?_; (with_reducible refine (itv_None.calls t298 t299 false _ A16.out).mono ?_); rintro e w26 ⟨rfl, hb⟩; refine ⟨_, rfl, ?_⟩; have n0_ := Aside0.mk (blk_below (g := gb295) (o := .cells #[.int .i64 t298, .int .i64 t299] 38 (0, 0)) (by (with_reducible repeat (first | refine b1 ?_ _ | refine b2 ?_ | refine b3 ?_ _)); refine blk_far ?_ NB295_296.out _; (with_reducible repeat (first | refine b1 ?_ _ | refine b2 ?_ | refine b3 ?_ _)); refine blk_far ?_ NB295_296.out _; (with_reducible repeat (first | refine b1 ?_ _ | refine b2 ?_ | refine b3 ?_ _)); refine blk_put (cs := #[.int .i64 t298, .int .i64 a0_1]) ?_ 1 _ rfl; (with_reducible repeat (first | refine b1 ?_ _ | refine b2 ?_ | refine b3 ?_ _)); refine blk_put (cs := #[.int .i64 a0_0, .int .i64 a0_1]) ?_ 0 _ rfl; (with_reducible repeat (first | refine b1 ?_ _ | refine b2 ?_ | refine b3 ?_ _)); exact BK295.out) hb); have n1_ := Aside0.mk (blk_below (g := gb296) (o := .cells #[.int .i64 t300, .int .i64 t301] 38 (0, 0)) (by (with_reducible repeat (first | refine b1 ?_ _ | refine b2 ?_ | refine b3 ?_ _)); refine blk_put (cs := #[.int .i64 t300, .int .i64 a1_1]) ?_ 1 _ rfl; (with_reducible repeat (first | refine b1 ?_ _ | refine b2 ?_ | refine b3 ?_ _)); refine blk_put (cs := #[.int .i64 a1_0, .int .i64 a1_1]) ?_ 0 _ rfl; (with_reducible repeat (first | refine b1 ?_ _ | refine b2 ?_ | refine b3 ?_ _)); refine blk_far ?_ NB296_295.out _; (with_reducible repeat (first | refine b1 ?_ _ | refine b2 ?_ | refine b3 ?_ _)); refine blk_far ?_ NB296_295.out _; (with_reducible repeat (first | refine b1 ?_ _ | refine b2 ?_ | refine b3 ?_ _)); exact BK296.out) hb); have n2_ := kB BK297 hb; have n3_ := kW HB hb; clear BK295; clear BK296; clear BK297; clear HB; have BK295 := n0_; have BK296 := n1_; have BK297 := n2_; have HB := n3_; clear n0_ n1_ n2_ n3_; (try clear hb); (try clear hb2); (try clear hk); (try clear hi); have hnb27 := NB296_297.out; have hnc27 := NB297_296.out; have hcz28_0 := cz0 BK296; have hcz28_1 := cz1 BK296; have hfz28_0 := fz BK296 0; have hfz28_1 := fz BK296 1) | (go_at_call 72; (with_reducible refine (itv_None.calls t300 t301 t303 _ A22.out).mono ?_); rintro e w29 ⟨rfl, hb⟩; replace BK295 := kB BK295 hb; replace BK296 := kB BK296 hb; replace BK297 := kB BK297 hb; replace HB := kW HB hb; (try clear hb); (try clear hb2); (try clear hk); (try clear hi)))
   go_meet
   case rel => exact ⟨_, (t303), (by first | rfl | (simp; done) | (simp [*]; done)), H', ⟨by first | omega | exact Nat.le_refl _⟩, ⟨bkS BK295⟩, ⟨bkS BK296⟩, ⟨bkS BK297⟩, ⟨bS HB⟩⟩
 case rest =>
  clear HC5
  try clear c1
  try clear c2
  try clear p2
  try clear c7
  try clear c9
  try clear c17
  try clear c18
  try clear c19
  try clear c23
  try clear c24
  try clear c27
  try clear hcz20_0
  try clear hcz20_1
  try clear hcz25_0
  try clear hcz25_1
  try clear hcz28_0
  try clear hcz28_1
  try clear hfz20_0
  try clear hfz20_1
  try clear hfz25_0
  try clear hfz25_1
  try clear hfz28_0
  try clear hfz28_1
  obtain ⟨kq, x14_4, rfl, HA, HJ4, BK295, BK296, BK297, HB⟩ := hcut
  cases kq with
  | zero => exact absurd HA.out (by simp [itv_Meet.j0])
  | succ kj4 =>
   have H := HA.out
   clear HA
   simp only [itv_Meet.j0] at H
   by_cases c30 : x14_4 = true
   ·
    subst c30
    have H1 : ((itv_Empty.f).bind fun bt304 => (some (bt304.1, bt304.2))) = some (r1, r2) := by rw [if_pos rfl] at H; exact H
    clear H
    have H := H1
    clear H1
    replace H := Option.bind_eq_some_iff.mp H
    obtain ⟨⟨t304, t305⟩, A310, H⟩ := H
    replace H : (some (t304, t305)) = some (r1, r2) := H
    have A31 := Aside0.mk A310
    clear A310
    simp only [Option.some.injEq, Prod.mk.injEq] at H
    obtain ⟨rfl, rfl⟩ := H
    go_wp2_with (first | ((with_reducible refine gate_callee (f := 73) rfl ?_); refine goesL_ (some 15) rfl rfl Tryd.func73 (by kernel_rfl) rfl #[] rfl mS ?_; (with_reducible refine (itv_Empty.calls  t304 t305 _ A31.out).mono ?_); rintro e w32 ⟨rfl, hb⟩; refine ⟨_, rfl, ?_⟩; replace BK295 := kB BK295 hb; replace BK296 := kB BK296 hb; replace BK297 := kB BK297 hb; replace HB := kW HB hb; (try clear hb); (try clear hb2); (try clear hk); (try clear hi); have hnb33 := NB297_295.out; have hnc33 := NB295_297.out; have hnb34 := NB297_296.out; have hnc34 := NB296_297.out; have hcz35_0 := cz0 BK297; have hcz35_1 := cz1 BK297; have hfz35_0 := fz BK297 0; have hfz35_1 := fz BK297 1))
    refine bodyPost_ret (results_cell_row rfl _ _ gb297 38 #[.int .i64 t304, .int .i64 t305] (0, 0) _ rfl (by (with_reducible repeat (first | refine b1 ?_ _ | refine b2 ?_ | refine b3 ?_ _)); refine blk_put (cs := #[.int .i64 t304, .int .i64 0]) ?_ 1 _ rfl; (with_reducible repeat (first | refine b1 ?_ _ | refine b2 ?_ | refine b3 ?_ _)); refine blk_put (cs := #[.int .i64 0, .int .i64 0]) ?_ 0 _ rfl; (with_reducible repeat (first | refine b1 ?_ _ | refine b2 ?_ | refine b3 ?_ _)); exact BK297.out) Tryd.underlying38 rfl (by kernel_rfl)) rfl ?_
    exact ⟨eS, bS HB⟩
   ·
    replace c30 := Bool.eq_false_iff.mpr c30
    subst c30
    have H1 : ((itv_Of.f (mx t298 t300) (mn t299 t301)).bind fun bt306 => (some (bt306.1, bt306.2))) = some (r1, r2) := by rw [if_neg (show ¬ (false = true) by decide)] at H; exact H
    clear H
    have H := H1
    clear H1
    obtain ⟨ji36, hji36⟩ : ∃ j_ : Int, (mx t298 t300) = j_ := ⟨_, rfl⟩
    replace H : ((itv_Of.f (ji36) (mn t299 t301)).bind fun bt306 => (some (bt306.1, bt306.2))) = some (r1, r2) := by first | (rw [hji36] at H; exact H) | (simp only [hji36] at H ⊢; exact H)
    have hji36_ : (if t298 < t300 then t300 else t298) = ji36 := hji36
    obtain ⟨ji37, hji37⟩ : ∃ j_ : Int, (mn t299 t301) = j_ := ⟨_, rfl⟩
    replace H : ((itv_Of.f (ji36) (ji37)).bind fun bt306 => (some (bt306.1, bt306.2))) = some (r1, r2) := by first | (rw [hji37] at H; exact H) | (simp only [hji37] at H ⊢; exact H)
    have hji37_ : (if t301 < t299 then t301 else t299) = ji37 := hji37
    replace H := Option.bind_eq_some_iff.mp H
    obtain ⟨⟨t306, t307⟩, A380, H⟩ := H
    replace H : (some (t306, t307)) = some (r1, r2) := H
    have A38 := Aside0.mk A380
    clear A380
    simp only [Option.some.injEq, Prod.mk.injEq] at H
    obtain ⟨rfl, rfl⟩ := H
    have hnb39 := NB295_296.out
    have hnc39 := NB296_295.out
    have hnb40 := NB295_297.out
    have hnc40 := NB297_295.out
    have hcz41_0 : wc.cell? ⟨gb295, 0, none⟩ = some (.int .i64 t298) := cz0 BK295
    have hcz41_1 : wc.cell? ⟨gb295, 1, none⟩ = some (.int .i64 t299) := cz1 BK295
    have hfz41_0 := fz BK295 0
    have hfz41_1 := fz BK295 1
    have hnb42 := NB296_297.out
    have hnc42 := NB297_296.out
    have hcz43_0 : wc.cell? ⟨gb296, 0, none⟩ = some (.int .i64 t300) := cz0 BK296
    have hcz43_1 : wc.cell? ⟨gb296, 1, none⟩ = some (.int .i64 t301) := cz1 BK296
    have hfz43_0 := fz BK296 0
    have hfz43_1 := fz BK296 1
    go_wp2_with (first | ((with_reducible refine gate_callee (f := 75) rfl ?_); refine goesL_ (some 26) rfl rfl Tryd.func75 (by kernel_rfl) rfl #[.int .i64 ji36, .int .i64 ji37] rfl (by (try simp only [List.map_toArray, List.map_cons, List.map_nil]); first | done | (simp only [hji36, hji37]; rfl) | rfl | (simp only [List.length_drop, List.length_take]; rfl)) ?_; (with_reducible refine (itv_Of.calls ji36 ji37 t306 t307 _ A38.out).mono ?_); rintro e w44 ⟨rfl, hb⟩; refine ⟨_, rfl, ?_⟩; replace BK295 := kB BK295 hb; replace BK296 := kB BK296 hb; replace BK297 := kB BK297 hb; replace HB := kW HB hb; (try clear hb); (try clear hb2); (try clear hk); (try clear hi); have hcz45_0 := cz0 BK297; have hcz45_1 := cz1 BK297; have hfz45_0 := fz BK297 0; have hfz45_1 := fz BK297 1))
    refine bodyPost_ret (results_cell_row rfl _ _ gb297 38 #[.int .i64 t306, .int .i64 t307] (0, 0) _ rfl (by (with_reducible repeat (first | refine b1 ?_ _ | refine b2 ?_ | refine b3 ?_ _)); refine blk_put (cs := #[.int .i64 t306, .int .i64 0]) ?_ 1 _ rfl; (with_reducible repeat (first | refine b1 ?_ _ | refine b2 ?_ | refine b3 ?_ _)); refine blk_put (cs := #[.int .i64 0, .int .i64 0]) ?_ 0 _ rfl; (with_reducible repeat (first | refine b1 ?_ _ | refine b2 ?_ | refine b3 ?_ _)); exact BK297.out) Tryd.underlying38 rfl (by kernel_rfl)) rfl ?_
    exact ⟨by first | rfl | (simp [errW_none, errW_some] <;> rfl) | (simp only [← hji36, ← hji37]; first | rfl | (simp [errW_none, errW_some] <;> rfl)) | (simp [*, errW_none, errW_some] <;> rfl), bS HB⟩

def itv_Type.f (a0 : Int) : Option (Int × Int) := if a0 = 1 then (if 0 ≤ (IntKind.u64.wrap (a0)) then (if 0 ≤ (IntKind.u64.wrap ((shl .u64 4 (IntKind.u64.wrap (a0))) - 1)) then (some (wrap64 (-(shl .i64 1 (IntKind.u64.wrap ((shl .u64 4 (IntKind.u64.wrap (a0))) - 1)))), wrap64 ((shl .i64 1 (IntKind.u64.wrap ((shl .u64 4 (IntKind.u64.wrap (a0))) - 1))) - 1))) else (none)) else (none)) else (if a0 = 2 then (if 0 ≤ (IntKind.u64.wrap (a0)) then (if 0 ≤ (IntKind.u64.wrap ((shl .u64 4 (IntKind.u64.wrap (a0))) - 1)) then (some (wrap64 (-(shl .i64 1 (IntKind.u64.wrap ((shl .u64 4 (IntKind.u64.wrap (a0))) - 1)))), wrap64 ((shl .i64 1 (IntKind.u64.wrap ((shl .u64 4 (IntKind.u64.wrap (a0))) - 1))) - 1))) else (none)) else (none)) else (if a0 = 3 then (if 0 ≤ (IntKind.u64.wrap (a0)) then (if 0 ≤ (IntKind.u64.wrap ((shl .u64 4 (IntKind.u64.wrap (a0))) - 1)) then (some (wrap64 (-(shl .i64 1 (IntKind.u64.wrap ((shl .u64 4 (IntKind.u64.wrap (a0))) - 1)))), wrap64 ((shl .i64 1 (IntKind.u64.wrap ((shl .u64 4 (IntKind.u64.wrap (a0))) - 1))) - 1))) else (none)) else (none)) else ((itv_Empty.f).bind fun bt309 => (some (bt309.1, bt309.2)))))
set_option maxHeartbeats 8000000 in
set_option maxRecDepth 100000 in
theorem itv_Type.calls (a0 : Int) (r1 : Int) (r2 : Int) (w : World) (h : itv_Type.f a0 = some (r1, r2)) :
  Calls Tryd.prog 71 #[.int .i64 a0] w fun e w' => e = .returned (.agg #[.int .i64 r1, .int .i64 r2]) ∧ Below w.heap.size w w' := by
 have hu38 := Tryd.underlying38
 have HB := Aside0.mk (Below.refl w.heap.size w)
 have H : (if a0 = 1 then (if 0 ≤ (IntKind.u64.wrap (a0)) then (if 0 ≤ (IntKind.u64.wrap ((shl .u64 4 (IntKind.u64.wrap (a0))) - 1)) then (some (wrap64 (-(shl .i64 1 (IntKind.u64.wrap ((shl .u64 4 (IntKind.u64.wrap (a0))) - 1)))), wrap64 ((shl .i64 1 (IntKind.u64.wrap ((shl .u64 4 (IntKind.u64.wrap (a0))) - 1))) - 1))) else (none)) else (none)) else (if a0 = 2 then (if 0 ≤ (IntKind.u64.wrap (a0)) then (if 0 ≤ (IntKind.u64.wrap ((shl .u64 4 (IntKind.u64.wrap (a0))) - 1)) then (some (wrap64 (-(shl .i64 1 (IntKind.u64.wrap ((shl .u64 4 (IntKind.u64.wrap (a0))) - 1)))), wrap64 ((shl .i64 1 (IntKind.u64.wrap ((shl .u64 4 (IntKind.u64.wrap (a0))) - 1))) - 1))) else (none)) else (none)) else (if a0 = 3 then (if 0 ≤ (IntKind.u64.wrap (a0)) then (if 0 ≤ (IntKind.u64.wrap ((shl .u64 4 (IntKind.u64.wrap (a0))) - 1)) then (some (wrap64 (-(shl .i64 1 (IntKind.u64.wrap ((shl .u64 4 (IntKind.u64.wrap (a0))) - 1)))), wrap64 ((shl .i64 1 (IntKind.u64.wrap ((shl .u64 4 (IntKind.u64.wrap (a0))) - 1))) - 1))) else (none)) else (none)) else ((itv_Empty.f).bind fun bt309 => (some (bt309.1, bt309.2)))))) = some (r1, r2) := h
 clear h
 by_cases c2 : a0 = 1
 ·
  rw [if_pos c2] at H
  have c2b0 : (a0 == 1) = true := beq_iff_eq.mpr c2
  have c2b1 : (a0 != 1) = false := bne_eq_false_iff_eq.mpr c2
  clear c2
  obtain ⟨ji3, hji3⟩ : ∃ j_ : Int, (IntKind.u64.wrap (a0)) = j_ := ⟨_, rfl⟩
  replace H : (if 0 ≤ (ji3) then (if 0 ≤ (IntKind.u64.wrap ((shl .u64 4 (ji3)) - 1)) then (some (wrap64 (-(shl .i64 1 (IntKind.u64.wrap ((shl .u64 4 (ji3)) - 1)))), wrap64 ((shl .i64 1 (IntKind.u64.wrap ((shl .u64 4 (ji3)) - 1))) - 1))) else (none)) else (none)) = some (r1, r2) := by first | (rw [hji3] at H; exact H) | (simp only [hji3] at H ⊢; exact H)
  by_cases c4 : 0 ≤ (ji3)
  ·
   rw [if_pos c4] at H
   have c4b0 := eq_true c4
   have c4b1 : decide (0 ≤ (ji3)) = true := decide_eq_true c4
   clear c4
   obtain ⟨ji5, hji5⟩ : ∃ j_ : Int, (shl .u64 4 (ji3)) = j_ := ⟨_, rfl⟩
   replace H : (if 0 ≤ (IntKind.u64.wrap ((ji5) - 1)) then (some (wrap64 (-(shl .i64 1 (IntKind.u64.wrap ((ji5) - 1)))), wrap64 ((shl .i64 1 (IntKind.u64.wrap ((ji5) - 1))) - 1))) else (none)) = some (r1, r2) := by first | (rw [hji5] at H; exact H) | (simp only [hji5] at H ⊢; exact H)
   have hji5_ : (IntKind.u64.wrap (4 * 2 ^ min (ji3).toNat 64)) = ji5 := hji5
   have hji5z : (ji3) ≤ 64 → (IntKind.u64.wrap (4 * 2 ^ (ji3).toNat)) = ji5 := shl_small hji5
   obtain ⟨ji6, hji6⟩ : ∃ j_ : Int, (IntKind.u64.wrap ((ji5) - 1)) = j_ := ⟨_, rfl⟩
   replace H : (if 0 ≤ (ji6) then (some (wrap64 (-(shl .i64 1 (ji6))), wrap64 ((shl .i64 1 (ji6)) - 1))) else (none)) = some (r1, r2) := by first | (rw [hji6] at H; exact H) | (simp only [hji6] at H ⊢; exact H)
   by_cases c7 : 0 ≤ (ji6)
   ·
    rw [if_pos c7] at H
    have c7b0 := eq_true c7
    have c7b1 : decide (0 ≤ (ji6)) = true := decide_eq_true c7
    clear c7
    obtain ⟨ji8, hji8⟩ : ∃ j_ : Int, (shl .i64 1 (ji6)) = j_ := ⟨_, rfl⟩
    replace H : (some (wrap64 (-(ji8)), wrap64 ((ji8) - 1))) = some (r1, r2) := by first | (rw [hji8] at H; exact H) | (simp only [hji8] at H ⊢; exact H)
    have hji8_ : (IntKind.i64.wrap (1 * 2 ^ min (ji6).toNat 64)) = ji8 := hji8
    have hji8z : (ji6) ≤ 64 → (IntKind.i64.wrap (1 * 2 ^ (ji6).toNat)) = ji8 := shl_small hji8
    have hji8u : (IntKind.i64.wrap (2 ^ min (ji6).toNat 64)) = ji8 := by have h_ := hji8_; rw [Int.one_mul] at h_; exact h_
    have hji8v : (ji6) ≤ 64 → (IntKind.i64.wrap (2 ^ (ji6).toNat)) = ji8 := fun hle_ => by have h_ := hji8z hle_; rw [Int.one_mul] at h_; exact h_
    have hji8y : (wrap64 (1 * 2 ^ min (ji6).toNat 64)) = ji8 := (i64_w _).symm.trans hji8_
    have hji8x : (ji6) ≤ 64 → (wrap64 (1 * 2 ^ (ji6).toNat)) = ji8 := fun h_ => (i64_w _).symm.trans (hji8z h_)
    simp only [Option.some.injEq, Prod.mk.injEq] at H
    obtain ⟨rfl, rfl⟩ := H
    go_enter Tryd.func71, Tryd.ntmps71
    go_wp2_with (first | ((with_reducible refine gate_dst (N := 2) rfl ?_); refine box_event ?hg (N := 2) ?hd (cs := #[.int .i64 0, .int .i64 0]) (t := 38) ?hr ?_; (case hd => rfl); (case hg => rfl); (case hr => first | (go_simp; done) | (go_simp; rfl)); intro gb308 hg w9 hbox hb; have n0_ := kW HB hb; have n1_ := Aside0.mk (hbox); have n2_ := Aside0.mk ((by rw [hg]; exact (below_size (bS HB)) : w.heap.size ≤ gb308)); have n3_ := Aside0.mk ((by rw [hg]; exact (below_size (bS HB)) : w.heap.size ≤ gb308)); clear HB; have HB := n0_; have BK308 := n1_; have GW308 := n2_; have GE308 := n3_; clear n0_ n1_ n2_ n3_; clear hb hbox hg; have hcz10_0 := cz0 BK308; have hcz10_1 := cz1 BK308; have hfz10_0 := fz BK308 0; have hfz10_1 := fz BK308 1))
    refine bodyPost_ret (results_cell_row rfl _ _ gb308 38 #[.int .i64 (wrap64 (-(ji8))), .int .i64 (wrap64 ((ji8) - 1))] (0, 0) _ rfl (by (with_reducible repeat (first | refine b1 ?_ _ | refine b2 ?_ | refine b3 ?_ _)); refine blk_put (cs := #[.int .i64 (wrap64 (-(ji8))), .int .i64 0]) ?_ 1 _ rfl; (with_reducible repeat (first | refine b1 ?_ _ | refine b2 ?_ | refine b3 ?_ _)); refine blk_put (cs := #[.int .i64 0, .int .i64 0]) ?_ 0 _ rfl; (with_reducible repeat (first | refine b1 ?_ _ | refine b2 ?_ | refine b3 ?_ _)); exact BK308.out) Tryd.underlying38 rfl (by kernel_rfl)) rfl ?_
    exact ⟨by first | rfl | (simp [errW_none, errW_some] <;> rfl) | (simp only [← hji3, ← hji5, ← hji6, ← hji8]; first | rfl | (simp [errW_none, errW_some] <;> rfl)) | (simp [*, errW_none, errW_some] <;> rfl), bS HB⟩
   ·
    rw [if_neg c7] at H
    exact absurd H (by simp)
  ·
   rw [if_neg c4] at H
   exact absurd H (by simp)
 ·
  rw [if_neg c2] at H
  have c2b0 : (a0 == 1) = false := beq_eq_false_iff_ne.mpr c2
  have c2b1 : (a0 != 1) = true := bne_iff_ne.mpr c2
  by_cases c11 : a0 = 2
  ·
   rw [if_pos c11] at H
   have c11b0 : (a0 == 2) = true := beq_iff_eq.mpr c11
   have c11b1 : (a0 != 2) = false := bne_eq_false_iff_eq.mpr c11
   clear c11
   obtain ⟨ji12, hji12⟩ : ∃ j_ : Int, (IntKind.u64.wrap (a0)) = j_ := ⟨_, rfl⟩
   replace H : (if 0 ≤ (ji12) then (if 0 ≤ (IntKind.u64.wrap ((shl .u64 4 (ji12)) - 1)) then (some (wrap64 (-(shl .i64 1 (IntKind.u64.wrap ((shl .u64 4 (ji12)) - 1)))), wrap64 ((shl .i64 1 (IntKind.u64.wrap ((shl .u64 4 (ji12)) - 1))) - 1))) else (none)) else (none)) = some (r1, r2) := by first | (rw [hji12] at H; exact H) | (simp only [hji12] at H ⊢; exact H)
   by_cases c13 : 0 ≤ (ji12)
   ·
    rw [if_pos c13] at H
    have c13b0 := eq_true c13
    have c13b1 : decide (0 ≤ (ji12)) = true := decide_eq_true c13
    clear c13
    obtain ⟨ji14, hji14⟩ : ∃ j_ : Int, (shl .u64 4 (ji12)) = j_ := ⟨_, rfl⟩
    replace H : (if 0 ≤ (IntKind.u64.wrap ((ji14) - 1)) then (some (wrap64 (-(shl .i64 1 (IntKind.u64.wrap ((ji14) - 1)))), wrap64 ((shl .i64 1 (IntKind.u64.wrap ((ji14) - 1))) - 1))) else (none)) = some (r1, r2) := by first | (rw [hji14] at H; exact H) | (simp only [hji14] at H ⊢; exact H)
    have hji14_ : (IntKind.u64.wrap (4 * 2 ^ min (ji12).toNat 64)) = ji14 := hji14
    have hji14z : (ji12) ≤ 64 → (IntKind.u64.wrap (4 * 2 ^ (ji12).toNat)) = ji14 := shl_small hji14
    obtain ⟨ji15, hji15⟩ : ∃ j_ : Int, (IntKind.u64.wrap ((ji14) - 1)) = j_ := ⟨_, rfl⟩
    replace H : (if 0 ≤ (ji15) then (some (wrap64 (-(shl .i64 1 (ji15))), wrap64 ((shl .i64 1 (ji15)) - 1))) else (none)) = some (r1, r2) := by first | (rw [hji15] at H; exact H) | (simp only [hji15] at H ⊢; exact H)
    by_cases c16 : 0 ≤ (ji15)
    ·
     rw [if_pos c16] at H
     have c16b0 := eq_true c16
     have c16b1 : decide (0 ≤ (ji15)) = true := decide_eq_true c16
     clear c16
     obtain ⟨ji17, hji17⟩ : ∃ j_ : Int, (shl .i64 1 (ji15)) = j_ := ⟨_, rfl⟩
     replace H : (some (wrap64 (-(ji17)), wrap64 ((ji17) - 1))) = some (r1, r2) := by first | (rw [hji17] at H; exact H) | (simp only [hji17] at H ⊢; exact H)
     have hji17_ : (IntKind.i64.wrap (1 * 2 ^ min (ji15).toNat 64)) = ji17 := hji17
     have hji17z : (ji15) ≤ 64 → (IntKind.i64.wrap (1 * 2 ^ (ji15).toNat)) = ji17 := shl_small hji17
     have hji17u : (IntKind.i64.wrap (2 ^ min (ji15).toNat 64)) = ji17 := by have h_ := hji17_; rw [Int.one_mul] at h_; exact h_
     have hji17v : (ji15) ≤ 64 → (IntKind.i64.wrap (2 ^ (ji15).toNat)) = ji17 := fun hle_ => by have h_ := hji17z hle_; rw [Int.one_mul] at h_; exact h_
     have hji17y : (wrap64 (1 * 2 ^ min (ji15).toNat 64)) = ji17 := (i64_w _).symm.trans hji17_
     have hji17x : (ji15) ≤ 64 → (wrap64 (1 * 2 ^ (ji15).toNat)) = ji17 := fun h_ => (i64_w _).symm.trans (hji17z h_)
     simp only [Option.some.injEq, Prod.mk.injEq] at H
     obtain ⟨rfl, rfl⟩ := H
     go_enter Tryd.func71, Tryd.ntmps71
     go_wp2_with (first | ((with_reducible refine gate_dst (N := 2) rfl ?_); refine box_event ?hg (N := 2) ?hd (cs := #[.int .i64 0, .int .i64 0]) (t := 38) ?hr ?_; (case hd => rfl); (case hg => rfl); (case hr => first | (go_simp; done) | (go_simp; rfl)); intro gb308 hg w18 hbox hb; have n0_ := kW HB hb; have n1_ := Aside0.mk (hbox); have n2_ := Aside0.mk ((by rw [hg]; exact (below_size (bS HB)) : w.heap.size ≤ gb308)); have n3_ := Aside0.mk ((by rw [hg]; exact (below_size (bS HB)) : w.heap.size ≤ gb308)); clear HB; have HB := n0_; have BK308 := n1_; have GW308 := n2_; have GE308 := n3_; clear n0_ n1_ n2_ n3_; clear hb hbox hg; have hcz19_0 := cz0 BK308; have hcz19_1 := cz1 BK308; have hfz19_0 := fz BK308 0; have hfz19_1 := fz BK308 1))
     refine bodyPost_ret (results_cell_row rfl _ _ gb308 38 #[.int .i64 (wrap64 (-(ji17))), .int .i64 (wrap64 ((ji17) - 1))] (0, 0) _ rfl (by (with_reducible repeat (first | refine b1 ?_ _ | refine b2 ?_ | refine b3 ?_ _)); refine blk_put (cs := #[.int .i64 (wrap64 (-(ji17))), .int .i64 0]) ?_ 1 _ rfl; (with_reducible repeat (first | refine b1 ?_ _ | refine b2 ?_ | refine b3 ?_ _)); refine blk_put (cs := #[.int .i64 0, .int .i64 0]) ?_ 0 _ rfl; (with_reducible repeat (first | refine b1 ?_ _ | refine b2 ?_ | refine b3 ?_ _)); exact BK308.out) Tryd.underlying38 rfl (by kernel_rfl)) rfl ?_
     exact ⟨by first | rfl | (simp [errW_none, errW_some] <;> rfl) | (simp only [← hji12, ← hji14, ← hji15, ← hji17]; first | rfl | (simp [errW_none, errW_some] <;> rfl)) | (simp [*, errW_none, errW_some] <;> rfl), bS HB⟩
    ·
     rw [if_neg c16] at H
     exact absurd H (by simp)
   ·
    rw [if_neg c13] at H
    exact absurd H (by simp)
  ·
   rw [if_neg c11] at H
   have c11b0 : (a0 == 2) = false := beq_eq_false_iff_ne.mpr c11
   have c11b1 : (a0 != 2) = true := bne_iff_ne.mpr c11
   by_cases c20 : a0 = 3
   ·
    rw [if_pos c20] at H
    have c20b0 : (a0 == 3) = true := beq_iff_eq.mpr c20
    have c20b1 : (a0 != 3) = false := bne_eq_false_iff_eq.mpr c20
    clear c20
    obtain ⟨ji21, hji21⟩ : ∃ j_ : Int, (IntKind.u64.wrap (a0)) = j_ := ⟨_, rfl⟩
    replace H : (if 0 ≤ (ji21) then (if 0 ≤ (IntKind.u64.wrap ((shl .u64 4 (ji21)) - 1)) then (some (wrap64 (-(shl .i64 1 (IntKind.u64.wrap ((shl .u64 4 (ji21)) - 1)))), wrap64 ((shl .i64 1 (IntKind.u64.wrap ((shl .u64 4 (ji21)) - 1))) - 1))) else (none)) else (none)) = some (r1, r2) := by first | (rw [hji21] at H; exact H) | (simp only [hji21] at H ⊢; exact H)
    by_cases c22 : 0 ≤ (ji21)
    ·
     rw [if_pos c22] at H
     have c22b0 := eq_true c22
     have c22b1 : decide (0 ≤ (ji21)) = true := decide_eq_true c22
     clear c22
     obtain ⟨ji23, hji23⟩ : ∃ j_ : Int, (shl .u64 4 (ji21)) = j_ := ⟨_, rfl⟩
     replace H : (if 0 ≤ (IntKind.u64.wrap ((ji23) - 1)) then (some (wrap64 (-(shl .i64 1 (IntKind.u64.wrap ((ji23) - 1)))), wrap64 ((shl .i64 1 (IntKind.u64.wrap ((ji23) - 1))) - 1))) else (none)) = some (r1, r2) := by first | (rw [hji23] at H; exact H) | (simp only [hji23] at H ⊢; exact H)
     have hji23_ : (IntKind.u64.wrap (4 * 2 ^ min (ji21).toNat 64)) = ji23 := hji23
     have hji23z : (ji21) ≤ 64 → (IntKind.u64.wrap (4 * 2 ^ (ji21).toNat)) = ji23 := shl_small hji23
     obtain ⟨ji24, hji24⟩ : ∃ j_ : Int, (IntKind.u64.wrap ((ji23) - 1)) = j_ := ⟨_, rfl⟩
     replace H : (if 0 ≤ (ji24) then (some (wrap64 (-(shl .i64 1 (ji24))), wrap64 ((shl .i64 1 (ji24)) - 1))) else (none)) = some (r1, r2) := by first | (rw [hji24] at H; exact H) | (simp only [hji24] at H ⊢; exact H)
     by_cases c25 : 0 ≤ (ji24)
     ·
      rw [if_pos c25] at H
      have c25b0 := eq_true c25
      have c25b1 : decide (0 ≤ (ji24)) = true := decide_eq_true c25
      clear c25
      obtain ⟨ji26, hji26⟩ : ∃ j_ : Int, (shl .i64 1 (ji24)) = j_ := ⟨_, rfl⟩
      replace H : (some (wrap64 (-(ji26)), wrap64 ((ji26) - 1))) = some (r1, r2) := by first | (rw [hji26] at H; exact H) | (simp only [hji26] at H ⊢; exact H)
      have hji26_ : (IntKind.i64.wrap (1 * 2 ^ min (ji24).toNat 64)) = ji26 := hji26
      have hji26z : (ji24) ≤ 64 → (IntKind.i64.wrap (1 * 2 ^ (ji24).toNat)) = ji26 := shl_small hji26
      have hji26u : (IntKind.i64.wrap (2 ^ min (ji24).toNat 64)) = ji26 := by have h_ := hji26_; rw [Int.one_mul] at h_; exact h_
      have hji26v : (ji24) ≤ 64 → (IntKind.i64.wrap (2 ^ (ji24).toNat)) = ji26 := fun hle_ => by have h_ := hji26z hle_; rw [Int.one_mul] at h_; exact h_
      have hji26y : (wrap64 (1 * 2 ^ min (ji24).toNat 64)) = ji26 := (i64_w _).symm.trans hji26_
      have hji26x : (ji24) ≤ 64 → (wrap64 (1 * 2 ^ (ji24).toNat)) = ji26 := fun h_ => (i64_w _).symm.trans (hji26z h_)
      simp only [Option.some.injEq, Prod.mk.injEq] at H
      obtain ⟨rfl, rfl⟩ := H
      go_enter Tryd.func71, Tryd.ntmps71
      go_wp2_with (first | ((with_reducible refine gate_dst (N := 2) rfl ?_); refine box_event ?hg (N := 2) ?hd (cs := #[.int .i64 0, .int .i64 0]) (t := 38) ?hr ?_; (case hd => rfl); (case hg => rfl); (case hr => first | (go_simp; done) | (go_simp; rfl)); intro gb308 hg w27 hbox hb; have n0_ := kW HB hb; have n1_ := Aside0.mk (hbox); have n2_ := Aside0.mk ((by rw [hg]; exact (below_size (bS HB)) : w.heap.size ≤ gb308)); have n3_ := Aside0.mk ((by rw [hg]; exact (below_size (bS HB)) : w.heap.size ≤ gb308)); clear HB; have HB := n0_; have BK308 := n1_; have GW308 := n2_; have GE308 := n3_; clear n0_ n1_ n2_ n3_; clear hb hbox hg; have hcz28_0 := cz0 BK308; have hcz28_1 := cz1 BK308; have hfz28_0 := fz BK308 0; have hfz28_1 := fz BK308 1))
      refine bodyPost_ret (results_cell_row rfl _ _ gb308 38 #[.int .i64 (wrap64 (-(ji26))), .int .i64 (wrap64 ((ji26) - 1))] (0, 0) _ rfl (by (with_reducible repeat (first | refine b1 ?_ _ | refine b2 ?_ | refine b3 ?_ _)); refine blk_put (cs := #[.int .i64 (wrap64 (-(ji26))), .int .i64 0]) ?_ 1 _ rfl; (with_reducible repeat (first | refine b1 ?_ _ | refine b2 ?_ | refine b3 ?_ _)); refine blk_put (cs := #[.int .i64 0, .int .i64 0]) ?_ 0 _ rfl; (with_reducible repeat (first | refine b1 ?_ _ | refine b2 ?_ | refine b3 ?_ _)); exact BK308.out) Tryd.underlying38 rfl (by kernel_rfl)) rfl ?_
      exact ⟨by first | rfl | (simp [errW_none, errW_some] <;> rfl) | (simp only [← hji21, ← hji23, ← hji24, ← hji26]; first | rfl | (simp [errW_none, errW_some] <;> rfl)) | (simp [*, errW_none, errW_some] <;> rfl), bS HB⟩
     ·
      rw [if_neg c25] at H
      exact absurd H (by simp)
    ·
     rw [if_neg c22] at H
     exact absurd H (by simp)
   ·
    rw [if_neg c20] at H
    have c20b0 : (a0 == 3) = false := beq_eq_false_iff_ne.mpr c20
    have c20b1 : (a0 != 3) = true := bne_iff_ne.mpr c20
    replace H := Option.bind_eq_some_iff.mp H
    obtain ⟨⟨t309, t310⟩, A290, H⟩ := H
    replace H : (some (t309, t310)) = some (r1, r2) := H
    have A29 := Aside0.mk A290
    clear A290
    simp only [Option.some.injEq, Prod.mk.injEq] at H
    obtain ⟨rfl, rfl⟩ := H
    go_enter Tryd.func71, Tryd.ntmps71
    go_wp2_with (first | ((with_reducible refine gate_dst (N := 2) rfl ?_); refine box_event ?hg (N := 2) ?hd (cs := #[.int .i64 0, .int .i64 0]) (t := 38) ?hr ?_; (case hd => rfl); (case hg => rfl); (case hr => first | (go_simp; done) | (go_simp; rfl)); intro gb308 hg w30 hbox hb; have n0_ := kW HB hb; have n1_ := Aside0.mk (hbox); have n2_ := Aside0.mk ((by rw [hg]; exact (below_size (bS HB)) : w.heap.size ≤ gb308)); have n3_ := Aside0.mk ((by rw [hg]; exact (below_size (bS HB)) : w.heap.size ≤ gb308)); clear HB; have HB := n0_; have BK308 := n1_; have GW308 := n2_; have GE308 := n3_; clear n0_ n1_ n2_ n3_; clear hb hbox hg) | ((with_reducible refine gate_callee (f := 73) rfl ?_); refine goesL_ (some 19) rfl rfl Tryd.func73 (by kernel_rfl) rfl #[] rfl mS ?_; (with_reducible refine (itv_Empty.calls  t309 t310 _ A29.out).mono ?_); rintro e w31 ⟨rfl, hb⟩; refine ⟨_, rfl, ?_⟩; replace BK308 := kB BK308 hb; replace HB := kW HB hb; (try clear hb); (try clear hb2); (try clear hk); (try clear hi); have hcz32_0 := cz0 BK308; have hcz32_1 := cz1 BK308; have hfz32_0 := fz BK308 0; have hfz32_1 := fz BK308 1))
    refine bodyPost_ret (results_cell_row rfl _ _ gb308 38 #[.int .i64 t309, .int .i64 t310] (0, 0) _ rfl (by (with_reducible repeat (first | refine b1 ?_ _ | refine b2 ?_ | refine b3 ?_ _)); refine blk_put (cs := #[.int .i64 t309, .int .i64 0]) ?_ 1 _ rfl; (with_reducible repeat (first | refine b1 ?_ _ | refine b2 ?_ | refine b3 ?_ _)); refine blk_put (cs := #[.int .i64 0, .int .i64 0]) ?_ 0 _ rfl; (with_reducible repeat (first | refine b1 ?_ _ | refine b2 ?_ | refine b3 ?_ _)); exact BK308.out) Tryd.underlying38 rfl (by kernel_rfl)) rfl ?_
    exact ⟨eS, bS HB⟩

def itv_Has.f (a0_0 : Int) (a0_1 : Int) (a1 : Int) : Option (Bool) := (itv_sound.f a0_0 a0_1).bind fun bt312 => ((itv_None.f bt312.1 bt312.2).bind fun t314 => (if t314 = true then (some false) else (if bt312.1 = (-4611686018427387904) then (if bt312.2 = 4611686018427387904 then (some true) else (some (decide (a1 ≤ bt312.2)))) else (if bt312.1 ≤ a1 then (if bt312.2 = 4611686018427387904 then (some true) else (some (decide (a1 ≤ bt312.2)))) else (some false)))))
set_option maxHeartbeats 8000000 in
set_option maxRecDepth 100000 in
theorem itv_Has.calls (a0_0 : Int) (a0_1 : Int) (a1 : Int) (r : Bool) (w : World) (h : itv_Has.f a0_0 a0_1 a1 = some r) :
  Calls Tryd.prog 74 #[.agg #[.int .i64 a0_0, .int .i64 a0_1], .int .i64 a1] w fun e w' => e = .returned (.bool r) ∧ Below w.heap.size w w' := by
 have hu38 := Tryd.underlying38
 have HB := Aside0.mk (Below.refl w.heap.size w)
 have H : ((itv_sound.f a0_0 a0_1).bind fun bt312 => ((itv_None.f bt312.1 bt312.2).bind fun t314 => (if t314 = true then (some false) else (if bt312.1 = (-4611686018427387904) then (if bt312.2 = 4611686018427387904 then (some true) else (some (decide (a1 ≤ bt312.2)))) else (if bt312.1 ≤ a1 then (if bt312.2 = 4611686018427387904 then (some true) else (some (decide (a1 ≤ bt312.2)))) else (some false)))))) = some r := h
 clear h
 replace H := Option.bind_eq_some_iff.mp H
 obtain ⟨⟨t312, t313⟩, A30, H⟩ := H
 replace H : ((itv_None.f t312 t313).bind fun t314 => (if t314 = true then (some false) else (if t312 = (-4611686018427387904) then (if t313 = 4611686018427387904 then (some true) else (some (decide (a1 ≤ t313)))) else (if t312 ≤ a1 then (if t313 = 4611686018427387904 then (some true) else (some (decide (a1 ≤ t313)))) else (some false))))) = some r := H
 have A3 := Aside0.mk A30
 clear A30
 replace H := Option.bind_eq_some_iff.mp H
 obtain ⟨t314, A40, H⟩ := H
 replace H : (if t314 = true then (some false) else (if t312 = (-4611686018427387904) then (if t313 = 4611686018427387904 then (some true) else (some (decide (a1 ≤ t313)))) else (if t312 ≤ a1 then (if t313 = 4611686018427387904 then (some true) else (some (decide (a1 ≤ t313)))) else (some false)))) = some r := H
 have A4 := Aside0.mk A40
 clear A40
 by_cases c5 : t314 = true
 ·
  subst c5
  have H1 : (some false) = some r := by rw [if_pos rfl] at H; exact H
  clear H
  have H := H1
  clear H1
  obtain rfl := Option.some.inj H
  go_enter Tryd.func74, Tryd.ntmps74
  go_wp2_with (first | ((with_reducible refine gate_dst (N := 2) rfl ?_); refine box_event ?hg (N := 2) ?hd (cs := #[.int .i64 a0_0, .int .i64 a0_1]) (t := 38) ?hr ?_; (case hd => rfl); (case hg => rfl); (case hr => first | (go_simp; done) | (go_simp; rfl)); intro gb311 hg w6 hbox hb; have n0_ := kW HB hb; have n1_ := Aside0.mk (hbox); have n2_ := Aside0.mk ((by rw [hg]; exact (below_size (bS HB)) : w.heap.size ≤ gb311)); have n3_ := Aside0.mk ((by rw [hg]; exact (below_size (bS HB)) : w.heap.size ≤ gb311)); clear HB; have HB := n0_; have BK311 := n1_; have GW311 := n2_; have GE311 := n3_; clear n0_ n1_ n2_ n3_; clear hb hbox hg; have hcz7_0 := cz0 BK311; have hcz7_1 := cz1 BK311; have hfz7_0 := fz BK311 0; have hfz7_1 := fz BK311 1) | ((with_reducible refine gate_callee (f := 95) rfl ?_); refine goesL_ (some 6) rfl rfl Tryd.func95 (by kernel_rfl) rfl #[.agg #[.int .i64 a0_0, .int .i64 a0_1]] rfl mS ?_; (with_reducible refine (itv_sound.calls a0_0 a0_1 t312 t313 _ A3.out).mono ?_); rintro e w8 ⟨rfl, hb⟩; refine ⟨_, rfl, ?_⟩; replace BK311 := kB BK311 hb; replace HB := kW HB hb; (try clear hb); (try clear hb2); (try clear hk); (try clear hi); have hcz9_0 := cz0 BK311; have hcz9_1 := cz1 BK311; have hfz9_0 := fz BK311 0; have hfz9_1 := fz BK311 1) | ((with_reducible refine gate_callee (f := 72) rfl ?_); refine goesL_ (some 8) rfl rfl Tryd.func72 (by kernel_rfl) rfl #[.agg #[.int .i64 t312, .int .i64 t313]] rfl mS ?_; (with_reducible refine (itv_None.calls t312 t313 true _ A4.out).mono ?_); rintro e w10 ⟨rfl, hb⟩; refine ⟨_, rfl, ?_⟩; have n0_ := Aside0.mk (blk_below (g := gb311) (o := .cells #[.int .i64 t312, .int .i64 t313] 38 (0, 0)) (by (with_reducible repeat (first | refine b1 ?_ _ | refine b2 ?_ | refine b3 ?_ _)); refine blk_put (cs := #[.int .i64 t312, .int .i64 a0_1]) ?_ 1 _ rfl; (with_reducible repeat (first | refine b1 ?_ _ | refine b2 ?_ | refine b3 ?_ _)); refine blk_put (cs := #[.int .i64 a0_0, .int .i64 a0_1]) ?_ 0 _ rfl; (with_reducible repeat (first | refine b1 ?_ _ | refine b2 ?_ | refine b3 ?_ _)); exact BK311.out) hb); have n1_ := kW HB hb; clear BK311; clear HB; have BK311 := n0_; have HB := n1_; clear n0_ n1_; (try clear hb); (try clear hb2); (try clear hk); (try clear hi)))
  go_ret
  exact ⟨eS, bS HB⟩
 ·
  replace c5 := Bool.eq_false_iff.mpr c5
  subst c5
  have H1 : (if t312 = (-4611686018427387904) then (if t313 = 4611686018427387904 then (some true) else (some (decide (a1 ≤ t313)))) else (if t312 ≤ a1 then (if t313 = 4611686018427387904 then (some true) else (some (decide (a1 ≤ t313)))) else (some false))) = some r := by rw [if_neg (show ¬ (false = true) by decide)] at H; exact H
  clear H
  have H := H1
  clear H1
  by_cases c11 : t312 = (-4611686018427387904)
  ·
   rw [if_pos c11] at H
   have c11b0 : (t312 == (-4611686018427387904)) = true := beq_iff_eq.mpr c11
   have c11b1 : (t312 != (-4611686018427387904)) = false := bne_eq_false_iff_eq.mpr c11
   clear c11
   by_cases c12 : t313 = 4611686018427387904
   ·
    rw [if_pos c12] at H
    have c12b0 : (t313 == 4611686018427387904) = true := beq_iff_eq.mpr c12
    have c12b1 : (t313 != 4611686018427387904) = false := bne_eq_false_iff_eq.mpr c12
    clear c12
    obtain rfl := Option.some.inj H
    go_enter Tryd.func74, Tryd.ntmps74
    go_wp2_with (first | ((with_reducible refine gate_dst (N := 2) rfl ?_); refine box_event ?hg (N := 2) ?hd (cs := #[.int .i64 a0_0, .int .i64 a0_1]) (t := 38) ?hr ?_; (case hd => rfl); (case hg => rfl); (case hr => first | (go_simp; done) | (go_simp; rfl)); intro gb311 hg w13 hbox hb; have n0_ := kW HB hb; have n1_ := Aside0.mk (hbox); have n2_ := Aside0.mk ((by rw [hg]; exact (below_size (bS HB)) : w.heap.size ≤ gb311)); have n3_ := Aside0.mk ((by rw [hg]; exact (below_size (bS HB)) : w.heap.size ≤ gb311)); clear HB; have HB := n0_; have BK311 := n1_; have GW311 := n2_; have GE311 := n3_; clear n0_ n1_ n2_ n3_; clear hb hbox hg; have hcz14_0 := cz0 BK311; have hcz14_1 := cz1 BK311; have hfz14_0 := fz BK311 0; have hfz14_1 := fz BK311 1) | ((with_reducible refine gate_callee (f := 95) rfl ?_); refine goesL_ (some 6) rfl rfl Tryd.func95 (by kernel_rfl) rfl #[.agg #[.int .i64 a0_0, .int .i64 a0_1]] rfl mS ?_; (with_reducible refine (itv_sound.calls a0_0 a0_1 t312 t313 _ A3.out).mono ?_); rintro e w15 ⟨rfl, hb⟩; refine ⟨_, rfl, ?_⟩; replace BK311 := kB BK311 hb; replace HB := kW HB hb; (try clear hb); (try clear hb2); (try clear hk); (try clear hi); have hcz16_0 := cz0 BK311; have hcz16_1 := cz1 BK311; have hfz16_0 := fz BK311 0; have hfz16_1 := fz BK311 1) | ((with_reducible refine gate_callee (f := 72) rfl ?_); refine goesL_ (some 8) rfl rfl Tryd.func72 (by kernel_rfl) rfl #[.agg #[.int .i64 t312, .int .i64 t313]] rfl mS ?_; (with_reducible refine (itv_None.calls t312 t313 false _ A4.out).mono ?_); rintro e w17 ⟨rfl, hb⟩; refine ⟨_, rfl, ?_⟩; have n0_ := Aside0.mk (blk_below (g := gb311) (o := .cells #[.int .i64 t312, .int .i64 t313] 38 (0, 0)) (by (with_reducible repeat (first | refine b1 ?_ _ | refine b2 ?_ | refine b3 ?_ _)); refine blk_put (cs := #[.int .i64 t312, .int .i64 a0_1]) ?_ 1 _ rfl; (with_reducible repeat (first | refine b1 ?_ _ | refine b2 ?_ | refine b3 ?_ _)); refine blk_put (cs := #[.int .i64 a0_0, .int .i64 a0_1]) ?_ 0 _ rfl; (with_reducible repeat (first | refine b1 ?_ _ | refine b2 ?_ | refine b3 ?_ _)); exact BK311.out) hb); have n1_ := kW HB hb; clear BK311; clear HB; have BK311 := n0_; have HB := n1_; clear n0_ n1_; (try clear hb); (try clear hb2); (try clear hk); (try clear hi); have hcz18_0 := cz0 BK311; have hcz18_1 := cz1 BK311; have hfz18_0 := fz BK311 0; have hfz18_1 := fz BK311 1))
    go_ret
    exact ⟨eS, bS HB⟩
   ·
    rw [if_neg c12] at H
    have c12b0 : (t313 == 4611686018427387904) = false := beq_eq_false_iff_ne.mpr c12
    have c12b1 : (t313 != 4611686018427387904) = true := bne_iff_ne.mpr c12
    obtain rfl := Option.some.inj H
    go_enter Tryd.func74, Tryd.ntmps74
    go_wp2_with (first | ((with_reducible refine gate_dst (N := 2) rfl ?_); refine box_event ?hg (N := 2) ?hd (cs := #[.int .i64 a0_0, .int .i64 a0_1]) (t := 38) ?hr ?_; (case hd => rfl); (case hg => rfl); (case hr => first | (go_simp; done) | (go_simp; rfl)); intro gb311 hg w19 hbox hb; have n0_ := kW HB hb; have n1_ := Aside0.mk (hbox); have n2_ := Aside0.mk ((by rw [hg]; exact (below_size (bS HB)) : w.heap.size ≤ gb311)); have n3_ := Aside0.mk ((by rw [hg]; exact (below_size (bS HB)) : w.heap.size ≤ gb311)); clear HB; have HB := n0_; have BK311 := n1_; have GW311 := n2_; have GE311 := n3_; clear n0_ n1_ n2_ n3_; clear hb hbox hg; have hcz20_0 := cz0 BK311; have hcz20_1 := cz1 BK311; have hfz20_0 := fz BK311 0; have hfz20_1 := fz BK311 1) | ((with_reducible refine gate_callee (f := 95) rfl ?_); refine goesL_ (some 6) rfl rfl Tryd.func95 (by kernel_rfl) rfl #[.agg #[.int .i64 a0_0, .int .i64 a0_1]] rfl mS ?_; (with_reducible refine (itv_sound.calls a0_0 a0_1 t312 t313 _ A3.out).mono ?_); rintro e w21 ⟨rfl, hb⟩; refine ⟨_, rfl, ?_⟩; replace BK311 := kB BK311 hb; replace HB := kW HB hb; (try clear hb); (try clear hb2); (try clear hk); (try clear hi); have hcz22_0 := cz0 BK311; have hcz22_1 := cz1 BK311; have hfz22_0 := fz BK311 0; have hfz22_1 := fz BK311 1) | ((with_reducible refine gate_callee (f := 72) rfl ?_); refine goesL_ (some 8) rfl rfl Tryd.func72 (by kernel_rfl) rfl #[.agg #[.int .i64 t312, .int .i64 t313]] rfl mS ?_; (with_reducible refine (itv_None.calls t312 t313 false _ A4.out).mono ?_); rintro e w23 ⟨rfl, hb⟩; refine ⟨_, rfl, ?_⟩; have n0_ := Aside0.mk (blk_below (g := gb311) (o := .cells #[.int .i64 t312, .int .i64 t313] 38 (0, 0)) (by (with_reducible repeat (first | refine b1 ?_ _ | refine b2 ?_ | refine b3 ?_ _)); refine blk_put (cs := #[.int .i64 t312, .int .i64 a0_1]) ?_ 1 _ rfl; (with_reducible repeat (first | refine b1 ?_ _ | refine b2 ?_ | refine b3 ?_ _)); refine blk_put (cs := #[.int .i64 a0_0, .int .i64 a0_1]) ?_ 0 _ rfl; (with_reducible repeat (first | refine b1 ?_ _ | refine b2 ?_ | refine b3 ?_ _)); exact BK311.out) hb); have n1_ := kW HB hb; clear BK311; clear HB; have BK311 := n0_; have HB := n1_; clear n0_ n1_; (try clear hb); (try clear hb2); (try clear hk); (try clear hi); have hcz24_0 := cz0 BK311; have hcz24_1 := cz1 BK311; have hfz24_0 := fz BK311 0; have hfz24_1 := fz BK311 1))
    go_ret
    exact ⟨eS, bS HB⟩
  ·
   rw [if_neg c11] at H
   have c11b0 : (t312 == (-4611686018427387904)) = false := beq_eq_false_iff_ne.mpr c11
   have c11b1 : (t312 != (-4611686018427387904)) = true := bne_iff_ne.mpr c11
   by_cases c25 : t312 ≤ a1
   ·
    rw [if_pos c25] at H
    have c25b0 : decide (t312 ≤ a1) = true := decide_eq_true c25
    clear c25
    by_cases c26 : t313 = 4611686018427387904
    ·
     rw [if_pos c26] at H
     have c26b0 : (t313 == 4611686018427387904) = true := beq_iff_eq.mpr c26
     have c26b1 : (t313 != 4611686018427387904) = false := bne_eq_false_iff_eq.mpr c26
     clear c26
     obtain rfl := Option.some.inj H
     go_enter Tryd.func74, Tryd.ntmps74
     go_wp2_with (first | ((with_reducible refine gate_dst (N := 2) rfl ?_); refine box_event ?hg (N := 2) ?hd (cs := #[.int .i64 a0_0, .int .i64 a0_1]) (t := 38) ?hr ?_; (case hd => rfl); (case hg => rfl); (case hr => first | (go_simp; done) | (go_simp; rfl)); intro gb311 hg w27 hbox hb; have n0_ := kW HB hb; have n1_ := Aside0.mk (hbox); have n2_ := Aside0.mk ((by rw [hg]; exact (below_size (bS HB)) : w.heap.size ≤ gb311)); have n3_ := Aside0.mk ((by rw [hg]; exact (below_size (bS HB)) : w.heap.size ≤ gb311)); clear HB; have HB := n0_; have BK311 := n1_; have GW311 := n2_; have GE311 := n3_; clear n0_ n1_ n2_ n3_; clear hb hbox hg; have hcz28_0 := cz0 BK311; have hcz28_1 := cz1 BK311; have hfz28_0 := fz BK311 0; have hfz28_1 := fz BK311 1) | ((with_reducible refine gate_callee (f := 95) rfl ?_); refine goesL_ (some 6) rfl rfl Tryd.func95 (by kernel_rfl) rfl #[.agg #[.int .i64 a0_0, .int .i64 a0_1]] rfl mS ?_; (with_reducible refine (itv_sound.calls a0_0 a0_1 t312 t313 _ A3.out).mono ?_); rintro e w29 ⟨rfl, hb⟩; refine ⟨_, rfl, ?_⟩; replace BK311 := kB BK311 hb; replace HB := kW HB hb; (try clear hb); (try clear hb2); (try clear hk); (try clear hi); have hcz30_0 := cz0 BK311; have hcz30_1 := cz1 BK311; have hfz30_0 := fz BK311 0; have hfz30_1 := fz BK311 1) | ((with_reducible refine gate_callee (f := 72) rfl ?_); refine goesL_ (some 8) rfl rfl Tryd.func72 (by kernel_rfl) rfl #[.agg #[.int .i64 t312, .int .i64 t313]] rfl mS ?_; (with_reducible refine (itv_None.calls t312 t313 false _ A4.out).mono ?_); rintro e w31 ⟨rfl, hb⟩; refine ⟨_, rfl, ?_⟩; have n0_ := Aside0.mk (blk_below (g := gb311) (o := .cells #[.int .i64 t312, .int .i64 t313] 38 (0, 0)) (by (with_reducible repeat (first | refine b1 ?_ _ | refine b2 ?_ | refine b3 ?_ _)); refine blk_put (cs := #[.int .i64 t312, .int .i64 a0_1]) ?_ 1 _ rfl; (with_reducible repeat (first | refine b1 ?_ _ | refine b2 ?_ | refine b3 ?_ _)); refine blk_put (cs := #[.int .i64 a0_0, .int .i64 a0_1]) ?_ 0 _ rfl; (with_reducible repeat (first | refine b1 ?_ _ | refine b2 ?_ | refine b3 ?_ _)); exact BK311.out) hb); have n1_ := kW HB hb; clear BK311; clear HB; have BK311 := n0_; have HB := n1_; clear n0_ n1_; (try clear hb); (try clear hb2); (try clear hk); (try clear hi); have hcz32_0 := cz0 BK311; have hcz32_1 := cz1 BK311; have hfz32_0 := fz BK311 0; have hfz32_1 := fz BK311 1))
     go_ret
     exact ⟨eS, bS HB⟩
    ·
     rw [if_neg c26] at H
     have c26b0 : (t313 == 4611686018427387904) = false := beq_eq_false_iff_ne.mpr c26
     have c26b1 : (t313 != 4611686018427387904) = true := bne_iff_ne.mpr c26
     obtain rfl := Option.some.inj H
     go_enter Tryd.func74, Tryd.ntmps74
     go_wp2_with (first | ((with_reducible refine gate_dst (N := 2) rfl ?_); refine box_event ?hg (N := 2) ?hd (cs := #[.int .i64 a0_0, .int .i64 a0_1]) (t := 38) ?hr ?_; (case hd => rfl); (case hg => rfl); (case hr => first | (go_simp; done) | (go_simp; rfl)); intro gb311 hg w33 hbox hb; have n0_ := kW HB hb; have n1_ := Aside0.mk (hbox); have n2_ := Aside0.mk ((by rw [hg]; exact (below_size (bS HB)) : w.heap.size ≤ gb311)); have n3_ := Aside0.mk ((by rw [hg]; exact (below_size (bS HB)) : w.heap.size ≤ gb311)); clear HB; have HB := n0_; have BK311 := n1_; have GW311 := n2_; have GE311 := n3_; clear n0_ n1_ n2_ n3_; clear hb hbox hg; have hcz34_0 := cz0 BK311; have hcz34_1 := cz1 BK311; have hfz34_0 := fz BK311 0; have hfz34_1 := fz BK311 1) | ((with_reducible refine gate_callee (f := 95) rfl ?_); refine goesL_ (some 6) rfl rfl Tryd.func95 (by kernel_rfl) rfl #[.agg #[.int .i64 a0_0, .int .i64 a0_1]] rfl mS ?_; (with_reducible refine (itv_sound.calls a0_0 a0_1 t312 t313 _ A3.out).mono ?_); rintro e w35 ⟨rfl, hb⟩; refine ⟨_, rfl, ?_⟩; replace BK311 := kB BK311 hb; replace HB := kW HB hb; (try clear hb); (try clear hb2); (try clear hk); (try clear hi); have hcz36_0 := cz0 BK311; have hcz36_1 := cz1 BK311; have hfz36_0 := fz BK311 0; have hfz36_1 := fz BK311 1) | ((with_reducible refine gate_callee (f := 72) rfl ?_); refine goesL_ (some 8) rfl rfl Tryd.func72 (by kernel_rfl) rfl #[.agg #[.int .i64 t312, .int .i64 t313]] rfl mS ?_; (with_reducible refine (itv_None.calls t312 t313 false _ A4.out).mono ?_); rintro e w37 ⟨rfl, hb⟩; refine ⟨_, rfl, ?_⟩; have n0_ := Aside0.mk (blk_below (g := gb311) (o := .cells #[.int .i64 t312, .int .i64 t313] 38 (0, 0)) (by (with_reducible repeat (first | refine b1 ?_ _ | refine b2 ?_ | refine b3 ?_ _)); refine blk_put (cs := #[.int .i64 t312, .int .i64 a0_1]) ?_ 1 _ rfl; (with_reducible repeat (first | refine b1 ?_ _ | refine b2 ?_ | refine b3 ?_ _)); refine blk_put (cs := #[.int .i64 a0_0, .int .i64 a0_1]) ?_ 0 _ rfl; (with_reducible repeat (first | refine b1 ?_ _ | refine b2 ?_ | refine b3 ?_ _)); exact BK311.out) hb); have n1_ := kW HB hb; clear BK311; clear HB; have BK311 := n0_; have HB := n1_; clear n0_ n1_; (try clear hb); (try clear hb2); (try clear hk); (try clear hi); have hcz38_0 := cz0 BK311; have hcz38_1 := cz1 BK311; have hfz38_0 := fz BK311 0; have hfz38_1 := fz BK311 1))
     go_ret
     exact ⟨eS, bS HB⟩
   ·
    rw [if_neg c25] at H
    have c25b0 : decide (t312 ≤ a1) = false := decide_eq_false c25
    clear c25
    obtain rfl := Option.some.inj H
    go_enter Tryd.func74, Tryd.ntmps74
    go_wp2_with (first | ((with_reducible refine gate_dst (N := 2) rfl ?_); refine box_event ?hg (N := 2) ?hd (cs := #[.int .i64 a0_0, .int .i64 a0_1]) (t := 38) ?hr ?_; (case hd => rfl); (case hg => rfl); (case hr => first | (go_simp; done) | (go_simp; rfl)); intro gb311 hg w39 hbox hb; have n0_ := kW HB hb; have n1_ := Aside0.mk (hbox); have n2_ := Aside0.mk ((by rw [hg]; exact (below_size (bS HB)) : w.heap.size ≤ gb311)); have n3_ := Aside0.mk ((by rw [hg]; exact (below_size (bS HB)) : w.heap.size ≤ gb311)); clear HB; have HB := n0_; have BK311 := n1_; have GW311 := n2_; have GE311 := n3_; clear n0_ n1_ n2_ n3_; clear hb hbox hg; have hcz40_0 := cz0 BK311; have hcz40_1 := cz1 BK311; have hfz40_0 := fz BK311 0; have hfz40_1 := fz BK311 1) | ((with_reducible refine gate_callee (f := 95) rfl ?_); refine goesL_ (some 6) rfl rfl Tryd.func95 (by kernel_rfl) rfl #[.agg #[.int .i64 a0_0, .int .i64 a0_1]] rfl mS ?_; (with_reducible refine (itv_sound.calls a0_0 a0_1 t312 t313 _ A3.out).mono ?_); rintro e w41 ⟨rfl, hb⟩; refine ⟨_, rfl, ?_⟩; replace BK311 := kB BK311 hb; replace HB := kW HB hb; (try clear hb); (try clear hb2); (try clear hk); (try clear hi); have hcz42_0 := cz0 BK311; have hcz42_1 := cz1 BK311; have hfz42_0 := fz BK311 0; have hfz42_1 := fz BK311 1) | ((with_reducible refine gate_callee (f := 72) rfl ?_); refine goesL_ (some 8) rfl rfl Tryd.func72 (by kernel_rfl) rfl #[.agg #[.int .i64 t312, .int .i64 t313]] rfl mS ?_; (with_reducible refine (itv_None.calls t312 t313 false _ A4.out).mono ?_); rintro e w43 ⟨rfl, hb⟩; refine ⟨_, rfl, ?_⟩; have n0_ := Aside0.mk (blk_below (g := gb311) (o := .cells #[.int .i64 t312, .int .i64 t313] 38 (0, 0)) (by (with_reducible repeat (first | refine b1 ?_ _ | refine b2 ?_ | refine b3 ?_ _)); refine blk_put (cs := #[.int .i64 t312, .int .i64 a0_1]) ?_ 1 _ rfl; (with_reducible repeat (first | refine b1 ?_ _ | refine b2 ?_ | refine b3 ?_ _)); refine blk_put (cs := #[.int .i64 a0_0, .int .i64 a0_1]) ?_ 0 _ rfl; (with_reducible repeat (first | refine b1 ?_ _ | refine b2 ?_ | refine b3 ?_ _)); exact BK311.out) hb); have n1_ := kW HB hb; clear BK311; clear HB; have BK311 := n0_; have HB := n1_; clear n0_ n1_; (try clear hb); (try clear hb2); (try clear hk); (try clear hi); have hcz44_0 := cz0 BK311; have hcz44_1 := cz1 BK311; have hfz44_0 := fz BK311 0; have hfz44_1 := fz BK311 1))
    go_ret
    exact ⟨eS, bS HB⟩

def congr_Tighten.j0 : Nat → Bool → Bool → Int → Int → Int → Int → Option (Bool × Int × Int × Int × Int)
 | 0, _, _, _, _, _, _ => none
 | k + 1, x17, x316000, x316001, x316002, x317000, x317001 => if x17 = true then ((congr_none.f).bind fun bt324 => ((itv_Empty.f).bind fun bt327 => (some (bt324.1, bt324.2.1, bt324.2.2, bt327.1, bt327.2)))) else (if x316001 = 0 then ((itv_Has.f x317000 x317001 x316002).bind fun t329 => (if t329 = true then ((itv_Of.f x316002 x316002).bind fun bt330 => (some (x316000, x316001, x316002, bt330.1, bt330.2))) else ((congr_none.f).bind fun bt332 => ((itv_Empty.f).bind fun bt335 => (some (bt332.1, bt332.2.1, bt332.2.2, bt335.1, bt335.2)))))) else ((congr_rest.f (wrap64 (x316002 - x317000)) (IntKind.u64.wrap (x316001))).bind fun t337 => ((congr_rest.f (wrap64 (x317001 - x316002)) (IntKind.u64.wrap (x316001))).bind fun t338 => (if (wrap64 (x317000 + (wrap64 (t337)))) > (wrap64 (x317001 - (wrap64 (t338)))) then ((congr_none.f).bind fun bt339 => ((itv_Empty.f).bind fun bt342 => (some (bt339.1, bt339.2.1, bt339.2.2, bt342.1, bt342.2)))) else (if (wrap64 (x317000 + (wrap64 (t337)))) = (wrap64 (x317001 - (wrap64 (t338)))) then ((congr_constant.f (wrap64 (x317000 + (wrap64 (t337))))).bind fun bt344 => ((itv_Of.f (wrap64 (x317000 + (wrap64 (t337)))) (wrap64 (x317000 + (wrap64 (t337))))).bind fun bt347 => (some (bt344.1, bt344.2.1, bt344.2.2, bt347.1, bt347.2)))) else ((itv_Of.f (wrap64 (x317000 + (wrap64 (t337)))) (wrap64 (x317001 - (wrap64 (t338))))).bind fun bt349 => (some (x316000, x316001, x316002, bt349.1, bt349.2))))))))
def congr_Tighten.f (k : Nat) (a0_0 : Bool) (a0_1 : Int) (a0_2 : Int) (a1_0 : Int) (a1_1 : Int) : Option (Bool × Int × Int × Int × Int) := (itv_Type.f 3).bind fun bt319 => ((itv_Meet.f k a1_0 a1_1 bt319.1 bt319.2).bind fun bt321 => (if a0_0 = true then (congr_Tighten.j0 k true a0_0 a0_1 a0_2 bt321.1 bt321.2) else ((itv_None.f bt321.1 bt321.2).bind fun t323 => (congr_Tighten.j0 k t323 a0_0 a0_1 a0_2 bt321.1 bt321.2))))
def congr_Tighten.T7 : Bool × List (List Nat × List Nat) := (true, [([], []), ([], []), ([1], [1]), ([], []), ([3], [3]), ([2, 4], [2, 4]), ([0, 5, 0], [0]), ([5, 6, 0, 1, 2, 3, 4, 5, 6], [5])])
def congr_Tighten.B7 : List Nat := [0, 0, 2, 0, 8, 30, 63, 127]
theorem congr_Tighten.tab7 : rtab .any (opsOf Tryd.f26 7) = congr_Tighten.T7 := by kernel_rfl
theorem congr_Tighten.bits7 : waitsOk congr_Tighten.T7.2 congr_Tighten.B7 = true := by kernel_rfl
def congr_Tighten.T9 : Bool × List (List Nat × List Nat) := (true, [([], []), ([0], [0]), ([], []), ([2], [2]), ([], []), ([4], [4]), ([3, 5], [3, 5]), ([], []), ([6, 7], [6, 7]), ([8], [8]), ([1, 9], [1, 9]), ([10, 8, 0, 1, 2, 3, 4, 5, 6, 7, 8, 9, 10], [10])])
def congr_Tighten.B9 : List Nat := [0, 1, 0, 4, 0, 16, 60, 0, 252, 508, 1023, 2047]
theorem congr_Tighten.tab9 : rtab .any (opsOf Tryd.f26 9) = congr_Tighten.T9 := by kernel_rfl
theorem congr_Tighten.bits9 : waitsOk congr_Tighten.T9.2 congr_Tighten.B9 = true := by kernel_rfl
def congr_Tighten.T10 : Bool × List (List Nat × List Nat) := (true, [([], []), ([0], [0]), ([], []), ([2], [2]), ([], []), ([4], [4]), ([3, 5], [3, 5]), ([], []), ([6, 7], [6, 7]), ([8], [8]), ([1, 9], [1, 9]), ([10, 8, 0, 1, 2, 3, 4, 5, 6, 7, 8, 9, 10], [10])])
def congr_Tighten.B10 : List Nat := [0, 1, 0, 4, 0, 16, 60, 0, 252, 508, 1023, 2047]
theorem congr_Tighten.tab10 : rtab .any (opsOf Tryd.f26 10) = congr_Tighten.T10 := by kernel_rfl
theorem congr_Tighten.bits10 : waitsOk congr_Tighten.T10.2 congr_Tighten.B10 = true := by kernel_rfl
set_option maxHeartbeats 8000000 in
set_option maxRecDepth 100000 in
theorem congr_Tighten.calls (k : Nat) (a0_0 : Bool) (a0_1 : Int) (a0_2 : Int) (a1_0 : Int) (a1_1 : Int) (r1 : Bool) (r2 : Int) (r3 : Int) (r4 : Int) (r5 : Int) (w : World) (h : congr_Tighten.f k a0_0 a0_1 a0_2 a1_0 a1_1 = some (r1, r2, r3, r4, r5)) :
  Calls Tryd.prog 26 #[.agg #[.bool a0_0, .int .i64 a0_1, .int .i64 a0_2], .agg #[.int .i64 a1_0, .int .i64 a1_1]] w fun e w' => e = .returned (.tuple #[.agg #[.bool r1, .int .i64 r2, .int .i64 r3], .agg #[.int .i64 r4, .int .i64 r5]]) ∧ Below w.heap.size w w' := by
 have hu23 := Tryd.underlying23
 have hu38 := Tryd.underlying38
 have HB := Aside0.mk (Below.refl w.heap.size w)
 have H : ((itv_Type.f 3).bind fun bt319 => ((itv_Meet.f k a1_0 a1_1 bt319.1 bt319.2).bind fun bt321 => (if a0_0 = true then (congr_Tighten.j0 k true a0_0 a0_1 a0_2 bt321.1 bt321.2) else ((itv_None.f bt321.1 bt321.2).bind fun t323 => (congr_Tighten.j0 k t323 a0_0 a0_1 a0_2 bt321.1 bt321.2))))) = some (r1, r2, r3, r4, r5) := h
 clear h
 replace H := Option.bind_eq_some_iff.mp H
 obtain ⟨⟨t319, t320⟩, A30, H⟩ := H
 replace H : ((itv_Meet.f k a1_0 a1_1 t319 t320).bind fun bt321 => (if a0_0 = true then (congr_Tighten.j0 k true a0_0 a0_1 a0_2 bt321.1 bt321.2) else ((itv_None.f bt321.1 bt321.2).bind fun t323 => (congr_Tighten.j0 k t323 a0_0 a0_1 a0_2 bt321.1 bt321.2)))) = some (r1, r2, r3, r4, r5) := H
 have A3 := Aside0.mk A30
 clear A30
 replace H := Option.bind_eq_some_iff.mp H
 obtain ⟨⟨t321, t322⟩, A40, H⟩ := H
 replace H : (if a0_0 = true then (congr_Tighten.j0 k true a0_0 a0_1 a0_2 t321 t322) else ((itv_None.f t321 t322).bind fun t323 => (congr_Tighten.j0 k t323 a0_0 a0_1 a0_2 t321 t322))) = some (r1, r2, r3, r4, r5) := H
 have A4 := Aside0.mk A40
 clear A40
 have HC5 := Aside0.mk H
 clear H
 go_enter Tryd.func26, Tryd.ntmps26
 try go_wp2_with (first | ((with_reducible refine gate_dst (N := 2) rfl ?_); refine box_event ?hg (N := 2) ?hd (cs := #[.bool a0_0, .int .i64 a0_1, .int .i64 a0_2]) (t := 23) ?hr ?_; (case hd => rfl); (case hg => rfl); (case hr => first | (go_simp; done) | (go_simp; rfl)); intro gb315 hg w6 hbox hb; have n0_ := kW HB hb; have n1_ := Aside0.mk (hbox); have n2_ := Aside0.mk ((by rw [hg]; exact (below_size (bS HB)) : w.heap.size ≤ gb315)); have n3_ := Aside0.mk ((by rw [hg]; exact (below_size (bS HB)) : w.heap.size ≤ gb315)); clear HB; have HB := n0_; have BK315 := n1_; have GW315 := n2_; have GE315 := n3_; clear n0_ n1_ n2_ n3_; clear hb hbox hg) | ((with_reducible refine gate_dst (N := 3) rfl ?_); refine box_event ?hg (N := 3) ?hd (cs := #[.int .i64 a1_0, .int .i64 a1_1]) (t := 38) ?hr ?_; (case hd => rfl); (case hg => rfl); (case hr => first | (go_simp; done) | (go_simp; rfl)); intro gb316 hg w7 hbox hb; have n0_ := kB BK315 hb; have n1_ := kW HB hb; have n2_ := Aside0.mk (hbox); have n3_ := Aside0.mk ((by rw [hg]; exact (below_size (bS HB)) : w.heap.size ≤ gb316)); have n4_ := Aside0.mk ((by rw [hg]; exact (below_size (bS HB)) : w.heap.size ≤ gb316)); have n5_ := Aside0.mk ((by rw [hg]; exact Nat.ne_of_lt (blk_lt (bkS BK315)) : gb315 ≠ gb316)); have n6_ := Aside0.mk ((by rw [hg]; exact Nat.ne_of_gt (blk_lt (bkS BK315)) : gb316 ≠ gb315)); clear BK315; clear HB; have BK315 := n0_; have HB := n1_; have BK316 := n2_; have GW316 := n3_; have GE316 := n4_; have NB315_316 := n5_; have NB316_315 := n6_; clear n0_ n1_ n2_ n3_ n4_ n5_ n6_; clear hb hbox hg) | ((with_reducible refine gate_dst (N := 4) rfl ?_); refine box_event ?hg (N := 4) ?hd (cs := #[.bool false, .int .i64 0, .int .i64 0]) (t := 23) ?hr ?_; (case hd => rfl); (case hg => rfl); (case hr => first | (go_simp; done) | (go_simp; rfl)); intro gb317 hg w8 hbox hb; have n0_ := kB BK315 hb; have n1_ := kB BK316 hb; have n2_ := kW HB hb; have n3_ := Aside0.mk (hbox); have n4_ := Aside0.mk ((by rw [hg]; exact (below_size (bS HB)) : w.heap.size ≤ gb317)); have n5_ := Aside0.mk ((by rw [hg]; exact (below_size (bS HB)) : w.heap.size ≤ gb317)); have n6_ := Aside0.mk ((by rw [hg]; exact Nat.ne_of_lt (blk_lt (bkS BK315)) : gb315 ≠ gb317)); have n7_ := Aside0.mk ((by rw [hg]; exact Nat.ne_of_gt (blk_lt (bkS BK315)) : gb317 ≠ gb315)); have n8_ := Aside0.mk ((by rw [hg]; exact Nat.ne_of_lt (blk_lt (bkS BK316)) : gb316 ≠ gb317)); have n9_ := Aside0.mk ((by rw [hg]; exact Nat.ne_of_gt (blk_lt (bkS BK316)) : gb317 ≠ gb316)); clear BK315; clear BK316; clear HB; have BK315 := n0_; have BK316 := n1_; have HB := n2_; have BK317 := n3_; have GW317 := n4_; have GE317 := n5_; have NB315_317 := n6_; have NB317_315 := n7_; have NB316_317 := n8_; have NB317_316 := n9_; clear n0_ n1_ n2_ n3_ n4_ n5_ n6_ n7_ n8_ n9_; clear hb hbox hg) | ((with_reducible refine gate_dst (N := 5) rfl ?_); refine box_event ?hg (N := 5) ?hd (cs := #[.int .i64 0, .int .i64 0]) (t := 38) ?hr ?_; (case hd => rfl); (case hg => rfl); (case hr => first | (go_simp; done) | (go_simp; rfl)); intro gb318 hg w9 hbox hb; have n0_ := kB BK315 hb; have n1_ := kB BK316 hb; have n2_ := kB BK317 hb; have n3_ := kW HB hb; have n4_ := Aside0.mk (hbox); have n5_ := Aside0.mk ((by rw [hg]; exact (below_size (bS HB)) : w.heap.size ≤ gb318)); have n6_ := Aside0.mk ((by rw [hg]; exact (below_size (bS HB)) : w.heap.size ≤ gb318)); have n7_ := Aside0.mk ((by rw [hg]; exact Nat.ne_of_lt (blk_lt (bkS BK315)) : gb315 ≠ gb318)); have n8_ := Aside0.mk ((by rw [hg]; exact Nat.ne_of_gt (blk_lt (bkS BK315)) : gb318 ≠ gb315)); have n9_ := Aside0.mk ((by rw [hg]; exact Nat.ne_of_lt (blk_lt (bkS BK316)) : gb316 ≠ gb318)); have n10_ := Aside0.mk ((by rw [hg]; exact Nat.ne_of_gt (blk_lt (bkS BK316)) : gb318 ≠ gb316)); have n11_ := Aside0.mk ((by rw [hg]; exact Nat.ne_of_lt (blk_lt (bkS BK317)) : gb317 ≠ gb318)); have n12_ := Aside0.mk ((by rw [hg]; exact Nat.ne_of_gt (blk_lt (bkS BK317)) : gb318 ≠ gb317)); clear BK315; clear BK316; clear BK317; clear HB; have BK315 := n0_; have BK316 := n1_; have BK317 := n2_; have HB := n3_; have BK318 := n4_; have GW318 := n5_; have GE318 := n6_; have NB315_318 := n7_; have NB318_315 := n8_; have NB316_318 := n9_; have NB318_316 := n10_; have NB317_318 := n11_; have NB318_317 := n12_; clear n0_ n1_ n2_ n3_ n4_ n5_ n6_ n7_ n8_ n9_ n10_ n11_ n12_; clear hb hbox hg))
 replace BK315 := Aside0.mk (blk_drew BK315.out)
 replace BK316 := Aside0.mk (blk_drew BK316.out)
 replace BK317 := Aside0.mk (blk_drew BK317.out)
 replace BK318 := Aside0.mk (blk_drew BK318.out)
 replace HB := Aside0.mk (below_drew1 HB.out)
 refine start_ (n := 4) (S := fun w' => w'.cell? ⟨gb316, 0, none⟩ = some (.int .i64 a1_0) ∧ w'.cell? ⟨gb316, 1, none⟩ = some (.int .i64 a1_1)) (ds := [3]) #[false, false, false, false] (by kernel_rfl) rfl rfl ⟨cz0 BK316, cz1 BK316⟩ (fun hHeld => ?_)
 generalize w9.drew = w10 at BK315 BK316 BK317 BK318 HB hHeld ⊢
 refine take_ (i := 0) (N := some 9) (v := ?_) (a' := ?_) #[true, false, false, false] rfl rfl (by kernel_rfl) (fun _ _ _ h => h) (Or.inl ⟨by rfl, ?_⟩) hHeld ?_ ?_
 rotate_left
 ·
  rintro w' ⟨s0, s1⟩
  go_simp
  with_reducible rfl
 rotate_left
 ·
  simp only [Act.put, lA, lB, lC, i64_w, i32_w]
  rfl
 refine one_ (i := 1) (N := some 10) #[true, true, false, false] rfl rfl (by kernel_rfl) (by decide) (fun K hK => ?_)
 refine goes_ Tryd.func71 (by kernel_rfl) rfl #[.int .i64 3] (by rfl) rfl rfl mS ?_
 with_reducible refine (itv_Type.calls 3 t319 t320 _ A3.out).mono ?_
 rintro e w11 ⟨rfl, hb⟩
 refine ⟨_, rfl, ?_⟩
 replace BK315 := kB BK315 hb
 replace BK316 := kB BK316 hb
 replace BK317 := kB BK317 hb
 replace BK318 := kB BK318 hb
 replace HB := kW HB hb
 (try clear hb)
 (try clear hb2)
 (try clear hk)
 (try clear hi)
 refine hK.out _ _ ⟨cz0 BK316, cz1 BK316⟩ (fun hHeld => ?_)
 clear hK K
 refine norm_ (a' := ?_) ?_ ?_
 rotate_left
 ·
  show Act.put _ (some 10) _ = _
  simp only [Act.put, lA, lB, lC, i64_w, i32_w]
  rfl
 refine one_ (i := 2) (N := some 11) #[true, true, true, false] rfl rfl (by kernel_rfl) (by decide) (fun K hK => ?_)
 refine goes_ Tryd.func70 (by kernel_rfl) rfl #[.agg #[.int .i64 a1_0, .int .i64 a1_1], .agg #[.int .i64 t319, .int .i64 t320]] (by rfl) rfl rfl mS ?_
 with_reducible refine (itv_Meet.calls k a1_0 a1_1 t319 t320 t321 t322 _ A4.out).mono ?_
 rintro e w12 ⟨rfl, hb⟩
 refine ⟨_, rfl, ?_⟩
 replace BK315 := kB BK315 hb
 replace BK316 := kB BK316 hb
 replace BK317 := kB BK317 hb
 replace BK318 := kB BK318 hb
 replace HB := kW HB hb
 (try clear hb)
 (try clear hb2)
 (try clear hk)
 (try clear hi)
 refine hK.out _ _ ⟨cz0 BK316, cz1 BK316⟩ (fun hHeld => ?_)
 clear hK K
 refine norm_ (a' := ?_) ?_ ?_
 rotate_left
 ·
  show Act.put _ (some 11) _ = _
  simp only [Act.put, lA, lB, lC, i64_w, i32_w]
  rfl
 refine last_ (i := 3) (N := none) #[true, true, true, true] rfl rfl (by kernel_rfl) (by decide) (fun K hK => ?_)
 have hs13 : w12.cell? ⟨gb316, 0, none⟩ = some (.int .i64 a1_0) := cz0 BK316
 have hfs13 := fz BK316 0
 have hns13_0 := NB315_316.out
 have hns13_2 := NB317_316.out
 have hns13_3 := NB318_316.out
 have hms13_0 := NB316_315.out
 have hms13_2 := NB316_317.out
 have hms13_3 := NB316_318.out
 have hs14 : w12.cell? ⟨gb316, 1, none⟩ = some (.int .i64 a1_1) := cz1 BK316
 have hfs14 := fz BK316 1
 have hns14_0 := NB315_316.out
 have hns14_2 := NB317_316.out
 have hns14_3 := NB318_316.out
 have hms14_0 := NB316_315.out
 have hms14_2 := NB316_317.out
 have hms14_3 := NB316_318.out
 refine skip_ (w1 := ?_) (by rfl) rfl ?_ ?_
 rotate_left
 ·
  go_simp
  rfl
 refine hK.out _ _ ?_
 clear hK K
 refine done_ (by kernel_rfl) ?_
 go_upto_region 2 with (fail)
 go_cut [17] (fun v17 wc => ∃ (kq : Nat) (x17_4 : Bool), v17 = .bool x17_4 ∧ Aside0 (congr_Tighten.j0 kq x17_4 a0_0 a0_1 a0_2 t321 t322 = some (r1, r2, r3, r4, r5)) ∧ Aside0 (kq ≤ k) ∧ Aside0 (wc.heap[gb315]? = some (.cells #[.bool a0_0, .int .i64 a0_1, .int .i64 a0_2] 23 (0, 0))) ∧ Aside0 (wc.heap[gb316]? = some (.cells #[.int .i64 t321, .int .i64 t322] 38 (0, 0))) ∧ Aside0 (wc.heap[gb317]? = some (.cells #[.bool false, .int .i64 0, .int .i64 0] 23 (0, 0))) ∧ Aside0 (wc.heap[gb318]? = some (.cells #[.int .i64 0, .int .i64 0] 38 (0, 0))) ∧ Aside0 (Below w.heap.size w wc))
 case first =>
  have H := HC5.out
  clear HC5
  by_cases c15 : a0_0 = true
  ·
   subst c15
   have H1 : (congr_Tighten.j0 k true true a0_1 a0_2 t321 t322) = some (r1, r2, r3, r4, r5) := by rw [if_pos rfl] at H; exact H
   clear H
   have H := H1
   clear H1
   have H' := Aside0.mk H
   clear H
   have hnb16 := NB315_316.out
   have hnc16 := NB316_315.out
   have hnb17 := NB315_317.out
   have hnc17 := NB317_315.out
   have hnb18 := NB315_318.out
   have hnc18 := NB318_315.out
   have hcz19_0 := cz0 BK315
   have hcz19_1 := cz1 BK315
   have hcz19_2 := cz2 BK315
   have hfz19_0 := fz BK315 0
   have hfz19_1 := fz BK315 1
   have hfz19_2 := fz BK315 2
   go_wp2
   go_meet
   case rel => exact ⟨_, (true), (by first | rfl | (simp; done) | (simp [*]; done)), H', ⟨by first | omega | exact Nat.le_refl _⟩, ⟨bkS BK315⟩, ⟨by (with_reducible repeat (first | refine b1 ?_ _ | refine b2 ?_ | refine b3 ?_ _)); refine blk_put (cs := #[.int .i64 t321, .int .i64 a1_1]) ?_ 1 _ rfl; (with_reducible repeat (first | refine b1 ?_ _ | refine b2 ?_ | refine b3 ?_ _)); refine blk_put (cs := #[.int .i64 a1_0, .int .i64 a1_1]) ?_ 0 _ rfl; (with_reducible repeat (first | refine b1 ?_ _ | refine b2 ?_ | refine b3 ?_ _)); exact BK316.out⟩, ⟨bkS BK317⟩, ⟨bkS BK318⟩, ⟨bS HB⟩⟩
  ·
   replace c15 := Bool.eq_false_iff.mpr c15
   subst c15
   have H1 : ((itv_None.f t321 t322).bind fun t323 => (congr_Tighten.j0 k t323 false a0_1 a0_2 t321 t322)) = some (r1, r2, r3, r4, r5) := by rw [if_neg (show ¬ (false = true) by decide)] at H; exact H
   clear H
   have H := H1
   clear H1
   replace H := Option.bind_eq_some_iff.mp H
   obtain ⟨t323, A200, H⟩ := H
   replace H : (congr_Tighten.j0 k t323 false a0_1 a0_2 t321 t322) = some (r1, r2, r3, r4, r5) := H
   have A20 := Aside0.mk A200
   clear A200
   have H' := Aside0.mk H
   clear H
   have hnb21 := NB315_316.out
   have hnc21 := NB316_315.out
   have hnb22 := NB315_317.out
   have hnc22 := NB317_315.out
   have hnb23 := NB315_318.out
   have hnc23 := NB318_315.out
   have hcz24_0 := cz0 BK315
   have hcz24_1 := cz1 BK315
   have hcz24_2 := cz2 BK315
   have hfz24_0 := fz BK315 0
   have hfz24_1 := fz BK315 1
   have hfz24_2 := fz BK315 2
   have hnb25 := NB316_317.out
   have hnc25 := NB317_316.out
   have hnb26 := NB316_318.out
   have hnc26 := NB318_316.out
   have hcz27_0 := cz0 BK316
   have hcz27_1 := cz1 BK316
   have hfz27_0 := fz BK316 0
   have hfz27_1 := fz BK316 1
   go_wp2_with (first | (go_at_call 72; (with_reducible refine (itv_None.calls t321 t322 t323 _ A20.out).mono ?_); rintro e w28 ⟨rfl, hb⟩; have n0_ := kB BK315 hb; have n1_ := Aside0.mk (blk_below (g := gb316) (o := .cells #[.int .i64 t321, .int .i64 t322] 38 (0, 0)) (by (with_reducible repeat (first | refine b1 ?_ _ | refine b2 ?_ | refine b3 ?_ _)); refine blk_put (cs := #[.int .i64 t321, .int .i64 a1_1]) ?_ 1 _ rfl; (with_reducible repeat (first | refine b1 ?_ _ | refine b2 ?_ | refine b3 ?_ _)); refine blk_put (cs := #[.int .i64 a1_0, .int .i64 a1_1]) ?_ 0 _ rfl; (with_reducible repeat (first | refine b1 ?_ _ | refine b2 ?_ | refine b3 ?_ _)); exact BK316.out) hb); have n2_ := kB BK317 hb; have n3_ := kB BK318 hb; have n4_ := kW HB hb; clear BK315; clear BK316; clear BK317; clear BK318; clear HB; have BK315 := n0_; have BK316 := n1_; have BK317 := n2_; have BK318 := n3_; have HB := n4_; clear n0_ n1_ n2_ n3_ n4_; (try clear hb); (try clear hb2); (try clear hk); (try clear hi)))
   go_meet
   case rel => exact ⟨_, (t323), (by first | rfl | (simp; done) | (simp [*]; done)), H', ⟨by first | omega | exact Nat.le_refl _⟩, ⟨bkS BK315⟩, ⟨bkS BK316⟩, ⟨bkS BK317⟩, ⟨bkS BK318⟩, ⟨bS HB⟩⟩
 case rest =>
  clear HC5
  try clear c1
  try clear c2
  try clear p2
  try clear c7
  try clear c15
  try clear c16
  try clear c17
  try clear c18
  try clear c21
  try clear c22
  try clear c23
  try clear c25
  try clear c26
  try clear hcz19_0
  try clear hcz19_1
  try clear hcz19_2
  try clear hcz24_0
  try clear hcz24_1
  try clear hcz24_2
  try clear hcz27_0
  try clear hcz27_1
  try clear hfz19_0
  try clear hfz19_1
  try clear hfz19_2
  try clear hfz24_0
  try clear hfz24_1
  try clear hfz24_2
  try clear hfz27_0
  try clear hfz27_1
  obtain ⟨kq, x17_4, rfl, HA, HJ4, BK315, BK316, BK317, BK318, HB⟩ := hcut
  cases kq with
  | zero => exact absurd HA.out (by simp [congr_Tighten.j0])
  | succ kj4 =>
   have H := HA.out
   clear HA
   simp only [congr_Tighten.j0] at H
   by_cases c29 : x17_4 = true
   ·
    subst c29
    have H1 : ((congr_none.f).bind fun bt324 => ((itv_Empty.f).bind fun bt327 => (some (bt324.1, bt324.2.1, bt324.2.2, bt327.1, bt327.2)))) = some (r1, r2, r3, r4, r5) := by rw [if_pos rfl] at H; exact H
    clear H
    have H := H1
    clear H1
    replace H := Option.bind_eq_some_iff.mp H
    obtain ⟨⟨t324, t325, t326⟩, A300, H⟩ := H
    replace H : ((itv_Empty.f).bind fun bt327 => (some (t324, t325, t326, bt327.1, bt327.2))) = some (r1, r2, r3, r4, r5) := H
    have A30 := Aside0.mk A300
    clear A300
    replace H := Option.bind_eq_some_iff.mp H
    obtain ⟨⟨t327, t328⟩, A310, H⟩ := H
    replace H : (some (t324, t325, t326, t327, t328)) = some (r1, r2, r3, r4, r5) := H
    have A31 := Aside0.mk A310
    clear A310
    simp only [Option.some.injEq, Prod.mk.injEq] at H
    obtain ⟨rfl, rfl, rfl, rfl, rfl⟩ := H
    go_wp2_with (first | ((with_reducible refine gate_callee (f := 56) rfl ?_); refine goesL_ (some 18) rfl rfl Tryd.func56 (by kernel_rfl) rfl #[] rfl mS ?_; (with_reducible refine (congr_none.calls  t324 t325 t326 _ A30.out).mono ?_); rintro e w32 ⟨rfl, hb⟩; refine ⟨_, rfl, ?_⟩; replace BK315 := kB BK315 hb; replace BK316 := kB BK316 hb; replace BK317 := kB BK317 hb; replace BK318 := kB BK318 hb; replace HB := kW HB hb; (try clear hb); (try clear hb2); (try clear hk); (try clear hi)) | ((with_reducible refine gate_callee (f := 73) rfl ?_); refine goesL_ (some 19) rfl rfl Tryd.func73 (by kernel_rfl) rfl #[] rfl mS ?_; (with_reducible refine (itv_Empty.calls  t327 t328 _ A31.out).mono ?_); rintro e w33 ⟨rfl, hb⟩; refine ⟨_, rfl, ?_⟩; replace BK315 := kB BK315 hb; replace BK316 := kB BK316 hb; replace BK317 := kB BK317 hb; replace BK318 := kB BK318 hb; replace HB := kW HB hb; (try clear hb); (try clear hb2); (try clear hk); (try clear hi); have hnb34 := NB317_315.out; have hnc34 := NB315_317.out; have hnb35 := NB317_316.out; have hnc35 := NB316_317.out; have hnb36 := NB317_318.out; have hnc36 := NB318_317.out; have hcz37_0 := cz0 BK317; have hcz37_1 := cz1 BK317; have hcz37_2 := cz2 BK317; have hfz37_0 := fz BK317 0; have hfz37_1 := fz BK317 1; have hfz37_2 := fz BK317 2; have hnb38 := NB318_315.out; have hnc38 := NB315_318.out; have hnb39 := NB318_316.out; have hnc39 := NB316_318.out; have hcz40_0 := cz0 BK318; have hcz40_1 := cz1 BK318; have hfz40_0 := fz BK318 0; have hfz40_1 := fz BK318 1))
    refine bodyPost_ret (results_cc rfl _ _ gb317 gb318 23 38 #[.bool t324, .int .i64 t325, .int .i64 t326] #[.int .i64 t327, .int .i64 t328] (0, 0) (0, 0) _ _ rfl (by (with_reducible repeat (first | refine b1 ?_ _ | refine b2 ?_ | refine b3 ?_ _)); refine blk_far ?_ NB317_318.out _; (with_reducible repeat (first | refine b1 ?_ _ | refine b2 ?_ | refine b3 ?_ _)); refine blk_far ?_ NB317_318.out _; (with_reducible repeat (first | refine b1 ?_ _ | refine b2 ?_ | refine b3 ?_ _)); refine blk_put (cs := #[.bool t324, .int .i64 t325, .int .i64 0]) ?_ 2 _ rfl; (with_reducible repeat (first | refine b1 ?_ _ | refine b2 ?_ | refine b3 ?_ _)); refine blk_put (cs := #[.bool t324, .int .i64 0, .int .i64 0]) ?_ 1 _ rfl; (with_reducible repeat (first | refine b1 ?_ _ | refine b2 ?_ | refine b3 ?_ _)); refine blk_put (cs := #[.bool false, .int .i64 0, .int .i64 0]) ?_ 0 _ rfl; (with_reducible repeat (first | refine b1 ?_ _ | refine b2 ?_ | refine b3 ?_ _)); exact BK317.out) Tryd.underlying23 rfl (by kernel_rfl) rfl (by (with_reducible repeat (first | refine b1 ?_ _ | refine b2 ?_ | refine b3 ?_ _)); refine blk_put (cs := #[.int .i64 t327, .int .i64 0]) ?_ 1 _ rfl; (with_reducible repeat (first | refine b1 ?_ _ | refine b2 ?_ | refine b3 ?_ _)); refine blk_put (cs := #[.int .i64 0, .int .i64 0]) ?_ 0 _ rfl; (with_reducible repeat (first | refine b1 ?_ _ | refine b2 ?_ | refine b3 ?_ _)); refine blk_far ?_ NB318_317.out _; (with_reducible repeat (first | refine b1 ?_ _ | refine b2 ?_ | refine b3 ?_ _)); refine blk_far ?_ NB318_317.out _; (with_reducible repeat (first | refine b1 ?_ _ | refine b2 ?_ | refine b3 ?_ _)); refine blk_far ?_ NB318_317.out _; (with_reducible repeat (first | refine b1 ?_ _ | refine b2 ?_ | refine b3 ?_ _)); exact BK318.out) Tryd.underlying38 rfl (by kernel_rfl)) rfl ?_
    exact ⟨eS, bS HB⟩
   ·
    replace c29 := Bool.eq_false_iff.mpr c29
    subst c29
    have H1 : (if a0_1 = 0 then ((itv_Has.f t321 t322 a0_2).bind fun t329 => (if t329 = true then ((itv_Of.f a0_2 a0_2).bind fun bt330 => (some (a0_0, a0_1, a0_2, bt330.1, bt330.2))) else ((congr_none.f).bind fun bt332 => ((itv_Empty.f).bind fun bt335 => (some (bt332.1, bt332.2.1, bt332.2.2, bt335.1, bt335.2)))))) else ((congr_rest.f (wrap64 (a0_2 - t321)) (IntKind.u64.wrap (a0_1))).bind fun t337 => ((congr_rest.f (wrap64 (t322 - a0_2)) (IntKind.u64.wrap (a0_1))).bind fun t338 => (if (wrap64 (t321 + (wrap64 (t337)))) > (wrap64 (t322 - (wrap64 (t338)))) then ((congr_none.f).bind fun bt339 => ((itv_Empty.f).bind fun bt342 => (some (bt339.1, bt339.2.1, bt339.2.2, bt342.1, bt342.2)))) else (if (wrap64 (t321 + (wrap64 (t337)))) = (wrap64 (t322 - (wrap64 (t338)))) then ((congr_constant.f (wrap64 (t321 + (wrap64 (t337))))).bind fun bt344 => ((itv_Of.f (wrap64 (t321 + (wrap64 (t337)))) (wrap64 (t321 + (wrap64 (t337))))).bind fun bt347 => (some (bt344.1, bt344.2.1, bt344.2.2, bt347.1, bt347.2)))) else ((itv_Of.f (wrap64 (t321 + (wrap64 (t337)))) (wrap64 (t322 - (wrap64 (t338))))).bind fun bt349 => (some (a0_0, a0_1, a0_2, bt349.1, bt349.2)))))))) = some (r1, r2, r3, r4, r5) := by rw [if_neg (show ¬ (false = true) by decide)] at H; exact H
    clear H
    have H := H1
    clear H1
    by_cases c41 : a0_1 = 0
    ·
     rw [if_pos c41] at H
     have c41b0 : (a0_1 == 0) = true := beq_iff_eq.mpr c41
     have c41b1 : (a0_1 != 0) = false := bne_eq_false_iff_eq.mpr c41
     clear c41
     replace H := Option.bind_eq_some_iff.mp H
     obtain ⟨t329, A420, H⟩ := H
     replace H : (if t329 = true then ((itv_Of.f a0_2 a0_2).bind fun bt330 => (some (a0_0, a0_1, a0_2, bt330.1, bt330.2))) else ((congr_none.f).bind fun bt332 => ((itv_Empty.f).bind fun bt335 => (some (bt332.1, bt332.2.1, bt332.2.2, bt335.1, bt335.2))))) = some (r1, r2, r3, r4, r5) := H
     have A42 := Aside0.mk A420
     clear A420
     by_cases c43 : t329 = true
     ·
      subst c43
      have H1 : ((itv_Of.f a0_2 a0_2).bind fun bt330 => (some (a0_0, a0_1, a0_2, bt330.1, bt330.2))) = some (r1, r2, r3, r4, r5) := by rw [if_pos rfl] at H; exact H
      clear H
      have H := H1
      clear H1
      replace H := Option.bind_eq_some_iff.mp H
      obtain ⟨⟨t330, t331⟩, A440, H⟩ := H
      replace H : (some (a0_0, a0_1, a0_2, t330, t331)) = some (r1, r2, r3, r4, r5) := H
      have A44 := Aside0.mk A440
      clear A440
      simp only [Option.some.injEq, Prod.mk.injEq] at H
      obtain ⟨rfl, rfl, rfl, rfl, rfl⟩ := H
      have hnb45 := NB315_316.out
      have hnc45 := NB316_315.out
      have hnb46 := NB315_317.out
      have hnc46 := NB317_315.out
      have hnb47 := NB315_318.out
      have hnc47 := NB318_315.out
      have hcz48_0 : wc.cell? ⟨gb315, 0, none⟩ = some (.bool a0_0) := cz0 BK315
      have hcz48_1 : wc.cell? ⟨gb315, 1, none⟩ = some (.int .i64 a0_1) := cz1 BK315
      have hcz48_2 : wc.cell? ⟨gb315, 2, none⟩ = some (.int .i64 a0_2) := cz2 BK315
      have hfz48_0 := fz BK315 0
      have hfz48_1 := fz BK315 1
      have hfz48_2 := fz BK315 2
      have hnb49 := NB316_317.out
      have hnc49 := NB317_316.out
      have hnb50 := NB316_318.out
      have hnc50 := NB318_316.out
      have hcz51_0 : wc.cell? ⟨gb316, 0, none⟩ = some (.int .i64 t321) := cz0 BK316
      have hcz51_1 : wc.cell? ⟨gb316, 1, none⟩ = some (.int .i64 t322) := cz1 BK316
      have hfz51_0 := fz BK316 0
      have hfz51_1 := fz BK316 1
      try go_wp2_with (first | ((with_reducible refine gate_callee (f := 74) rfl ?_); refine goesL_ (some 26) rfl rfl Tryd.func74 (by kernel_rfl) rfl #[.agg #[.int .i64 t321, .int .i64 t322], .int .i64 a0_2] rfl mS ?_; (with_reducible refine (itv_Has.calls t321 t322 a0_2 true _ A42.out).mono ?_); rintro e w52 ⟨rfl, hb⟩; refine ⟨_, rfl, ?_⟩; replace BK315 := kB BK315 hb; replace BK316 := kB BK316 hb; replace BK317 := kB BK317 hb; replace BK318 := kB BK318 hb; replace HB := kW HB hb; (try clear hb); (try clear hb2); (try clear hk); (try clear hi)))
      replace BK315 := Aside0.mk (blk_drew BK315.out)
      replace BK316 := Aside0.mk (blk_drew BK316.out)
      replace BK317 := Aside0.mk (blk_drew BK317.out)
      replace BK318 := Aside0.mk (blk_drew BK318.out)
      replace HB := Aside0.mk (below_drew1 HB.out)
      refine start_ (n := 8) (S := fun w' => w'.cell? ⟨gb315, 0, none⟩ = some (.bool a0_0) ∧ w'.cell? ⟨gb315, 1, none⟩ = some (.int .i64 a0_1) ∧ w'.cell? ⟨gb315, 2, none⟩ = some (.int .i64 a0_2)) (ds := []) #[false, false, false, false, false, false, false, false] (by kernel_rfl) rfl rfl ⟨cz0 BK315, cz1 BK315, cz2 BK315⟩ (fun hHeld => ?_); refine with_tabW congr_Tighten.tab7 congr_Tighten.bits7 (fun HT_ HW_ => ?_)
      generalize w52.drew = w53 at BK315 BK316 BK317 BK318 HB hHeld ⊢
      refine pure_ (i := 1) (N := some 31) (v := ?_) (a' := ?_) #[false, true, false, false, false, false, false, false] rfl rfl (any_of HT_.out (by kernel_rfl)) (fun _ _ _ h => h) (Or.inl ⟨by rfl, ?_⟩) ?_ ?_
      rotate_left
      ·
       intro w'
       go_simp
       with_reducible rfl
      rotate_left
      ·
       simp only [Act.put, lA, lB, lC, i64_w, i32_w]
       rfl
      refine pure_ (i := 3) (N := some 33) (v := ?_) (a' := ?_) #[false, true, false, true, false, false, false, false] rfl rfl (any_of HT_.out (by kernel_rfl)) (fun _ _ _ h => h) (Or.inl ⟨by rfl, ?_⟩) ?_ ?_
      rotate_left
      ·
       intro w'
       go_simp
       with_reducible rfl
      rotate_left
      ·
       simp only [Act.put, lA, lB, lC, i64_w, i32_w]
       rfl
      refine take_ (i := 0) (N := some 30) (v := ?_) (a' := ?_) #[true, true, false, true, false, false, false, false] rfl rfl (take_ofW HT_.out HW_.out (by kernel_rfl)) (fun _ _ _ h => h) (Or.inl ⟨by rfl, ?_⟩) hHeld ?_ ?_
      rotate_left
      ·
       rintro w' ⟨s0, s1, s2⟩
       go_simp
       with_reducible rfl
      rotate_left
      ·
       simp only [Act.put, lA, lB, lC, i64_w, i32_w]
       rfl
      refine take_ (i := 2) (N := some 32) (v := ?_) (a' := ?_) #[true, true, true, true, false, false, false, false] rfl rfl (take_ofW HT_.out HW_.out (by kernel_rfl)) (fun _ _ _ h => h) (Or.inl ⟨by rfl, ?_⟩) hHeld ?_ ?_
      rotate_left
      ·
       rintro w' ⟨s0, s1, s2⟩
       go_simp
       with_reducible rfl
      rotate_left
      ·
       simp only [Act.put, lA, lB, lC, i64_w, i32_w]
       rfl
      refine take_ (i := 4) (N := some 34) (v := ?_) (a' := ?_) #[true, true, true, true, true, false, false, false] rfl rfl (take_ofW HT_.out HW_.out (by kernel_rfl)) (fun _ _ _ h => h) (Or.inl ⟨by rfl, ?_⟩) hHeld ?_ ?_
      rotate_left
      ·
       rintro w' ⟨s0, s1, s2⟩
       go_simp
       with_reducible rfl
      rotate_left
      ·
       simp only [Act.put, lA, lB, lC, i64_w, i32_w]
       rfl
      refine one_ (i := 5) (N := some 35) #[true, true, true, true, true, true, false, false] rfl rfl (one_of HT_.out (by kernel_rfl)) (by decide) (fun K hK => ?_)
      refine goes_ Tryd.func75 (by kernel_rfl) rfl #[.int .i64 a0_2, .int .i64 a0_2] (by rfl) rfl rfl mS ?_
      with_reducible refine (itv_Of.calls a0_2 a0_2 t330 t331 _ A44.out).mono ?_
      rintro e w54 ⟨rfl, hb⟩
      refine ⟨_, rfl, ?_⟩
      replace BK315 := kB BK315 hb
      replace BK316 := kB BK316 hb
      replace BK317 := kB BK317 hb
      replace BK318 := kB BK318 hb
      replace HB := kW HB hb
      (try clear hb)
      (try clear hb2)
      (try clear hk)
      (try clear hi)
      refine hK.out _ _ ⟨cz0 BK315, cz1 BK315, cz2 BK315⟩ (fun hHeld => ?_)
      clear hK K
      refine norm_ (a' := ?_) ?_ ?_
      rotate_left
      ·
       show Act.put _ (some 35) _ = _
       simp only [Act.put, lA, lB, lC, i64_w, i32_w]
       rfl
      refine one_ (i := 6) (N := none) #[true, true, true, true, true, true, true, false] rfl rfl (one_of HT_.out (by kernel_rfl)) (by decide) (fun K hK => ?_)
      have hs55 : w54.cell? ⟨gb317, 0, none⟩ = some (.bool false) := cz0 BK317
      have hfs55 := fz BK317 0
      have hns55_0 := NB315_317.out
      have hns55_1 := NB316_317.out
      have hns55_3 := NB318_317.out
      have hms55_0 := NB317_315.out
      have hms55_1 := NB317_316.out
      have hms55_3 := NB317_318.out
      have hs56 : w54.cell? ⟨gb317, 1, none⟩ = some (.int .i64 0) := cz1 BK317
      have hfs56 := fz BK317 1
      have hns56_0 := NB315_317.out
      have hns56_1 := NB316_317.out
      have hns56_3 := NB318_317.out
      have hms56_0 := NB317_315.out
      have hms56_1 := NB317_316.out
      have hms56_3 := NB317_318.out
      have hs57 : w54.cell? ⟨gb317, 2, none⟩ = some (.int .i64 0) := cz2 BK317
      have hfs57 := fz BK317 2
      have hns57_0 := NB315_317.out
      have hns57_1 := NB316_317.out
      have hns57_3 := NB318_317.out
      have hms57_0 := NB317_315.out
      have hms57_1 := NB317_316.out
      have hms57_3 := NB317_318.out
      refine skip_ (w1 := ?_) (by rfl) rfl ?_ ?_
      rotate_left
      ·
       go_simp
       rfl
      refine hK.out _ _ ⟨((cell_far (p := ⟨gb317, _, none⟩) NB315_317.out _).trans (((cell_far (p := ⟨gb317, _, none⟩) NB315_317.out _).trans (((cell_far (p := ⟨gb317, _, none⟩) NB315_317.out _).trans (hHeld.1)))))), ((cell_far (p := ⟨gb317, _, none⟩) NB315_317.out _).trans (((cell_far (p := ⟨gb317, _, none⟩) NB315_317.out _).trans (((cell_far (p := ⟨gb317, _, none⟩) NB315_317.out _).trans (hHeld.2.1)))))), ((cell_far (p := ⟨gb317, _, none⟩) NB315_317.out _).trans (((cell_far (p := ⟨gb317, _, none⟩) NB315_317.out _).trans (((cell_far (p := ⟨gb317, _, none⟩) NB315_317.out _).trans (hHeld.2.2))))))⟩ (fun hHeld => ?_)
      clear hK K
      refine one_ (i := 7) (N := none) #[true, true, true, true, true, true, true, true] rfl rfl (one_of HT_.out (by kernel_rfl)) (by decide) (fun K hK => ?_)
      have hs58 : w54.cell? ⟨gb318, 0, none⟩ = some (.int .i64 0) := cz0 BK318
      have hfs58 := fz BK318 0
      have hns58_0 := NB315_318.out
      have hns58_1 := NB316_318.out
      have hns58_2 := NB317_318.out
      have hms58_0 := NB318_315.out
      have hms58_1 := NB318_316.out
      have hms58_2 := NB318_317.out
      have hs59 : w54.cell? ⟨gb318, 1, none⟩ = some (.int .i64 0) := cz1 BK318
      have hfs59 := fz BK318 1
      have hns59_0 := NB315_318.out
      have hns59_1 := NB316_318.out
      have hns59_2 := NB317_318.out
      have hms59_0 := NB318_315.out
      have hms59_1 := NB318_316.out
      have hms59_2 := NB318_317.out
      refine skip_ (w1 := ?_) (by rfl) rfl ?_ ?_
      rotate_left
      ·
       go_simp
       rfl
      refine hK.out _ _ ⟨((cell_far (p := ⟨gb318, _, none⟩) NB315_318.out _).trans (((cell_far (p := ⟨gb318, _, none⟩) NB315_318.out _).trans (hHeld.1)))), ((cell_far (p := ⟨gb318, _, none⟩) NB315_318.out _).trans (((cell_far (p := ⟨gb318, _, none⟩) NB315_318.out _).trans (hHeld.2.1)))), ((cell_far (p := ⟨gb318, _, none⟩) NB315_318.out _).trans (((cell_far (p := ⟨gb318, _, none⟩) NB315_318.out _).trans (hHeld.2.2))))⟩ (fun hHeld => ?_)
      clear hK K
      refine done_ (done_of HT_.out (by kernel_rfl)) ?_
      try go_wp2
      refine bodyPost_ret (results_cc rfl _ _ gb317 gb318 23 38 #[.bool a0_0, .int .i64 a0_1, .int .i64 a0_2] #[.int .i64 t330, .int .i64 t331] (0, 0) (0, 0) _ _ rfl (by (with_reducible repeat (first | refine b1 ?_ _ | refine b2 ?_ | refine b3 ?_ _)); refine blk_far ?_ NB317_318.out _; (with_reducible repeat (first | refine b1 ?_ _ | refine b2 ?_ | refine b3 ?_ _)); refine blk_far ?_ NB317_318.out _; (with_reducible repeat (first | refine b1 ?_ _ | refine b2 ?_ | refine b3 ?_ _)); refine blk_put (cs := #[.bool a0_0, .int .i64 a0_1, .int .i64 0]) ?_ 2 _ rfl; (with_reducible repeat (first | refine b1 ?_ _ | refine b2 ?_ | refine b3 ?_ _)); refine blk_put (cs := #[.bool a0_0, .int .i64 0, .int .i64 0]) ?_ 1 _ rfl; (with_reducible repeat (first | refine b1 ?_ _ | refine b2 ?_ | refine b3 ?_ _)); refine blk_put (cs := #[.bool false, .int .i64 0, .int .i64 0]) ?_ 0 _ rfl; (with_reducible repeat (first | refine b1 ?_ _ | refine b2 ?_ | refine b3 ?_ _)); exact BK317.out) Tryd.underlying23 rfl (by kernel_rfl) rfl (by (with_reducible repeat (first | refine b1 ?_ _ | refine b2 ?_ | refine b3 ?_ _)); refine blk_put (cs := #[.int .i64 t330, .int .i64 0]) ?_ 1 _ rfl; (with_reducible repeat (first | refine b1 ?_ _ | refine b2 ?_ | refine b3 ?_ _)); refine blk_put (cs := #[.int .i64 0, .int .i64 0]) ?_ 0 _ rfl; (with_reducible repeat (first | refine b1 ?_ _ | refine b2 ?_ | refine b3 ?_ _)); refine blk_far ?_ NB318_317.out _; (with_reducible repeat (first | refine b1 ?_ _ | refine b2 ?_ | refine b3 ?_ _)); refine blk_far ?_ NB318_317.out _; (with_reducible repeat (first | refine b1 ?_ _ | refine b2 ?_ | refine b3 ?_ _)); refine blk_far ?_ NB318_317.out _; (with_reducible repeat (first | refine b1 ?_ _ | refine b2 ?_ | refine b3 ?_ _)); exact BK318.out) Tryd.underlying38 rfl (by kernel_rfl)) rfl ?_
      exact ⟨eS, bS HB⟩
     ·
      replace c43 := Bool.eq_false_iff.mpr c43
      subst c43
      have H1 : ((congr_none.f).bind fun bt332 => ((itv_Empty.f).bind fun bt335 => (some (bt332.1, bt332.2.1, bt332.2.2, bt335.1, bt335.2)))) = some (r1, r2, r3, r4, r5) := by rw [if_neg (show ¬ (false = true) by decide)] at H; exact H
      clear H
      have H := H1
      clear H1
      replace H := Option.bind_eq_some_iff.mp H
      obtain ⟨⟨t332, t333, t334⟩, A600, H⟩ := H
      replace H : ((itv_Empty.f).bind fun bt335 => (some (t332, t333, t334, bt335.1, bt335.2))) = some (r1, r2, r3, r4, r5) := H
      have A60 := Aside0.mk A600
      clear A600
      replace H := Option.bind_eq_some_iff.mp H
      obtain ⟨⟨t335, t336⟩, A610, H⟩ := H
      replace H : (some (t332, t333, t334, t335, t336)) = some (r1, r2, r3, r4, r5) := H
      have A61 := Aside0.mk A610
      clear A610
      simp only [Option.some.injEq, Prod.mk.injEq] at H
      obtain ⟨rfl, rfl, rfl, rfl, rfl⟩ := H
      have hnb62 := NB315_316.out
      have hnc62 := NB316_315.out
      have hnb63 := NB315_317.out
      have hnc63 := NB317_315.out
      have hnb64 := NB315_318.out
      have hnc64 := NB318_315.out
      have hcz65_0 : wc.cell? ⟨gb315, 0, none⟩ = some (.bool a0_0) := cz0 BK315
      have hcz65_1 : wc.cell? ⟨gb315, 1, none⟩ = some (.int .i64 a0_1) := cz1 BK315
      have hcz65_2 : wc.cell? ⟨gb315, 2, none⟩ = some (.int .i64 a0_2) := cz2 BK315
      have hfz65_0 := fz BK315 0
      have hfz65_1 := fz BK315 1
      have hfz65_2 := fz BK315 2
      have hnb66 := NB316_317.out
      have hnc66 := NB317_316.out
      have hnb67 := NB316_318.out
      have hnc67 := NB318_316.out
      have hcz68_0 : wc.cell? ⟨gb316, 0, none⟩ = some (.int .i64 t321) := cz0 BK316
      have hcz68_1 : wc.cell? ⟨gb316, 1, none⟩ = some (.int .i64 t322) := cz1 BK316
      have hfz68_0 := fz BK316 0
      have hfz68_1 := fz BK316 1
      go_wp2_with (first | ((with_reducible refine gate_callee (f := 74) rfl ?_); refine goesL_ (some 26) rfl rfl Tryd.func74 (by kernel_rfl) rfl #[.agg #[.int .i64 t321, .int .i64 t322], .int .i64 a0_2] rfl mS ?_; (with_reducible refine (itv_Has.calls t321 t322 a0_2 false _ A42.out).mono ?_); rintro e w69 ⟨rfl, hb⟩; refine ⟨_, rfl, ?_⟩; replace BK315 := kB BK315 hb; replace BK316 := kB BK316 hb; replace BK317 := kB BK317 hb; replace BK318 := kB BK318 hb; replace HB := kW HB hb; (try clear hb); (try clear hb2); (try clear hk); (try clear hi)) | ((with_reducible refine gate_callee (f := 56) rfl ?_); refine goesL_ (some 28) rfl rfl Tryd.func56 (by kernel_rfl) rfl #[] rfl mS ?_; (with_reducible refine (congr_none.calls  t332 t333 t334 _ A60.out).mono ?_); rintro e w70 ⟨rfl, hb⟩; refine ⟨_, rfl, ?_⟩; replace BK315 := kB BK315 hb; replace BK316 := kB BK316 hb; replace BK317 := kB BK317 hb; replace BK318 := kB BK318 hb; replace HB := kW HB hb; (try clear hb); (try clear hb2); (try clear hk); (try clear hi)) | ((with_reducible refine gate_callee (f := 73) rfl ?_); refine goesL_ (some 29) rfl rfl Tryd.func73 (by kernel_rfl) rfl #[] rfl mS ?_; (with_reducible refine (itv_Empty.calls  t335 t336 _ A61.out).mono ?_); rintro e w71 ⟨rfl, hb⟩; refine ⟨_, rfl, ?_⟩; replace BK315 := kB BK315 hb; replace BK316 := kB BK316 hb; replace BK317 := kB BK317 hb; replace BK318 := kB BK318 hb; replace HB := kW HB hb; (try clear hb); (try clear hb2); (try clear hk); (try clear hi); have hnb72 := NB317_318.out; have hnc72 := NB318_317.out; have hcz73_0 := cz0 BK317; have hcz73_1 := cz1 BK317; have hcz73_2 := cz2 BK317; have hfz73_0 := fz BK317 0; have hfz73_1 := fz BK317 1; have hfz73_2 := fz BK317 2; have hcz74_0 := cz0 BK318; have hcz74_1 := cz1 BK318; have hfz74_0 := fz BK318 0; have hfz74_1 := fz BK318 1))
      refine bodyPost_ret (results_cc rfl _ _ gb317 gb318 23 38 #[.bool t332, .int .i64 t333, .int .i64 t334] #[.int .i64 t335, .int .i64 t336] (0, 0) (0, 0) _ _ rfl (by (with_reducible repeat (first | refine b1 ?_ _ | refine b2 ?_ | refine b3 ?_ _)); refine blk_far ?_ NB317_318.out _; (with_reducible repeat (first | refine b1 ?_ _ | refine b2 ?_ | refine b3 ?_ _)); refine blk_far ?_ NB317_318.out _; (with_reducible repeat (first | refine b1 ?_ _ | refine b2 ?_ | refine b3 ?_ _)); refine blk_put (cs := #[.bool t332, .int .i64 t333, .int .i64 0]) ?_ 2 _ rfl; (with_reducible repeat (first | refine b1 ?_ _ | refine b2 ?_ | refine b3 ?_ _)); refine blk_put (cs := #[.bool t332, .int .i64 0, .int .i64 0]) ?_ 1 _ rfl; (with_reducible repeat (first | refine b1 ?_ _ | refine b2 ?_ | refine b3 ?_ _)); refine blk_put (cs := #[.bool false, .int .i64 0, .int .i64 0]) ?_ 0 _ rfl; (with_reducible repeat (first | refine b1 ?_ _ | refine b2 ?_ | refine b3 ?_ _)); exact BK317.out) Tryd.underlying23 rfl (by kernel_rfl) rfl (by (with_reducible repeat (first | refine b1 ?_ _ | refine b2 ?_ | refine b3 ?_ _)); refine blk_put (cs := #[.int .i64 t335, .int .i64 0]) ?_ 1 _ rfl; (with_reducible repeat (first | refine b1 ?_ _ | refine b2 ?_ | refine b3 ?_ _)); refine blk_put (cs := #[.int .i64 0, .int .i64 0]) ?_ 0 _ rfl; (with_reducible repeat (first | refine b1 ?_ _ | refine b2 ?_ | refine b3 ?_ _)); refine blk_far ?_ NB318_317.out _; (with_reducible repeat (first | refine b1 ?_ _ | refine b2 ?_ | refine b3 ?_ _)); refine blk_far ?_ NB318_317.out _; (with_reducible repeat (first | refine b1 ?_ _ | refine b2 ?_ | refine b3 ?_ _)); refine blk_far ?_ NB318_317.out _; (with_reducible repeat (first | refine b1 ?_ _ | refine b2 ?_ | refine b3 ?_ _)); exact BK318.out) Tryd.underlying38 rfl (by kernel_rfl)) rfl ?_
      exact ⟨eS, bS HB⟩
    ·
     rw [if_neg c41] at H
     have c41b0 : (a0_1 == 0) = false := beq_eq_false_iff_ne.mpr c41
     have c41b1 : (a0_1 != 0) = true := bne_iff_ne.mpr c41
     replace H := Option.bind_eq_some_iff.mp H
     obtain ⟨t337, A750, H⟩ := H
     replace H : ((congr_rest.f (wrap64 (t322 - a0_2)) (IntKind.u64.wrap (a0_1))).bind fun t338 => (if (wrap64 (t321 + (wrap64 (t337)))) > (wrap64 (t322 - (wrap64 (t338)))) then ((congr_none.f).bind fun bt339 => ((itv_Empty.f).bind fun bt342 => (some (bt339.1, bt339.2.1, bt339.2.2, bt342.1, bt342.2)))) else (if (wrap64 (t321 + (wrap64 (t337)))) = (wrap64 (t322 - (wrap64 (t338)))) then ((congr_constant.f (wrap64 (t321 + (wrap64 (t337))))).bind fun bt344 => ((itv_Of.f (wrap64 (t321 + (wrap64 (t337)))) (wrap64 (t321 + (wrap64 (t337))))).bind fun bt347 => (some (bt344.1, bt344.2.1, bt344.2.2, bt347.1, bt347.2)))) else ((itv_Of.f (wrap64 (t321 + (wrap64 (t337)))) (wrap64 (t322 - (wrap64 (t338))))).bind fun bt349 => (some (a0_0, a0_1, a0_2, bt349.1, bt349.2)))))) = some (r1, r2, r3, r4, r5) := H
     have A75 := Aside0.mk A750
     clear A750
     replace H := Option.bind_eq_some_iff.mp H
     obtain ⟨t338, A760, H⟩ := H
     replace H : (if (wrap64 (t321 + (wrap64 (t337)))) > (wrap64 (t322 - (wrap64 (t338)))) then ((congr_none.f).bind fun bt339 => ((itv_Empty.f).bind fun bt342 => (some (bt339.1, bt339.2.1, bt339.2.2, bt342.1, bt342.2)))) else (if (wrap64 (t321 + (wrap64 (t337)))) = (wrap64 (t322 - (wrap64 (t338)))) then ((congr_constant.f (wrap64 (t321 + (wrap64 (t337))))).bind fun bt344 => ((itv_Of.f (wrap64 (t321 + (wrap64 (t337)))) (wrap64 (t321 + (wrap64 (t337))))).bind fun bt347 => (some (bt344.1, bt344.2.1, bt344.2.2, bt347.1, bt347.2)))) else ((itv_Of.f (wrap64 (t321 + (wrap64 (t337)))) (wrap64 (t322 - (wrap64 (t338))))).bind fun bt349 => (some (a0_0, a0_1, a0_2, bt349.1, bt349.2))))) = some (r1, r2, r3, r4, r5) := H
     have A76 := Aside0.mk A760
     clear A760
     by_cases c77 : (wrap64 (t321 + (wrap64 (t337)))) > (wrap64 (t322 - (wrap64 (t338))))
     ·
      rw [if_pos c77] at H
      have c77b0 : decide ((wrap64 (t322 - (wrap64 (t338)))) < (wrap64 (t321 + (wrap64 (t337))))) = true := decide_eq_true c77
      clear c77
      replace H := Option.bind_eq_some_iff.mp H
      obtain ⟨⟨t339, t340, t341⟩, A780, H⟩ := H
      replace H : ((itv_Empty.f).bind fun bt342 => (some (t339, t340, t341, bt342.1, bt342.2))) = some (r1, r2, r3, r4, r5) := H
      have A78 := Aside0.mk A780
      clear A780
      replace H := Option.bind_eq_some_iff.mp H
      obtain ⟨⟨t342, t343⟩, A790, H⟩ := H
      replace H : (some (t339, t340, t341, t342, t343)) = some (r1, r2, r3, r4, r5) := H
      have A79 := Aside0.mk A790
      clear A790
      simp only [Option.some.injEq, Prod.mk.injEq] at H
      obtain ⟨rfl, rfl, rfl, rfl, rfl⟩ := H
      have hnb80 := NB315_316.out
      have hnc80 := NB316_315.out
      have hnb81 := NB315_317.out
      have hnc81 := NB317_315.out
      have hnb82 := NB315_318.out
      have hnc82 := NB318_315.out
      have hcz83_0 : wc.cell? ⟨gb315, 0, none⟩ = some (.bool a0_0) := cz0 BK315
      have hcz83_1 : wc.cell? ⟨gb315, 1, none⟩ = some (.int .i64 a0_1) := cz1 BK315
      have hcz83_2 : wc.cell? ⟨gb315, 2, none⟩ = some (.int .i64 a0_2) := cz2 BK315
      have hfz83_0 := fz BK315 0
      have hfz83_1 := fz BK315 1
      have hfz83_2 := fz BK315 2
      try go_wp2
      replace BK315 := Aside0.mk (blk_drew BK315.out)
      replace BK316 := Aside0.mk (blk_drew BK316.out)
      replace BK317 := Aside0.mk (blk_drew BK317.out)
      replace BK318 := Aside0.mk (blk_drew BK318.out)
      replace HB := Aside0.mk (below_drew1 HB.out)
      refine start_ (n := 12) (S := fun w' => w'.cell? ⟨gb316, 0, none⟩ = some (.int .i64 t321) ∧ w'.cell? ⟨gb316, 1, none⟩ = some (.int .i64 t322) ∧ w'.cell? ⟨gb315, 0, none⟩ = some (.bool a0_0) ∧ w'.cell? ⟨gb315, 1, none⟩ = some (.int .i64 a0_1) ∧ w'.cell? ⟨gb315, 2, none⟩ = some (.int .i64 a0_2)) (ds := []) #[false, false, false, false, false, false, false, false, false, false, false, false] (by kernel_rfl) rfl rfl ⟨cz0 BK316, cz1 BK316, cz0 BK315, cz1 BK315, cz2 BK315⟩ (fun hHeld => ?_); refine with_tabW congr_Tighten.tab9 congr_Tighten.bits9 (fun HT_ HW_ => ?_)
      generalize wc.drew = w84 at BK315 BK316 BK317 BK318 HB hHeld ⊢
      refine pure_ (i := 0) (N := some 39) (v := ?_) (a' := ?_) #[true, false, false, false, false, false, false, false, false, false, false, false] rfl rfl (any_of HT_.out (by kernel_rfl)) (fun _ _ _ h => h) (Or.inl ⟨by rfl, ?_⟩) ?_ ?_
      rotate_left
      ·
       intro w'
       go_simp
       with_reducible rfl
      rotate_left
      ·
       simp only [Act.put, lA, lB, lC, i64_w, i32_w]
       rfl
      refine pure_ (i := 2) (N := some 41) (v := ?_) (a' := ?_) #[true, false, true, false, false, false, false, false, false, false, false, false] rfl rfl (any_of HT_.out (by kernel_rfl)) (fun _ _ _ h => h) (Or.inl ⟨by rfl, ?_⟩) ?_ ?_
      rotate_left
      ·
       intro w'
       go_simp
       with_reducible rfl
      rotate_left
      ·
       simp only [Act.put, lA, lB, lC, i64_w, i32_w]
       rfl
      refine pure_ (i := 4) (N := some 43) (v := ?_) (a' := ?_) #[true, false, true, false, true, false, false, false, false, false, false, false] rfl rfl (any_of HT_.out (by kernel_rfl)) (fun _ _ _ h => h) (Or.inl ⟨by rfl, ?_⟩) ?_ ?_
      rotate_left
      ·
       intro w'
       go_simp
       with_reducible rfl
      rotate_left
      ·
       simp only [Act.put, lA, lB, lC, i64_w, i32_w]
       rfl
      refine pure_ (i := 7) (N := some 46) (v := ?_) (a' := ?_) #[true, false, true, false, true, false, false, true, false, false, false, false] rfl rfl (any_of HT_.out (by kernel_rfl)) (fun _ _ _ h => h) (Or.inl ⟨by rfl, ?_⟩) ?_ ?_
      rotate_left
      ·
       intro w'
       go_simp
       with_reducible rfl
      rotate_left
      ·
       simp only [Act.put, lA, lB, lC, i64_w, i32_w]
       rfl
      refine take_ (i := 1) (N := some 40) (v := ?_) (a' := ?_) #[true, true, true, false, true, false, false, true, false, false, false, false] rfl rfl (take_ofW HT_.out HW_.out (by kernel_rfl)) (fun _ _ _ h => h) (Or.inl ⟨by rfl, ?_⟩) hHeld ?_ ?_
      rotate_left
      ·
       rintro w' ⟨s0, s1, s2, s3, s4⟩
       go_simp
       with_reducible rfl
      rotate_left
      ·
       simp only [Act.put, lA, lB, lC, i64_w, i32_w]
       rfl
      refine take_ (i := 3) (N := some 42) (v := ?_) (a' := ?_) #[true, true, true, true, true, false, false, true, false, false, false, false] rfl rfl (take_ofW HT_.out HW_.out (by kernel_rfl)) (fun _ _ _ h => h) (Or.inl ⟨by rfl, ?_⟩) hHeld ?_ ?_
      rotate_left
      ·
       rintro w' ⟨s0, s1, s2, s3, s4⟩
       go_simp
       with_reducible rfl
      rotate_left
      ·
       simp only [Act.put, lA, lB, lC, i64_w, i32_w]
       rfl
      refine take_ (i := 5) (N := some 44) (v := ?_) (a' := ?_) #[true, true, true, true, true, true, false, true, false, false, false, false] rfl rfl (take_ofW HT_.out HW_.out (by kernel_rfl)) (fun _ _ _ h => h) (Or.inl ⟨by rfl, ?_⟩) hHeld ?_ ?_
      rotate_left
      ·
       rintro w' ⟨s0, s1, s2, s3, s4⟩
       go_simp
       with_reducible rfl
      rotate_left
      ·
       simp only [Act.put, lA, lB, lC, i64_w, i32_w]
       rfl
      refine pure_ (i := 6) (N := some 45) (v := ?_) (a' := ?_) #[true, true, true, true, true, true, true, true, false, false, false, false] rfl rfl (any_of HT_.out (by kernel_rfl)) (fun _ _ _ h => h) (Or.inl ⟨by rfl, ?_⟩) ?_ ?_
      rotate_left
      ·
       intro w'
       go_simp
       with_reducible rfl
      rotate_left
      ·
       simp only [Act.put, lA, lB, lC, i64_w, i32_w]
       rfl
      refine one_ (i := 8) (N := some 47) #[true, true, true, true, true, true, true, true, true, false, false, false] rfl rfl (one_of HT_.out (by kernel_rfl)) (by decide) (fun K hK => ?_)
      refine goes_ Tryd.func53 (by kernel_rfl) rfl #[.int .i64 (wrap64 (a0_2 - t321)), .int .u64 (IntKind.u64.wrap (a0_1))] (by rfl) rfl rfl mS ?_
      with_reducible refine (congr_rest.calls (wrap64 (a0_2 - t321)) (IntKind.u64.wrap (a0_1)) t337 _ A75.out).mono ?_
      rintro e w' ⟨rfl, ⟨nd, rfl⟩⟩
      refine ⟨_, rfl, ?_⟩
      refine hK.out _ _ ⟨cz0 BK316, cz1 BK316, cz0 BK315, cz1 BK315, cz2 BK315⟩ (fun hHeld => ?_)
      clear hK K
      refine norm_ (a' := ?_) ?_ ?_
      rotate_left
      ·
       show Act.put _ (some 47) _ = _
       simp only [Act.put, lA, lB, lC, i64_w, i32_w]
       rfl
      refine pure_ (i := 9) (N := some 48) (v := ?_) (a' := ?_) #[true, true, true, true, true, true, true, true, true, true, false, false] rfl rfl (any_of HT_.out (by kernel_rfl)) (fun _ _ _ h => h) (Or.inl ⟨by rfl, ?_⟩) ?_ ?_
      rotate_left
      ·
       intro w'
       go_simp
       with_reducible rfl
      rotate_left
      ·
       simp only [Act.put, lA, lB, lC, i64_w, i32_w]
       rfl
      refine pure_ (i := 10) (N := some 49) (v := ?_) (a' := ?_) #[true, true, true, true, true, true, true, true, true, true, true, false] rfl rfl (any_of HT_.out (by kernel_rfl)) (fun _ _ _ h => h) (Or.inl ⟨by rfl, ?_⟩) ?_ ?_
      rotate_left
      ·
       intro w'
       go_simp
       with_reducible rfl
      rotate_left
      ·
       simp only [Act.put, lA, lB, lC, i64_w, i32_w]
       rfl
      refine pure_ (i := 11) (N := some 7) (v := ?_) (a' := ?_) #[true, true, true, true, true, true, true, true, true, true, true, true] rfl rfl (any_of HT_.out (by kernel_rfl)) (fun _ _ _ h => h) (Or.inl ⟨by rfl, ?_⟩) ?_ ?_
      rotate_left
      ·
       intro w'
       go_simp
       with_reducible rfl
      rotate_left
      ·
       simp only [Act.put, lA, lB, lC, i64_w, i32_w]
       rfl
      refine done_ (done_of HT_.out (by kernel_rfl)) ?_
      try go_wp2
      (try (rw [drewN_self w84]; generalize hq_ : World.drewN w84 _ = w84; have n0_ : Aside0 (w84.heap[gb315]? = some (.cells #[.bool a0_0, .int .i64 a0_1, .int .i64 a0_2] 23 (0, 0))) := ⟨by rw [← hq_]; exact (bkS BK315)⟩; have n1_ : Aside0 (w84.heap[gb316]? = some (.cells #[.int .i64 t321, .int .i64 t322] 38 (0, 0))) := ⟨by rw [← hq_]; exact (bkS BK316)⟩; have n2_ : Aside0 (w84.heap[gb317]? = some (.cells #[.bool false, .int .i64 0, .int .i64 0] 23 (0, 0))) := ⟨by rw [← hq_]; exact (bkS BK317)⟩; have n3_ : Aside0 (w84.heap[gb318]? = some (.cells #[.int .i64 0, .int .i64 0] 38 (0, 0))) := ⟨by rw [← hq_]; exact (bkS BK318)⟩; have n4_ : Aside0 (Below w.heap.size w w84) := ⟨by rw [← hq_]; exact (bS HB)⟩; clear BK315 BK316 BK317 BK318 HB hq_; have BK315 := n0_; have BK316 := n1_; have BK317 := n2_; have BK318 := n3_; have HB := n4_; clear n0_ n1_ n2_ n3_ n4_))
      replace BK315 := Aside0.mk (blk_drew BK315.out)
      replace BK316 := Aside0.mk (blk_drew BK316.out)
      replace BK317 := Aside0.mk (blk_drew BK317.out)
      replace BK318 := Aside0.mk (blk_drew BK318.out)
      replace HB := Aside0.mk (below_drew1 HB.out)
      refine start_ (n := 12) (S := fun w' => w'.cell? ⟨gb316, 0, none⟩ = some (.int .i64 t321) ∧ w'.cell? ⟨gb316, 1, none⟩ = some (.int .i64 t322) ∧ w'.cell? ⟨gb315, 0, none⟩ = some (.bool a0_0) ∧ w'.cell? ⟨gb315, 1, none⟩ = some (.int .i64 a0_1) ∧ w'.cell? ⟨gb315, 2, none⟩ = some (.int .i64 a0_2)) (ds := []) #[false, false, false, false, false, false, false, false, false, false, false, false] (by kernel_rfl) rfl rfl ⟨cz0 BK316, cz1 BK316, cz0 BK315, cz1 BK315, cz2 BK315⟩ (fun hHeld => ?_); refine with_tabW congr_Tighten.tab10 congr_Tighten.bits10 (fun HT_ HW_ => ?_)
      generalize w84.drew = w85 at BK315 BK316 BK317 BK318 HB hHeld ⊢
      refine pure_ (i := 0) (N := some 50) (v := ?_) (a' := ?_) #[true, false, false, false, false, false, false, false, false, false, false, false] rfl rfl (any_of HT_.out (by kernel_rfl)) (fun _ _ _ h => h) (Or.inl ⟨by rfl, ?_⟩) ?_ ?_
      rotate_left
      ·
       intro w'
       go_simp
       with_reducible rfl
      rotate_left
      ·
       simp only [Act.put, lA, lB, lC, i64_w, i32_w]
       rfl
      refine pure_ (i := 2) (N := some 52) (v := ?_) (a' := ?_) #[true, false, true, false, false, false, false, false, false, false, false, false] rfl rfl (any_of HT_.out (by kernel_rfl)) (fun _ _ _ h => h) (Or.inl ⟨by rfl, ?_⟩) ?_ ?_
      rotate_left
      ·
       intro w'
       go_simp
       with_reducible rfl
      rotate_left
      ·
       simp only [Act.put, lA, lB, lC, i64_w, i32_w]
       rfl
      refine pure_ (i := 4) (N := some 54) (v := ?_) (a' := ?_) #[true, false, true, false, true, false, false, false, false, false, false, false] rfl rfl (any_of HT_.out (by kernel_rfl)) (fun _ _ _ h => h) (Or.inl ⟨by rfl, ?_⟩) ?_ ?_
      rotate_left
      ·
       intro w'
       go_simp
       with_reducible rfl
      rotate_left
      ·
       simp only [Act.put, lA, lB, lC, i64_w, i32_w]
       rfl
      refine pure_ (i := 7) (N := some 57) (v := ?_) (a' := ?_) #[true, false, true, false, true, false, false, true, false, false, false, false] rfl rfl (any_of HT_.out (by kernel_rfl)) (fun _ _ _ h => h) (Or.inl ⟨by rfl, ?_⟩) ?_ ?_
      rotate_left
      ·
       intro w'
       go_simp
       with_reducible rfl
      rotate_left
      ·
       simp only [Act.put, lA, lB, lC, i64_w, i32_w]
       rfl
      refine take_ (i := 1) (N := some 51) (v := ?_) (a' := ?_) #[true, true, true, false, true, false, false, true, false, false, false, false] rfl rfl (take_ofW HT_.out HW_.out (by kernel_rfl)) (fun _ _ _ h => h) (Or.inl ⟨by rfl, ?_⟩) hHeld ?_ ?_
      rotate_left
      ·
       rintro w' ⟨s0, s1, s2, s3, s4⟩
       go_simp
       with_reducible rfl
      rotate_left
      ·
       simp only [Act.put, lA, lB, lC, i64_w, i32_w]
       rfl
      refine take_ (i := 3) (N := some 53) (v := ?_) (a' := ?_) #[true, true, true, true, true, false, false, true, false, false, false, false] rfl rfl (take_ofW HT_.out HW_.out (by kernel_rfl)) (fun _ _ _ h => h) (Or.inl ⟨by rfl, ?_⟩) hHeld ?_ ?_
      rotate_left
      ·
       rintro w' ⟨s0, s1, s2, s3, s4⟩
       go_simp
       with_reducible rfl
      rotate_left
      ·
       simp only [Act.put, lA, lB, lC, i64_w, i32_w]
       rfl
      refine take_ (i := 5) (N := some 55) (v := ?_) (a' := ?_) #[true, true, true, true, true, true, false, true, false, false, false, false] rfl rfl (take_ofW HT_.out HW_.out (by kernel_rfl)) (fun _ _ _ h => h) (Or.inl ⟨by rfl, ?_⟩) hHeld ?_ ?_
      rotate_left
      ·
       rintro w' ⟨s0, s1, s2, s3, s4⟩
       go_simp
       with_reducible rfl
      rotate_left
      ·
       simp only [Act.put, lA, lB, lC, i64_w, i32_w]
       rfl
      refine pure_ (i := 6) (N := some 56) (v := ?_) (a' := ?_) #[true, true, true, true, true, true, true, true, false, false, false, false] rfl rfl (any_of HT_.out (by kernel_rfl)) (fun _ _ _ h => h) (Or.inl ⟨by rfl, ?_⟩) ?_ ?_
      rotate_left
      ·
       intro w'
       go_simp
       with_reducible rfl
      rotate_left
      ·
       simp only [Act.put, lA, lB, lC, i64_w, i32_w]
       rfl
      refine one_ (i := 8) (N := some 58) #[true, true, true, true, true, true, true, true, true, false, false, false] rfl rfl (one_of HT_.out (by kernel_rfl)) (by decide) (fun K hK => ?_)
      refine goes_ Tryd.func53 (by kernel_rfl) rfl #[.int .i64 (wrap64 (t322 - a0_2)), .int .u64 (IntKind.u64.wrap (a0_1))] (by rfl) rfl rfl mS ?_
      with_reducible refine (congr_rest.calls (wrap64 (t322 - a0_2)) (IntKind.u64.wrap (a0_1)) t338 _ A76.out).mono ?_
      rintro e w' ⟨rfl, ⟨nd, rfl⟩⟩
      refine ⟨_, rfl, ?_⟩
      refine hK.out _ _ ⟨cz0 BK316, cz1 BK316, cz0 BK315, cz1 BK315, cz2 BK315⟩ (fun hHeld => ?_)
      clear hK K
      refine norm_ (a' := ?_) ?_ ?_
      rotate_left
      ·
       show Act.put _ (some 58) _ = _
       simp only [Act.put, lA, lB, lC, i64_w, i32_w]
       rfl
      refine pure_ (i := 9) (N := some 59) (v := ?_) (a' := ?_) #[true, true, true, true, true, true, true, true, true, true, false, false] rfl rfl (any_of HT_.out (by kernel_rfl)) (fun _ _ _ h => h) (Or.inl ⟨by rfl, ?_⟩) ?_ ?_
      rotate_left
      ·
       intro w'
       go_simp
       with_reducible rfl
      rotate_left
      ·
       simp only [Act.put, lA, lB, lC, i64_w, i32_w]
       rfl
      refine pure_ (i := 10) (N := some 60) (v := ?_) (a' := ?_) #[true, true, true, true, true, true, true, true, true, true, true, false] rfl rfl (any_of HT_.out (by kernel_rfl)) (fun _ _ _ h => h) (Or.inl ⟨by rfl, ?_⟩) ?_ ?_
      rotate_left
      ·
       intro w'
       go_simp
       with_reducible rfl
      rotate_left
      ·
       simp only [Act.put, lA, lB, lC, i64_w, i32_w]
       rfl
      refine pure_ (i := 11) (N := some 8) (v := ?_) (a' := ?_) #[true, true, true, true, true, true, true, true, true, true, true, true] rfl rfl (any_of HT_.out (by kernel_rfl)) (fun _ _ _ h => h) (Or.inl ⟨by rfl, ?_⟩) ?_ ?_
      rotate_left
      ·
       intro w'
       go_simp
       with_reducible rfl
      rotate_left
      ·
       simp only [Act.put, lA, lB, lC, i64_w, i32_w]
       rfl
      refine done_ (done_of HT_.out (by kernel_rfl)) ?_
      try go_wp2_with (first | ((with_reducible refine gate_callee (f := 56) rfl ?_); refine goesL_ (some 65) rfl rfl Tryd.func56 (by kernel_rfl) rfl #[] rfl mS ?_; (with_reducible refine (congr_none.calls  t339 t340 t341 _ A78.out).mono ?_); rintro e w86 ⟨rfl, hb⟩; refine ⟨_, rfl, ?_⟩; replace BK315 := kB BK315 hb; replace BK316 := kB BK316 hb; replace BK317 := kB BK317 hb; replace BK318 := kB BK318 hb; replace HB := kW HB hb; (try clear hb); (try clear hb2); (try clear hk); (try clear hi)) | ((with_reducible refine gate_callee (f := 73) rfl ?_); refine goesL_ (some 66) rfl rfl Tryd.func73 (by kernel_rfl) rfl #[] rfl mS ?_; (with_reducible refine (itv_Empty.calls  t342 t343 _ A79.out).mono ?_); rintro e w87 ⟨rfl, hb⟩; refine ⟨_, rfl, ?_⟩; replace BK315 := kB BK315 hb; replace BK316 := kB BK316 hb; replace BK317 := kB BK317 hb; replace BK318 := kB BK318 hb; replace HB := kW HB hb; (try clear hb); (try clear hb2); (try clear hk); (try clear hi); have hnb88 := NB317_316.out; have hnc88 := NB316_317.out; have hnb89 := NB317_318.out; have hnc89 := NB318_317.out; have hcz90_0 := cz0 BK317; have hcz90_1 := cz1 BK317; have hcz90_2 := cz2 BK317; have hfz90_0 := fz BK317 0; have hfz90_1 := fz BK317 1; have hfz90_2 := fz BK317 2; have hnb91 := NB318_316.out; have hnc91 := NB316_318.out; have hcz92_0 := cz0 BK318; have hcz92_1 := cz1 BK318; have hfz92_0 := fz BK318 0; have hfz92_1 := fz BK318 1))
      refine bodyPost_ret (results_cc rfl _ _ gb317 gb318 23 38 #[.bool t339, .int .i64 t340, .int .i64 t341] #[.int .i64 t342, .int .i64 t343] (0, 0) (0, 0) _ _ rfl (by (with_reducible repeat (first | refine b1 ?_ _ | refine b2 ?_ | refine b3 ?_ _)); refine blk_far ?_ NB317_318.out _; (with_reducible repeat (first | refine b1 ?_ _ | refine b2 ?_ | refine b3 ?_ _)); refine blk_far ?_ NB317_318.out _; (with_reducible repeat (first | refine b1 ?_ _ | refine b2 ?_ | refine b3 ?_ _)); refine blk_put (cs := #[.bool t339, .int .i64 t340, .int .i64 0]) ?_ 2 _ rfl; (with_reducible repeat (first | refine b1 ?_ _ | refine b2 ?_ | refine b3 ?_ _)); refine blk_put (cs := #[.bool t339, .int .i64 0, .int .i64 0]) ?_ 1 _ rfl; (with_reducible repeat (first | refine b1 ?_ _ | refine b2 ?_ | refine b3 ?_ _)); refine blk_put (cs := #[.bool false, .int .i64 0, .int .i64 0]) ?_ 0 _ rfl; (with_reducible repeat (first | refine b1 ?_ _ | refine b2 ?_ | refine b3 ?_ _)); exact BK317.out) Tryd.underlying23 rfl (by kernel_rfl) rfl (by (with_reducible repeat (first | refine b1 ?_ _ | refine b2 ?_ | refine b3 ?_ _)); refine blk_put (cs := #[.int .i64 t342, .int .i64 0]) ?_ 1 _ rfl; (with_reducible repeat (first | refine b1 ?_ _ | refine b2 ?_ | refine b3 ?_ _)); refine blk_put (cs := #[.int .i64 0, .int .i64 0]) ?_ 0 _ rfl; (with_reducible repeat (first | refine b1 ?_ _ | refine b2 ?_ | refine b3 ?_ _)); refine blk_far ?_ NB318_317.out _; (with_reducible repeat (first | refine b1 ?_ _ | refine b2 ?_ | refine b3 ?_ _)); refine blk_far ?_ NB318_317.out _; (with_reducible repeat (first | refine b1 ?_ _ | refine b2 ?_ | refine b3 ?_ _)); refine blk_far ?_ NB318_317.out _; (with_reducible repeat (first | refine b1 ?_ _ | refine b2 ?_ | refine b3 ?_ _)); exact BK318.out) Tryd.underlying38 rfl (by kernel_rfl)) rfl ?_
      exact ⟨eS, bS HB⟩
     ·
      rw [if_neg c77] at H
      have c77b0 : decide ((wrap64 (t322 - (wrap64 (t338)))) < (wrap64 (t321 + (wrap64 (t337))))) = false := decide_eq_false c77
      clear c77
      by_cases c93 : (wrap64 (t321 + (wrap64 (t337)))) = (wrap64 (t322 - (wrap64 (t338))))
      ·
       rw [if_pos c93] at H
       have c93b0 : ((wrap64 (t321 + (wrap64 (t337)))) == (wrap64 (t322 - (wrap64 (t338))))) = true := beq_iff_eq.mpr c93
       have c93b1 : ((wrap64 (t321 + (wrap64 (t337)))) != (wrap64 (t322 - (wrap64 (t338))))) = false := bne_eq_false_iff_eq.mpr c93
       clear c93
       replace H := Option.bind_eq_some_iff.mp H
       obtain ⟨⟨t344, t345, t346⟩, A940, H⟩ := H
       replace H : ((itv_Of.f (wrap64 (t321 + (wrap64 (t337)))) (wrap64 (t321 + (wrap64 (t337))))).bind fun bt347 => (some (t344, t345, t346, bt347.1, bt347.2))) = some (r1, r2, r3, r4, r5) := H
       have A94 := Aside0.mk A940
       clear A940
       replace H := Option.bind_eq_some_iff.mp H
       obtain ⟨⟨t347, t348⟩, A950, H⟩ := H
       replace H : (some (t344, t345, t346, t347, t348)) = some (r1, r2, r3, r4, r5) := H
       have A95 := Aside0.mk A950
       clear A950
       simp only [Option.some.injEq, Prod.mk.injEq] at H
       obtain ⟨rfl, rfl, rfl, rfl, rfl⟩ := H
       have hnb96 := NB315_316.out
       have hnc96 := NB316_315.out
       have hnb97 := NB315_317.out
       have hnc97 := NB317_315.out
       have hnb98 := NB315_318.out
       have hnc98 := NB318_315.out
       have hcz99_0 : wc.cell? ⟨gb315, 0, none⟩ = some (.bool a0_0) := cz0 BK315
       have hcz99_1 : wc.cell? ⟨gb315, 1, none⟩ = some (.int .i64 a0_1) := cz1 BK315
       have hcz99_2 : wc.cell? ⟨gb315, 2, none⟩ = some (.int .i64 a0_2) := cz2 BK315
       have hfz99_0 := fz BK315 0
       have hfz99_1 := fz BK315 1
       have hfz99_2 := fz BK315 2
       try go_wp2
       replace BK315 := Aside0.mk (blk_drew BK315.out)
       replace BK316 := Aside0.mk (blk_drew BK316.out)
       replace BK317 := Aside0.mk (blk_drew BK317.out)
       replace BK318 := Aside0.mk (blk_drew BK318.out)
       replace HB := Aside0.mk (below_drew1 HB.out)
       refine start_ (n := 12) (S := fun w' => w'.cell? ⟨gb316, 0, none⟩ = some (.int .i64 t321) ∧ w'.cell? ⟨gb316, 1, none⟩ = some (.int .i64 t322) ∧ w'.cell? ⟨gb315, 0, none⟩ = some (.bool a0_0) ∧ w'.cell? ⟨gb315, 1, none⟩ = some (.int .i64 a0_1) ∧ w'.cell? ⟨gb315, 2, none⟩ = some (.int .i64 a0_2)) (ds := []) #[false, false, false, false, false, false, false, false, false, false, false, false] (by kernel_rfl) rfl rfl ⟨cz0 BK316, cz1 BK316, cz0 BK315, cz1 BK315, cz2 BK315⟩ (fun hHeld => ?_); refine with_tabW congr_Tighten.tab9 congr_Tighten.bits9 (fun HT_ HW_ => ?_)
       generalize wc.drew = w100 at BK315 BK316 BK317 BK318 HB hHeld ⊢
       refine pure_ (i := 0) (N := some 39) (v := ?_) (a' := ?_) #[true, false, false, false, false, false, false, false, false, false, false, false] rfl rfl (any_of HT_.out (by kernel_rfl)) (fun _ _ _ h => h) (Or.inl ⟨by rfl, ?_⟩) ?_ ?_
       rotate_left
       ·
        intro w'
        go_simp
        with_reducible rfl
       rotate_left
       ·
        simp only [Act.put, lA, lB, lC, i64_w, i32_w]
        rfl
       refine pure_ (i := 2) (N := some 41) (v := ?_) (a' := ?_) #[true, false, true, false, false, false, false, false, false, false, false, false] rfl rfl (any_of HT_.out (by kernel_rfl)) (fun _ _ _ h => h) (Or.inl ⟨by rfl, ?_⟩) ?_ ?_
       rotate_left
       ·
        intro w'
        go_simp
        with_reducible rfl
       rotate_left
       ·
        simp only [Act.put, lA, lB, lC, i64_w, i32_w]
        rfl
       refine pure_ (i := 4) (N := some 43) (v := ?_) (a' := ?_) #[true, false, true, false, true, false, false, false, false, false, false, false] rfl rfl (any_of HT_.out (by kernel_rfl)) (fun _ _ _ h => h) (Or.inl ⟨by rfl, ?_⟩) ?_ ?_
       rotate_left
       ·
        intro w'
        go_simp
        with_reducible rfl
       rotate_left
       ·
        simp only [Act.put, lA, lB, lC, i64_w, i32_w]
        rfl
       refine pure_ (i := 7) (N := some 46) (v := ?_) (a' := ?_) #[true, false, true, false, true, false, false, true, false, false, false, false] rfl rfl (any_of HT_.out (by kernel_rfl)) (fun _ _ _ h => h) (Or.inl ⟨by rfl, ?_⟩) ?_ ?_
       rotate_left
       ·
        intro w'
        go_simp
        with_reducible rfl
       rotate_left
       ·
        simp only [Act.put, lA, lB, lC, i64_w, i32_w]
        rfl
       refine take_ (i := 1) (N := some 40) (v := ?_) (a' := ?_) #[true, true, true, false, true, false, false, true, false, false, false, false] rfl rfl (take_ofW HT_.out HW_.out (by kernel_rfl)) (fun _ _ _ h => h) (Or.inl ⟨by rfl, ?_⟩) hHeld ?_ ?_
       rotate_left
       ·
        rintro w' ⟨s0, s1, s2, s3, s4⟩
        go_simp
        with_reducible rfl
       rotate_left
       ·
        simp only [Act.put, lA, lB, lC, i64_w, i32_w]
        rfl
       refine take_ (i := 3) (N := some 42) (v := ?_) (a' := ?_) #[true, true, true, true, true, false, false, true, false, false, false, false] rfl rfl (take_ofW HT_.out HW_.out (by kernel_rfl)) (fun _ _ _ h => h) (Or.inl ⟨by rfl, ?_⟩) hHeld ?_ ?_
       rotate_left
       ·
        rintro w' ⟨s0, s1, s2, s3, s4⟩
        go_simp
        with_reducible rfl
       rotate_left
       ·
        simp only [Act.put, lA, lB, lC, i64_w, i32_w]
        rfl
       refine take_ (i := 5) (N := some 44) (v := ?_) (a' := ?_) #[true, true, true, true, true, true, false, true, false, false, false, false] rfl rfl (take_ofW HT_.out HW_.out (by kernel_rfl)) (fun _ _ _ h => h) (Or.inl ⟨by rfl, ?_⟩) hHeld ?_ ?_
       rotate_left
       ·
        rintro w' ⟨s0, s1, s2, s3, s4⟩
        go_simp
        with_reducible rfl
       rotate_left
       ·
        simp only [Act.put, lA, lB, lC, i64_w, i32_w]
        rfl
       refine pure_ (i := 6) (N := some 45) (v := ?_) (a' := ?_) #[true, true, true, true, true, true, true, true, false, false, false, false] rfl rfl (any_of HT_.out (by kernel_rfl)) (fun _ _ _ h => h) (Or.inl ⟨by rfl, ?_⟩) ?_ ?_
       rotate_left
       ·
        intro w'
        go_simp
        with_reducible rfl
       rotate_left
       ·
        simp only [Act.put, lA, lB, lC, i64_w, i32_w]
        rfl
       refine one_ (i := 8) (N := some 47) #[true, true, true, true, true, true, true, true, true, false, false, false] rfl rfl (one_of HT_.out (by kernel_rfl)) (by decide) (fun K hK => ?_)
       refine goes_ Tryd.func53 (by kernel_rfl) rfl #[.int .i64 (wrap64 (a0_2 - t321)), .int .u64 (IntKind.u64.wrap (a0_1))] (by rfl) rfl rfl mS ?_
       with_reducible refine (congr_rest.calls (wrap64 (a0_2 - t321)) (IntKind.u64.wrap (a0_1)) t337 _ A75.out).mono ?_
       rintro e w' ⟨rfl, ⟨nd, rfl⟩⟩
       refine ⟨_, rfl, ?_⟩
       refine hK.out _ _ ⟨cz0 BK316, cz1 BK316, cz0 BK315, cz1 BK315, cz2 BK315⟩ (fun hHeld => ?_)
       clear hK K
       refine norm_ (a' := ?_) ?_ ?_
       rotate_left
       ·
        show Act.put _ (some 47) _ = _
        simp only [Act.put, lA, lB, lC, i64_w, i32_w]
        rfl
       refine pure_ (i := 9) (N := some 48) (v := ?_) (a' := ?_) #[true, true, true, true, true, true, true, true, true, true, false, false] rfl rfl (any_of HT_.out (by kernel_rfl)) (fun _ _ _ h => h) (Or.inl ⟨by rfl, ?_⟩) ?_ ?_
       rotate_left
       ·
        intro w'
        go_simp
        with_reducible rfl
       rotate_left
       ·
        simp only [Act.put, lA, lB, lC, i64_w, i32_w]
        rfl
       refine pure_ (i := 10) (N := some 49) (v := ?_) (a' := ?_) #[true, true, true, true, true, true, true, true, true, true, true, false] rfl rfl (any_of HT_.out (by kernel_rfl)) (fun _ _ _ h => h) (Or.inl ⟨by rfl, ?_⟩) ?_ ?_
       rotate_left
       ·
        intro w'
        go_simp
        with_reducible rfl
       rotate_left
       ·
        simp only [Act.put, lA, lB, lC, i64_w, i32_w]
        rfl
       refine pure_ (i := 11) (N := some 7) (v := ?_) (a' := ?_) #[true, true, true, true, true, true, true, true, true, true, true, true] rfl rfl (any_of HT_.out (by kernel_rfl)) (fun _ _ _ h => h) (Or.inl ⟨by rfl, ?_⟩) ?_ ?_
       rotate_left
       ·
        intro w'
        go_simp
        with_reducible rfl
       rotate_left
       ·
        simp only [Act.put, lA, lB, lC, i64_w, i32_w]
        rfl
       refine done_ (done_of HT_.out (by kernel_rfl)) ?_
       try go_wp2
       (try (rw [drewN_self w100]; generalize hq_ : World.drewN w100 _ = w100; have n0_ : Aside0 (w100.heap[gb315]? = some (.cells #[.bool a0_0, .int .i64 a0_1, .int .i64 a0_2] 23 (0, 0))) := ⟨by rw [← hq_]; exact (bkS BK315)⟩; have n1_ : Aside0 (w100.heap[gb316]? = some (.cells #[.int .i64 t321, .int .i64 t322] 38 (0, 0))) := ⟨by rw [← hq_]; exact (bkS BK316)⟩; have n2_ : Aside0 (w100.heap[gb317]? = some (.cells #[.bool false, .int .i64 0, .int .i64 0] 23 (0, 0))) := ⟨by rw [← hq_]; exact (bkS BK317)⟩; have n3_ : Aside0 (w100.heap[gb318]? = some (.cells #[.int .i64 0, .int .i64 0] 38 (0, 0))) := ⟨by rw [← hq_]; exact (bkS BK318)⟩; have n4_ : Aside0 (Below w.heap.size w w100) := ⟨by rw [← hq_]; exact (bS HB)⟩; clear BK315 BK316 BK317 BK318 HB hq_; have BK315 := n0_; have BK316 := n1_; have BK317 := n2_; have BK318 := n3_; have HB := n4_; clear n0_ n1_ n2_ n3_ n4_))
       replace BK315 := Aside0.mk (blk_drew BK315.out)
       replace BK316 := Aside0.mk (blk_drew BK316.out)
       replace BK317 := Aside0.mk (blk_drew BK317.out)
       replace BK318 := Aside0.mk (blk_drew BK318.out)
       replace HB := Aside0.mk (below_drew1 HB.out)
       refine start_ (n := 12) (S := fun w' => w'.cell? ⟨gb316, 0, none⟩ = some (.int .i64 t321) ∧ w'.cell? ⟨gb316, 1, none⟩ = some (.int .i64 t322) ∧ w'.cell? ⟨gb315, 0, none⟩ = some (.bool a0_0) ∧ w'.cell? ⟨gb315, 1, none⟩ = some (.int .i64 a0_1) ∧ w'.cell? ⟨gb315, 2, none⟩ = some (.int .i64 a0_2)) (ds := []) #[false, false, false, false, false, false, false, false, false, false, false, false] (by kernel_rfl) rfl rfl ⟨cz0 BK316, cz1 BK316, cz0 BK315, cz1 BK315, cz2 BK315⟩ (fun hHeld => ?_); refine with_tabW congr_Tighten.tab10 congr_Tighten.bits10 (fun HT_ HW_ => ?_)
       generalize w100.drew = w101 at BK315 BK316 BK317 BK318 HB hHeld ⊢
       refine pure_ (i := 0) (N := some 50) (v := ?_) (a' := ?_) #[true, false, false, false, false, false, false, false, false, false, false, false] rfl rfl (any_of HT_.out (by kernel_rfl)) (fun _ _ _ h => h) (Or.inl ⟨by rfl, ?_⟩) ?_ ?_
       rotate_left
       ·
        intro w'
        go_simp
        with_reducible rfl
       rotate_left
       ·
        simp only [Act.put, lA, lB, lC, i64_w, i32_w]
        rfl
       refine pure_ (i := 2) (N := some 52) (v := ?_) (a' := ?_) #[true, false, true, false, false, false, false, false, false, false, false, false] rfl rfl (any_of HT_.out (by kernel_rfl)) (fun _ _ _ h => h) (Or.inl ⟨by rfl, ?_⟩) ?_ ?_
       rotate_left
       ·
        intro w'
        go_simp
        with_reducible rfl
       rotate_left
       ·
        simp only [Act.put, lA, lB, lC, i64_w, i32_w]
        rfl
       refine pure_ (i := 4) (N := some 54) (v := ?_) (a' := ?_) #[true, false, true, false, true, false, false, false, false, false, false, false] rfl rfl (any_of HT_.out (by kernel_rfl)) (fun _ _ _ h => h) (Or.inl ⟨by rfl, ?_⟩) ?_ ?_
       rotate_left
       ·
        intro w'
        go_simp
        with_reducible rfl
       rotate_left
       ·
        simp only [Act.put, lA, lB, lC, i64_w, i32_w]
        rfl
       refine pure_ (i := 7) (N := some 57) (v := ?_) (a' := ?_) #[true, false, true, false, true, false, false, true, false, false, false, false] rfl rfl (any_of HT_.out (by kernel_rfl)) (fun _ _ _ h => h) (Or.inl ⟨by rfl, ?_⟩) ?_ ?_
       rotate_left
       ·
        intro w'
        go_simp
        with_reducible rfl
       rotate_left
       ·
        simp only [Act.put, lA, lB, lC, i64_w, i32_w]
        rfl
       refine take_ (i := 1) (N := some 51) (v := ?_) (a' := ?_) #[true, true, true, false, true, false, false, true, false, false, false, false] rfl rfl (take_ofW HT_.out HW_.out (by kernel_rfl)) (fun _ _ _ h => h) (Or.inl ⟨by rfl, ?_⟩) hHeld ?_ ?_
       rotate_left
       ·
        rintro w' ⟨s0, s1, s2, s3, s4⟩
        go_simp
        with_reducible rfl
       rotate_left
       ·
        simp only [Act.put, lA, lB, lC, i64_w, i32_w]
        rfl
       refine take_ (i := 3) (N := some 53) (v := ?_) (a' := ?_) #[true, true, true, true, true, false, false, true, false, false, false, false] rfl rfl (take_ofW HT_.out HW_.out (by kernel_rfl)) (fun _ _ _ h => h) (Or.inl ⟨by rfl, ?_⟩) hHeld ?_ ?_
       rotate_left
       ·
        rintro w' ⟨s0, s1, s2, s3, s4⟩
        go_simp
        with_reducible rfl
       rotate_left
       ·
        simp only [Act.put, lA, lB, lC, i64_w, i32_w]
        rfl
       refine take_ (i := 5) (N := some 55) (v := ?_) (a' := ?_) #[true, true, true, true, true, true, false, true, false, false, false, false] rfl rfl (take_ofW HT_.out HW_.out (by kernel_rfl)) (fun _ _ _ h => h) (Or.inl ⟨by rfl, ?_⟩) hHeld ?_ ?_
       rotate_left
       ·
        rintro w' ⟨s0, s1, s2, s3, s4⟩
        go_simp
        with_reducible rfl
       rotate_left
       ·
        simp only [Act.put, lA, lB, lC, i64_w, i32_w]
        rfl
       refine pure_ (i := 6) (N := some 56) (v := ?_) (a' := ?_) #[true, true, true, true, true, true, true, true, false, false, false, false] rfl rfl (any_of HT_.out (by kernel_rfl)) (fun _ _ _ h => h) (Or.inl ⟨by rfl, ?_⟩) ?_ ?_
       rotate_left
       ·
        intro w'
        go_simp
        with_reducible rfl
       rotate_left
       ·
        simp only [Act.put, lA, lB, lC, i64_w, i32_w]
        rfl
       refine one_ (i := 8) (N := some 58) #[true, true, true, true, true, true, true, true, true, false, false, false] rfl rfl (one_of HT_.out (by kernel_rfl)) (by decide) (fun K hK => ?_)
       refine goes_ Tryd.func53 (by kernel_rfl) rfl #[.int .i64 (wrap64 (t322 - a0_2)), .int .u64 (IntKind.u64.wrap (a0_1))] (by rfl) rfl rfl mS ?_
       with_reducible refine (congr_rest.calls (wrap64 (t322 - a0_2)) (IntKind.u64.wrap (a0_1)) t338 _ A76.out).mono ?_
       rintro e w' ⟨rfl, ⟨nd, rfl⟩⟩
       refine ⟨_, rfl, ?_⟩
       refine hK.out _ _ ⟨cz0 BK316, cz1 BK316, cz0 BK315, cz1 BK315, cz2 BK315⟩ (fun hHeld => ?_)
       clear hK K
       refine norm_ (a' := ?_) ?_ ?_
       rotate_left
       ·
        show Act.put _ (some 58) _ = _
        simp only [Act.put, lA, lB, lC, i64_w, i32_w]
        rfl
       refine pure_ (i := 9) (N := some 59) (v := ?_) (a' := ?_) #[true, true, true, true, true, true, true, true, true, true, false, false] rfl rfl (any_of HT_.out (by kernel_rfl)) (fun _ _ _ h => h) (Or.inl ⟨by rfl, ?_⟩) ?_ ?_
       rotate_left
       ·
        intro w'
        go_simp
        with_reducible rfl
       rotate_left
       ·
        simp only [Act.put, lA, lB, lC, i64_w, i32_w]
        rfl
       refine pure_ (i := 10) (N := some 60) (v := ?_) (a' := ?_) #[true, true, true, true, true, true, true, true, true, true, true, false] rfl rfl (any_of HT_.out (by kernel_rfl)) (fun _ _ _ h => h) (Or.inl ⟨by rfl, ?_⟩) ?_ ?_
       rotate_left
       ·
        intro w'
        go_simp
        with_reducible rfl
       rotate_left
       ·
        simp only [Act.put, lA, lB, lC, i64_w, i32_w]
        rfl
       refine pure_ (i := 11) (N := some 8) (v := ?_) (a' := ?_) #[true, true, true, true, true, true, true, true, true, true, true, true] rfl rfl (any_of HT_.out (by kernel_rfl)) (fun _ _ _ h => h) (Or.inl ⟨by rfl, ?_⟩) ?_ ?_
       rotate_left
       ·
        intro w'
        go_simp
        with_reducible rfl
       rotate_left
       ·
        simp only [Act.put, lA, lB, lC, i64_w, i32_w]
        rfl
       refine done_ (done_of HT_.out (by kernel_rfl)) ?_
       try go_wp2_with (first | ((with_reducible refine gate_callee (f := 50) rfl ?_); refine goesL_ (some 72) rfl rfl Tryd.func50 (by kernel_rfl) rfl #[.int .i64 (wrap64 (t321 + (wrap64 (t337))))] rfl mS ?_; (with_reducible refine (congr_constant.calls (wrap64 (t321 + (wrap64 (t337)))) t344 t345 t346 _ A94.out).mono ?_); rintro e w102 ⟨rfl, hb⟩; refine ⟨_, rfl, ?_⟩; replace BK315 := kB BK315 hb; replace BK316 := kB BK316 hb; replace BK317 := kB BK317 hb; replace BK318 := kB BK318 hb; replace HB := kW HB hb; (try clear hb); (try clear hb2); (try clear hk); (try clear hi)) | ((with_reducible refine gate_callee (f := 75) rfl ?_); refine goesL_ (some 75) rfl rfl Tryd.func75 (by kernel_rfl) rfl #[.int .i64 (wrap64 (t321 + (wrap64 (t337)))), .int .i64 (wrap64 (t321 + (wrap64 (t337))))] rfl mS ?_; (with_reducible refine (itv_Of.calls (wrap64 (t321 + (wrap64 (t337)))) (wrap64 (t321 + (wrap64 (t337)))) t347 t348 _ A95.out).mono ?_); rintro e w103 ⟨rfl, hb⟩; refine ⟨_, rfl, ?_⟩; replace BK315 := kB BK315 hb; replace BK316 := kB BK316 hb; replace BK317 := kB BK317 hb; replace BK318 := kB BK318 hb; replace HB := kW HB hb; (try clear hb); (try clear hb2); (try clear hk); (try clear hi); have hnb104 := NB317_316.out; have hnc104 := NB316_317.out; have hnb105 := NB317_318.out; have hnc105 := NB318_317.out; have hcz106_0 := cz0 BK317; have hcz106_1 := cz1 BK317; have hcz106_2 := cz2 BK317; have hfz106_0 := fz BK317 0; have hfz106_1 := fz BK317 1; have hfz106_2 := fz BK317 2; have hnb107 := NB318_316.out; have hnc107 := NB316_318.out; have hcz108_0 := cz0 BK318; have hcz108_1 := cz1 BK318; have hfz108_0 := fz BK318 0; have hfz108_1 := fz BK318 1))
       refine bodyPost_ret (results_cc rfl _ _ gb317 gb318 23 38 #[.bool t344, .int .i64 t345, .int .i64 t346] #[.int .i64 t347, .int .i64 t348] (0, 0) (0, 0) _ _ rfl (by (with_reducible repeat (first | refine b1 ?_ _ | refine b2 ?_ | refine b3 ?_ _)); refine blk_far ?_ NB317_318.out _; (with_reducible repeat (first | refine b1 ?_ _ | refine b2 ?_ | refine b3 ?_ _)); refine blk_far ?_ NB317_318.out _; (with_reducible repeat (first | refine b1 ?_ _ | refine b2 ?_ | refine b3 ?_ _)); refine blk_put (cs := #[.bool t344, .int .i64 t345, .int .i64 0]) ?_ 2 _ rfl; (with_reducible repeat (first | refine b1 ?_ _ | refine b2 ?_ | refine b3 ?_ _)); refine blk_put (cs := #[.bool t344, .int .i64 0, .int .i64 0]) ?_ 1 _ rfl; (with_reducible repeat (first | refine b1 ?_ _ | refine b2 ?_ | refine b3 ?_ _)); refine blk_put (cs := #[.bool false, .int .i64 0, .int .i64 0]) ?_ 0 _ rfl; (with_reducible repeat (first | refine b1 ?_ _ | refine b2 ?_ | refine b3 ?_ _)); exact BK317.out) Tryd.underlying23 rfl (by kernel_rfl) rfl (by (with_reducible repeat (first | refine b1 ?_ _ | refine b2 ?_ | refine b3 ?_ _)); refine blk_put (cs := #[.int .i64 t347, .int .i64 0]) ?_ 1 _ rfl; (with_reducible repeat (first | refine b1 ?_ _ | refine b2 ?_ | refine b3 ?_ _)); refine blk_put (cs := #[.int .i64 0, .int .i64 0]) ?_ 0 _ rfl; (with_reducible repeat (first | refine b1 ?_ _ | refine b2 ?_ | refine b3 ?_ _)); refine blk_far ?_ NB318_317.out _; (with_reducible repeat (first | refine b1 ?_ _ | refine b2 ?_ | refine b3 ?_ _)); refine blk_far ?_ NB318_317.out _; (with_reducible repeat (first | refine b1 ?_ _ | refine b2 ?_ | refine b3 ?_ _)); refine blk_far ?_ NB318_317.out _; (with_reducible repeat (first | refine b1 ?_ _ | refine b2 ?_ | refine b3 ?_ _)); exact BK318.out) Tryd.underlying38 rfl (by kernel_rfl)) rfl ?_
       exact ⟨eS, bS HB⟩
      ·
       rw [if_neg c93] at H
       have c93b0 : ((wrap64 (t321 + (wrap64 (t337)))) == (wrap64 (t322 - (wrap64 (t338))))) = false := beq_eq_false_iff_ne.mpr c93
       have c93b1 : ((wrap64 (t321 + (wrap64 (t337)))) != (wrap64 (t322 - (wrap64 (t338))))) = true := bne_iff_ne.mpr c93
       replace H := Option.bind_eq_some_iff.mp H
       obtain ⟨⟨t349, t350⟩, A1090, H⟩ := H
       replace H : (some (a0_0, a0_1, a0_2, t349, t350)) = some (r1, r2, r3, r4, r5) := H
       have A109 := Aside0.mk A1090
       clear A1090
       simp only [Option.some.injEq, Prod.mk.injEq] at H
       obtain ⟨rfl, rfl, rfl, rfl, rfl⟩ := H
       have hnb110 := NB315_316.out
       have hnc110 := NB316_315.out
       have hnb111 := NB315_317.out
       have hnc111 := NB317_315.out
       have hnb112 := NB315_318.out
       have hnc112 := NB318_315.out
       have hcz113_0 : wc.cell? ⟨gb315, 0, none⟩ = some (.bool a0_0) := cz0 BK315
       have hcz113_1 : wc.cell? ⟨gb315, 1, none⟩ = some (.int .i64 a0_1) := cz1 BK315
       have hcz113_2 : wc.cell? ⟨gb315, 2, none⟩ = some (.int .i64 a0_2) := cz2 BK315
       have hfz113_0 := fz BK315 0
       have hfz113_1 := fz BK315 1
       have hfz113_2 := fz BK315 2
       try go_wp2
       replace BK315 := Aside0.mk (blk_drew BK315.out)
       replace BK316 := Aside0.mk (blk_drew BK316.out)
       replace BK317 := Aside0.mk (blk_drew BK317.out)
       replace BK318 := Aside0.mk (blk_drew BK318.out)
       replace HB := Aside0.mk (below_drew1 HB.out)
       refine start_ (n := 12) (S := fun w' => w'.cell? ⟨gb316, 0, none⟩ = some (.int .i64 t321) ∧ w'.cell? ⟨gb316, 1, none⟩ = some (.int .i64 t322) ∧ w'.cell? ⟨gb315, 0, none⟩ = some (.bool a0_0) ∧ w'.cell? ⟨gb315, 1, none⟩ = some (.int .i64 a0_1) ∧ w'.cell? ⟨gb315, 2, none⟩ = some (.int .i64 a0_2)) (ds := []) #[false, false, false, false, false, false, false, false, false, false, false, false] (by kernel_rfl) rfl rfl ⟨cz0 BK316, cz1 BK316, cz0 BK315, cz1 BK315, cz2 BK315⟩ (fun hHeld => ?_); refine with_tabW congr_Tighten.tab9 congr_Tighten.bits9 (fun HT_ HW_ => ?_)
       generalize wc.drew = w114 at BK315 BK316 BK317 BK318 HB hHeld ⊢
       refine pure_ (i := 0) (N := some 39) (v := ?_) (a' := ?_) #[true, false, false, false, false, false, false, false, false, false, false, false] rfl rfl (any_of HT_.out (by kernel_rfl)) (fun _ _ _ h => h) (Or.inl ⟨by rfl, ?_⟩) ?_ ?_
       rotate_left
       ·
        intro w'
        go_simp
        with_reducible rfl
       rotate_left
       ·
        simp only [Act.put, lA, lB, lC, i64_w, i32_w]
        rfl
       refine pure_ (i := 2) (N := some 41) (v := ?_) (a' := ?_) #[true, false, true, false, false, false, false, false, false, false, false, false] rfl rfl (any_of HT_.out (by kernel_rfl)) (fun _ _ _ h => h) (Or.inl ⟨by rfl, ?_⟩) ?_ ?_
       rotate_left
       ·
        intro w'
        go_simp
        with_reducible rfl
       rotate_left
       ·
        simp only [Act.put, lA, lB, lC, i64_w, i32_w]
        rfl
       refine pure_ (i := 4) (N := some 43) (v := ?_) (a' := ?_) #[true, false, true, false, true, false, false, false, false, false, false, false] rfl rfl (any_of HT_.out (by kernel_rfl)) (fun _ _ _ h => h) (Or.inl ⟨by rfl, ?_⟩) ?_ ?_
       rotate_left
       ·
        intro w'
        go_simp
        with_reducible rfl
       rotate_left
       ·
        simp only [Act.put, lA, lB, lC, i64_w, i32_w]
        rfl
       refine pure_ (i := 7) (N := some 46) (v := ?_) (a' := ?_) #[true, false, true, false, true, false, false, true, false, false, false, false] rfl rfl (any_of HT_.out (by kernel_rfl)) (fun _ _ _ h => h) (Or.inl ⟨by rfl, ?_⟩) ?_ ?_
       rotate_left
       ·
        intro w'
        go_simp
        with_reducible rfl
       rotate_left
       ·
        simp only [Act.put, lA, lB, lC, i64_w, i32_w]
        rfl
       refine take_ (i := 1) (N := some 40) (v := ?_) (a' := ?_) #[true, true, true, false, true, false, false, true, false, false, false, false] rfl rfl (take_ofW HT_.out HW_.out (by kernel_rfl)) (fun _ _ _ h => h) (Or.inl ⟨by rfl, ?_⟩) hHeld ?_ ?_
       rotate_left
       ·
        rintro w' ⟨s0, s1, s2, s3, s4⟩
        go_simp
        with_reducible rfl
       rotate_left
       ·
        simp only [Act.put, lA, lB, lC, i64_w, i32_w]
        rfl
       refine take_ (i := 3) (N := some 42) (v := ?_) (a' := ?_) #[true, true, true, true, true, false, false, true, false, false, false, false] rfl rfl (take_ofW HT_.out HW_.out (by kernel_rfl)) (fun _ _ _ h => h) (Or.inl ⟨by rfl, ?_⟩) hHeld ?_ ?_
       rotate_left
       ·
        rintro w' ⟨s0, s1, s2, s3, s4⟩
        go_simp
        with_reducible rfl
       rotate_left
       ·
        simp only [Act.put, lA, lB, lC, i64_w, i32_w]
        rfl
       refine take_ (i := 5) (N := some 44) (v := ?_) (a' := ?_) #[true, true, true, true, true, true, false, true, false, false, false, false] rfl rfl (take_ofW HT_.out HW_.out (by kernel_rfl)) (fun _ _ _ h => h) (Or.inl ⟨by rfl, ?_⟩) hHeld ?_ ?_
       rotate_left
       ·
        rintro w' ⟨s0, s1, s2, s3, s4⟩
        go_simp
        with_reducible rfl
       rotate_left
       ·
        simp only [Act.put, lA, lB, lC, i64_w, i32_w]
        rfl
       refine pure_ (i := 6) (N := some 45) (v := ?_) (a' := ?_) #[true, true, true, true, true, true, true, true, false, false, false, false] rfl rfl (any_of HT_.out (by kernel_rfl)) (fun _ _ _ h => h) (Or.inl ⟨by rfl, ?_⟩) ?_ ?_
       rotate_left
       ·
        intro w'
        go_simp
        with_reducible rfl
       rotate_left
       ·
        simp only [Act.put, lA, lB, lC, i64_w, i32_w]
        rfl
       refine one_ (i := 8) (N := some 47) #[true, true, true, true, true, true, true, true, true, false, false, false] rfl rfl (one_of HT_.out (by kernel_rfl)) (by decide) (fun K hK => ?_)
       refine goes_ Tryd.func53 (by kernel_rfl) rfl #[.int .i64 (wrap64 (a0_2 - t321)), .int .u64 (IntKind.u64.wrap (a0_1))] (by rfl) rfl rfl mS ?_
       with_reducible refine (congr_rest.calls (wrap64 (a0_2 - t321)) (IntKind.u64.wrap (a0_1)) t337 _ A75.out).mono ?_
       rintro e w' ⟨rfl, ⟨nd, rfl⟩⟩
       refine ⟨_, rfl, ?_⟩
       refine hK.out _ _ ⟨cz0 BK316, cz1 BK316, cz0 BK315, cz1 BK315, cz2 BK315⟩ (fun hHeld => ?_)
       clear hK K
       refine norm_ (a' := ?_) ?_ ?_
       rotate_left
       ·
        show Act.put _ (some 47) _ = _
        simp only [Act.put, lA, lB, lC, i64_w, i32_w]
        rfl
       refine pure_ (i := 9) (N := some 48) (v := ?_) (a' := ?_) #[true, true, true, true, true, true, true, true, true, true, false, false] rfl rfl (any_of HT_.out (by kernel_rfl)) (fun _ _ _ h => h) (Or.inl ⟨by rfl, ?_⟩) ?_ ?_
       rotate_left
       ·
        intro w'
        go_simp
        with_reducible rfl
       rotate_left
       ·
        simp only [Act.put, lA, lB, lC, i64_w, i32_w]
        rfl
       refine pure_ (i := 10) (N := some 49) (v := ?_) (a' := ?_) #[true, true, true, true, true, true, true, true, true, true, true, false] rfl rfl (any_of HT_.out (by kernel_rfl)) (fun _ _ _ h => h) (Or.inl ⟨by rfl, ?_⟩) ?_ ?_
       rotate_left
       ·
        intro w'
        go_simp
        with_reducible rfl
       rotate_left
       ·
        simp only [Act.put, lA, lB, lC, i64_w, i32_w]
        rfl
       refine pure_ (i := 11) (N := some 7) (v := ?_) (a' := ?_) #[true, true, true, true, true, true, true, true, true, true, true, true] rfl rfl (any_of HT_.out (by kernel_rfl)) (fun _ _ _ h => h) (Or.inl ⟨by rfl, ?_⟩) ?_ ?_
       rotate_left
       ·
        intro w'
        go_simp
        with_reducible rfl
       rotate_left
       ·
        simp only [Act.put, lA, lB, lC, i64_w, i32_w]
        rfl
       refine done_ (done_of HT_.out (by kernel_rfl)) ?_
       try go_wp2
       (try (rw [drewN_self w114]; generalize hq_ : World.drewN w114 _ = w114; have n0_ : Aside0 (w114.heap[gb315]? = some (.cells #[.bool a0_0, .int .i64 a0_1, .int .i64 a0_2] 23 (0, 0))) := ⟨by rw [← hq_]; exact (bkS BK315)⟩; have n1_ : Aside0 (w114.heap[gb316]? = some (.cells #[.int .i64 t321, .int .i64 t322] 38 (0, 0))) := ⟨by rw [← hq_]; exact (bkS BK316)⟩; have n2_ : Aside0 (w114.heap[gb317]? = some (.cells #[.bool false, .int .i64 0, .int .i64 0] 23 (0, 0))) := ⟨by rw [← hq_]; exact (bkS BK317)⟩; have n3_ : Aside0 (w114.heap[gb318]? = some (.cells #[.int .i64 0, .int .i64 0] 38 (0, 0))) := ⟨by rw [← hq_]; exact (bkS BK318)⟩; have n4_ : Aside0 (Below w.heap.size w w114) := ⟨by rw [← hq_]; exact (bS HB)⟩; clear BK315 BK316 BK317 BK318 HB hq_; have BK315 := n0_; have BK316 := n1_; have BK317 := n2_; have BK318 := n3_; have HB := n4_; clear n0_ n1_ n2_ n3_ n4_))
       replace BK315 := Aside0.mk (blk_drew BK315.out)
       replace BK316 := Aside0.mk (blk_drew BK316.out)
       replace BK317 := Aside0.mk (blk_drew BK317.out)
       replace BK318 := Aside0.mk (blk_drew BK318.out)
       replace HB := Aside0.mk (below_drew1 HB.out)
       refine start_ (n := 12) (S := fun w' => w'.cell? ⟨gb316, 0, none⟩ = some (.int .i64 t321) ∧ w'.cell? ⟨gb316, 1, none⟩ = some (.int .i64 t322) ∧ w'.cell? ⟨gb315, 0, none⟩ = some (.bool a0_0) ∧ w'.cell? ⟨gb315, 1, none⟩ = some (.int .i64 a0_1) ∧ w'.cell? ⟨gb315, 2, none⟩ = some (.int .i64 a0_2)) (ds := []) #[false, false, false, false, false, false, false, false, false, false, false, false] (by kernel_rfl) rfl rfl ⟨cz0 BK316, cz1 BK316, cz0 BK315, cz1 BK315, cz2 BK315⟩ (fun hHeld => ?_); refine with_tabW congr_Tighten.tab10 congr_Tighten.bits10 (fun HT_ HW_ => ?_)
       generalize w114.drew = w115 at BK315 BK316 BK317 BK318 HB hHeld ⊢
       refine pure_ (i := 0) (N := some 50) (v := ?_) (a' := ?_) #[true, false, false, false, false, false, false, false, false, false, false, false] rfl rfl (any_of HT_.out (by kernel_rfl)) (fun _ _ _ h => h) (Or.inl ⟨by rfl, ?_⟩) ?_ ?_
       rotate_left
       ·
        intro w'
        go_simp
        with_reducible rfl
       rotate_left
       ·
        simp only [Act.put, lA, lB, lC, i64_w, i32_w]
        rfl
       refine pure_ (i := 2) (N := some 52) (v := ?_) (a' := ?_) #[true, false, true, false, false, false, false, false, false, false, false, false] rfl rfl (any_of HT_.out (by kernel_rfl)) (fun _ _ _ h => h) (Or.inl ⟨by rfl, ?_⟩) ?_ ?_
       rotate_left
       ·
        intro w'
        go_simp
        with_reducible rfl
       rotate_left
       ·
        simp only [Act.put, lA, lB, lC, i64_w, i32_w]
        rfl
       refine pure_ (i := 4) (N := some 54) (v := ?_) (a' := ?_) #[true, false, true, false, true, false, false, false, false, false, false, false] rfl rfl (any_of HT_.out (by kernel_rfl)) (fun _ _ _ h => h) (Or.inl ⟨by rfl, ?_⟩) ?_ ?_
       rotate_left
       ·
        intro w'
        go_simp
        with_reducible rfl
       rotate_left
       ·
        simp only [Act.put, lA, lB, lC, i64_w, i32_w]
        rfl
       refine pure_ (i := 7) (N := some 57) (v := ?_) (a' := ?_) #[true, false, true, false, true, false, false, true, false, false, false, false] rfl rfl (any_of HT_.out (by kernel_rfl)) (fun _ _ _ h => h) (Or.inl ⟨by rfl, ?_⟩) ?_ ?_
       rotate_left
       ·
        intro w'
        go_simp
        with_reducible rfl
       rotate_left
       ·
        simp only [Act.put, lA, lB, lC, i64_w, i32_w]
        rfl
       refine take_ (i := 1) (N := some 51) (v := ?_) (a' := ?_) #[true, true, true, false, true, false, false, true, false, false, false, false] rfl rfl (take_ofW HT_.out HW_.out (by kernel_rfl)) (fun _ _ _ h => h) (Or.inl ⟨by rfl, ?_⟩) hHeld ?_ ?_
       rotate_left
       ·
        rintro w' ⟨s0, s1, s2, s3, s4⟩
        go_simp
        with_reducible rfl
       rotate_left
       ·
        simp only [Act.put, lA, lB, lC, i64_w, i32_w]
        rfl
       refine take_ (i := 3) (N := some 53) (v := ?_) (a' := ?_) #[true, true, true, true, true, false, false, true, false, false, false, false] rfl rfl (take_ofW HT_.out HW_.out (by kernel_rfl)) (fun _ _ _ h => h) (Or.inl ⟨by rfl, ?_⟩) hHeld ?_ ?_
       rotate_left
       ·
        rintro w' ⟨s0, s1, s2, s3, s4⟩
        go_simp
        with_reducible rfl
       rotate_left
       ·
        simp only [Act.put, lA, lB, lC, i64_w, i32_w]
        rfl
       refine take_ (i := 5) (N := some 55) (v := ?_) (a' := ?_) #[true, true, true, true, true, true, false, true, false, false, false, false] rfl rfl (take_ofW HT_.out HW_.out (by kernel_rfl)) (fun _ _ _ h => h) (Or.inl ⟨by rfl, ?_⟩) hHeld ?_ ?_
       rotate_left
       ·
        rintro w' ⟨s0, s1, s2, s3, s4⟩
        go_simp
        with_reducible rfl
       rotate_left
       ·
        simp only [Act.put, lA, lB, lC, i64_w, i32_w]
        rfl
       refine pure_ (i := 6) (N := some 56) (v := ?_) (a' := ?_) #[true, true, true, true, true, true, true, true, false, false, false, false] rfl rfl (any_of HT_.out (by kernel_rfl)) (fun _ _ _ h => h) (Or.inl ⟨by rfl, ?_⟩) ?_ ?_
       rotate_left
       ·
        intro w'
        go_simp
        with_reducible rfl
       rotate_left
       ·
        simp only [Act.put, lA, lB, lC, i64_w, i32_w]
        rfl
       refine one_ (i := 8) (N := some 58) #[true, true, true, true, true, true, true, true, true, false, false, false] rfl rfl (one_of HT_.out (by kernel_rfl)) (by decide) (fun K hK => ?_)
       refine goes_ Tryd.func53 (by kernel_rfl) rfl #[.int .i64 (wrap64 (t322 - a0_2)), .int .u64 (IntKind.u64.wrap (a0_1))] (by rfl) rfl rfl mS ?_
       with_reducible refine (congr_rest.calls (wrap64 (t322 - a0_2)) (IntKind.u64.wrap (a0_1)) t338 _ A76.out).mono ?_
       rintro e w' ⟨rfl, ⟨nd, rfl⟩⟩
       refine ⟨_, rfl, ?_⟩
       refine hK.out _ _ ⟨cz0 BK316, cz1 BK316, cz0 BK315, cz1 BK315, cz2 BK315⟩ (fun hHeld => ?_)
       clear hK K
       refine norm_ (a' := ?_) ?_ ?_
       rotate_left
       ·
        show Act.put _ (some 58) _ = _
        simp only [Act.put, lA, lB, lC, i64_w, i32_w]
        rfl
       refine pure_ (i := 9) (N := some 59) (v := ?_) (a' := ?_) #[true, true, true, true, true, true, true, true, true, true, false, false] rfl rfl (any_of HT_.out (by kernel_rfl)) (fun _ _ _ h => h) (Or.inl ⟨by rfl, ?_⟩) ?_ ?_
       rotate_left
       ·
        intro w'
        go_simp
        with_reducible rfl
       rotate_left
       ·
        simp only [Act.put, lA, lB, lC, i64_w, i32_w]
        rfl
       refine pure_ (i := 10) (N := some 60) (v := ?_) (a' := ?_) #[true, true, true, true, true, true, true, true, true, true, true, false] rfl rfl (any_of HT_.out (by kernel_rfl)) (fun _ _ _ h => h) (Or.inl ⟨by rfl, ?_⟩) ?_ ?_
       rotate_left
       ·
        intro w'
        go_simp
        with_reducible rfl
       rotate_left
       ·
        simp only [Act.put, lA, lB, lC, i64_w, i32_w]
        rfl
       refine pure_ (i := 11) (N := some 8) (v := ?_) (a' := ?_) #[true, true, true, true, true, true, true, true, true, true, true, true] rfl rfl (any_of HT_.out (by kernel_rfl)) (fun _ _ _ h => h) (Or.inl ⟨by rfl, ?_⟩) ?_ ?_
       rotate_left
       ·
        intro w'
        go_simp
        with_reducible rfl
       rotate_left
       ·
        simp only [Act.put, lA, lB, lC, i64_w, i32_w]
        rfl
       refine done_ (done_of HT_.out (by kernel_rfl)) ?_
       try go_wp2
       (try (rw [drewN_self w115]; generalize hq_ : World.drewN w115 _ = w115; have n0_ : Aside0 (w115.heap[gb315]? = some (.cells #[.bool a0_0, .int .i64 a0_1, .int .i64 a0_2] 23 (0, 0))) := ⟨by rw [← hq_]; exact (bkS BK315)⟩; have n1_ : Aside0 (w115.heap[gb316]? = some (.cells #[.int .i64 t321, .int .i64 t322] 38 (0, 0))) := ⟨by rw [← hq_]; exact (bkS BK316)⟩; have n2_ : Aside0 (w115.heap[gb317]? = some (.cells #[.bool false, .int .i64 0, .int .i64 0] 23 (0, 0))) := ⟨by rw [← hq_]; exact (bkS BK317)⟩; have n3_ : Aside0 (w115.heap[gb318]? = some (.cells #[.int .i64 0, .int .i64 0] 38 (0, 0))) := ⟨by rw [← hq_]; exact (bkS BK318)⟩; have n4_ : Aside0 (Below w.heap.size w w115) := ⟨by rw [← hq_]; exact (bS HB)⟩; clear BK315 BK316 BK317 BK318 HB hq_; have BK315 := n0_; have BK316 := n1_; have BK317 := n2_; have BK318 := n3_; have HB := n4_; clear n0_ n1_ n2_ n3_ n4_))
       replace BK315 := Aside0.mk (blk_drew BK315.out)
       replace BK316 := Aside0.mk (blk_drew BK316.out)
       replace BK317 := Aside0.mk (blk_drew BK317.out)
       replace BK318 := Aside0.mk (blk_drew BK318.out)
       replace HB := Aside0.mk (below_drew1 HB.out)
       refine start_ (n := 6) (S := fun w' => w'.cell? ⟨gb315, 0, none⟩ = some (.bool a0_0) ∧ w'.cell? ⟨gb315, 1, none⟩ = some (.int .i64 a0_1) ∧ w'.cell? ⟨gb315, 2, none⟩ = some (.int .i64 a0_2)) (ds := []) #[false, false, false, false, false, false] (by kernel_rfl) rfl rfl ⟨cz0 BK315, cz1 BK315, cz2 BK315⟩ (fun hHeld => ?_)
       generalize w115.drew = w116 at BK315 BK316 BK317 BK318 HB hHeld ⊢
       refine pure_ (i := 1) (N := some 77) (v := ?_) (a' := ?_) #[false, true, false, false, false, false] rfl rfl (by kernel_rfl) (fun _ _ _ h => h) (Or.inl ⟨by rfl, ?_⟩) ?_ ?_
       rotate_left
       ·
        intro w'
        go_simp
        with_reducible rfl
       rotate_left
       ·
        simp only [Act.put, lA, lB, lC, i64_w, i32_w]
        rfl
       refine pure_ (i := 2) (N := some 78) (v := ?_) (a' := ?_) #[false, true, true, false, false, false] rfl rfl (by kernel_rfl) (fun _ _ _ h => h) (Or.inl ⟨by rfl, ?_⟩) ?_ ?_
       rotate_left
       ·
        intro w'
        go_simp
        with_reducible rfl
       rotate_left
       ·
        simp only [Act.put, lA, lB, lC, i64_w, i32_w]
        rfl
       refine take_ (i := 0) (N := some 76) (v := ?_) (a' := ?_) #[true, true, true, false, false, false] rfl rfl (by kernel_rfl) (fun _ _ _ h => h) (Or.inl ⟨by rfl, ?_⟩) hHeld ?_ ?_
       rotate_left
       ·
        rintro w' ⟨s0, s1, s2⟩
        go_simp
        with_reducible rfl
       rotate_left
       ·
        simp only [Act.put, lA, lB, lC, i64_w, i32_w]
        rfl
       refine one_ (i := 3) (N := some 79) #[true, true, true, true, false, false] rfl rfl (by kernel_rfl) (by decide) (fun K hK => ?_)
       refine goes_ Tryd.func75 (by kernel_rfl) rfl #[.int .i64 (wrap64 (t321 + (wrap64 (t337)))), .int .i64 (wrap64 (t322 - (wrap64 (t338))))] (by rfl) rfl rfl mS ?_
       with_reducible refine (itv_Of.calls (wrap64 (t321 + (wrap64 (t337)))) (wrap64 (t322 - (wrap64 (t338)))) t349 t350 _ A109.out).mono ?_
       rintro e w117 ⟨rfl, hb⟩
       refine ⟨_, rfl, ?_⟩
       replace BK315 := kB BK315 hb
       replace BK316 := kB BK316 hb
       replace BK317 := kB BK317 hb
       replace BK318 := kB BK318 hb
       replace HB := kW HB hb
       (try clear hb)
       (try clear hb2)
       (try clear hk)
       (try clear hi)
       refine hK.out _ _ ⟨cz0 BK315, cz1 BK315, cz2 BK315⟩ (fun hHeld => ?_)
       clear hK K
       refine norm_ (a' := ?_) ?_ ?_
       rotate_left
       ·
        show Act.put _ (some 79) _ = _
        simp only [Act.put, lA, lB, lC, i64_w, i32_w]
        rfl
       refine one_ (i := 4) (N := none) #[true, true, true, true, true, false] rfl rfl (by kernel_rfl) (by decide) (fun K hK => ?_)
       have hs118 : w117.cell? ⟨gb317, 0, none⟩ = some (.bool false) := cz0 BK317
       have hfs118 := fz BK317 0
       have hns118_0 := NB315_317.out
       have hns118_1 := NB316_317.out
       have hns118_3 := NB318_317.out
       have hms118_0 := NB317_315.out
       have hms118_1 := NB317_316.out
       have hms118_3 := NB317_318.out
       have hs119 : w117.cell? ⟨gb317, 1, none⟩ = some (.int .i64 0) := cz1 BK317
       have hfs119 := fz BK317 1
       have hns119_0 := NB315_317.out
       have hns119_1 := NB316_317.out
       have hns119_3 := NB318_317.out
       have hms119_0 := NB317_315.out
       have hms119_1 := NB317_316.out
       have hms119_3 := NB317_318.out
       have hs120 : w117.cell? ⟨gb317, 2, none⟩ = some (.int .i64 0) := cz2 BK317
       have hfs120 := fz BK317 2
       have hns120_0 := NB315_317.out
       have hns120_1 := NB316_317.out
       have hns120_3 := NB318_317.out
       have hms120_0 := NB317_315.out
       have hms120_1 := NB317_316.out
       have hms120_3 := NB317_318.out
       refine skip_ (w1 := ?_) (by rfl) rfl ?_ ?_
       rotate_left
       ·
        go_simp
        rfl
       refine hK.out _ _ ⟨((cell_far (p := ⟨gb317, _, none⟩) NB315_317.out _).trans (((cell_far (p := ⟨gb317, _, none⟩) NB315_317.out _).trans (((cell_far (p := ⟨gb317, _, none⟩) NB315_317.out _).trans (hHeld.1)))))), ((cell_far (p := ⟨gb317, _, none⟩) NB315_317.out _).trans (((cell_far (p := ⟨gb317, _, none⟩) NB315_317.out _).trans (((cell_far (p := ⟨gb317, _, none⟩) NB315_317.out _).trans (hHeld.2.1)))))), ((cell_far (p := ⟨gb317, _, none⟩) NB315_317.out _).trans (((cell_far (p := ⟨gb317, _, none⟩) NB315_317.out _).trans (((cell_far (p := ⟨gb317, _, none⟩) NB315_317.out _).trans (hHeld.2.2))))))⟩ (fun hHeld => ?_)
       clear hK K
       refine one_ (i := 5) (N := none) #[true, true, true, true, true, true] rfl rfl (by kernel_rfl) (by decide) (fun K hK => ?_)
       have hs121 : w117.cell? ⟨gb318, 0, none⟩ = some (.int .i64 0) := cz0 BK318
       have hfs121 := fz BK318 0
       have hns121_0 := NB315_318.out
       have hns121_1 := NB316_318.out
       have hns121_2 := NB317_318.out
       have hms121_0 := NB318_315.out
       have hms121_1 := NB318_316.out
       have hms121_2 := NB318_317.out
       have hs122 : w117.cell? ⟨gb318, 1, none⟩ = some (.int .i64 0) := cz1 BK318
       have hfs122 := fz BK318 1
       have hns122_0 := NB315_318.out
       have hns122_1 := NB316_318.out
       have hns122_2 := NB317_318.out
       have hms122_0 := NB318_315.out
       have hms122_1 := NB318_316.out
       have hms122_2 := NB318_317.out
       refine skip_ (w1 := ?_) (by rfl) rfl ?_ ?_
       rotate_left
       ·
        go_simp
        rfl
       refine hK.out _ _ ⟨((cell_far (p := ⟨gb318, _, none⟩) NB315_318.out _).trans (((cell_far (p := ⟨gb318, _, none⟩) NB315_318.out _).trans (hHeld.1)))), ((cell_far (p := ⟨gb318, _, none⟩) NB315_318.out _).trans (((cell_far (p := ⟨gb318, _, none⟩) NB315_318.out _).trans (hHeld.2.1)))), ((cell_far (p := ⟨gb318, _, none⟩) NB315_318.out _).trans (((cell_far (p := ⟨gb318, _, none⟩) NB315_318.out _).trans (hHeld.2.2))))⟩ (fun hHeld => ?_)
       clear hK K
       refine done_ (by kernel_rfl) ?_
       try go_wp2
       refine bodyPost_ret (results_cc rfl _ _ gb317 gb318 23 38 #[.bool a0_0, .int .i64 a0_1, .int .i64 a0_2] #[.int .i64 t349, .int .i64 t350] (0, 0) (0, 0) _ _ rfl (by (with_reducible repeat (first | refine b1 ?_ _ | refine b2 ?_ | refine b3 ?_ _)); refine blk_far ?_ NB317_318.out _; (with_reducible repeat (first | refine b1 ?_ _ | refine b2 ?_ | refine b3 ?_ _)); refine blk_far ?_ NB317_318.out _; (with_reducible repeat (first | refine b1 ?_ _ | refine b2 ?_ | refine b3 ?_ _)); refine blk_put (cs := #[.bool a0_0, .int .i64 a0_1, .int .i64 0]) ?_ 2 _ rfl; (with_reducible repeat (first | refine b1 ?_ _ | refine b2 ?_ | refine b3 ?_ _)); refine blk_put (cs := #[.bool a0_0, .int .i64 0, .int .i64 0]) ?_ 1 _ rfl; (with_reducible repeat (first | refine b1 ?_ _ | refine b2 ?_ | refine b3 ?_ _)); refine blk_put (cs := #[.bool false, .int .i64 0, .int .i64 0]) ?_ 0 _ rfl; (with_reducible repeat (first | refine b1 ?_ _ | refine b2 ?_ | refine b3 ?_ _)); exact BK317.out) Tryd.underlying23 rfl (by kernel_rfl) rfl (by (with_reducible repeat (first | refine b1 ?_ _ | refine b2 ?_ | refine b3 ?_ _)); refine blk_put (cs := #[.int .i64 t349, .int .i64 0]) ?_ 1 _ rfl; (with_reducible repeat (first | refine b1 ?_ _ | refine b2 ?_ | refine b3 ?_ _)); refine blk_put (cs := #[.int .i64 0, .int .i64 0]) ?_ 0 _ rfl; (with_reducible repeat (first | refine b1 ?_ _ | refine b2 ?_ | refine b3 ?_ _)); refine blk_far ?_ NB318_317.out _; (with_reducible repeat (first | refine b1 ?_ _ | refine b2 ?_ | refine b3 ?_ _)); refine blk_far ?_ NB318_317.out _; (with_reducible repeat (first | refine b1 ?_ _ | refine b2 ?_ | refine b3 ?_ _)); refine blk_far ?_ NB318_317.out _; (with_reducible repeat (first | refine b1 ?_ _ | refine b2 ?_ | refine b3 ?_ _)); exact BK318.out) Tryd.underlying38 rfl (by kernel_rfl)) rfl ?_
       exact ⟨eS, bS HB⟩

def gimbalref02_norm.f (a0_0 : Int) (a0_1 : Int) : Option (Int × Int) := (gimbalref02_Of.f a0_0 a0_1).bind fun bt353 => (some (bt353.1, bt353.2))
set_option maxHeartbeats 8000000 in
set_option maxRecDepth 100000 in
theorem gimbalref02_norm.calls (a0_0 : Int) (a0_1 : Int) (r1 : Int) (r2 : Int) (w : World) (h : gimbalref02_norm.f a0_0 a0_1 = some (r1, r2)) :
  Calls Tryd.prog 87 #[.agg #[.int .i64 a0_0, .int .i64 a0_1]] w fun e w' => e = .returned (.agg #[.int .i64 r1, .int .i64 r2]) ∧ Below w.heap.size w w' := by
 have hu38 := Tryd.underlying38
 have HB := Aside0.mk (Below.refl w.heap.size w)
 have H : ((gimbalref02_Of.f a0_0 a0_1).bind fun bt353 => (some (bt353.1, bt353.2))) = some (r1, r2) := h
 clear h
 replace H := Option.bind_eq_some_iff.mp H
 obtain ⟨⟨t353, t354⟩, A20, H⟩ := H
 replace H : (some (t353, t354)) = some (r1, r2) := H
 have A2 := Aside0.mk A20
 clear A20
 simp only [Option.some.injEq, Prod.mk.injEq] at H
 obtain ⟨rfl, rfl⟩ := H
 go_enter Tryd.func87, Tryd.ntmps87
 go_wp2_with (first | ((with_reducible refine gate_dst (N := 1) rfl ?_); refine box_event ?hg (N := 1) ?hd (cs := #[.int .i64 a0_0, .int .i64 a0_1]) (t := 38) ?hr ?_; (case hd => rfl); (case hg => rfl); (case hr => first | (go_simp; done) | (go_simp; rfl)); intro gb351 hg w3 hbox hb; have n0_ := kW HB hb; have n1_ := Aside0.mk (hbox); have n2_ := Aside0.mk ((by rw [hg]; exact (below_size (bS HB)) : w.heap.size ≤ gb351)); have n3_ := Aside0.mk ((by rw [hg]; exact (below_size (bS HB)) : w.heap.size ≤ gb351)); clear HB; have HB := n0_; have BK351 := n1_; have GW351 := n2_; have GE351 := n3_; clear n0_ n1_ n2_ n3_; clear hb hbox hg) | ((with_reducible refine gate_dst (N := 2) rfl ?_); refine box_event ?hg (N := 2) ?hd (cs := #[.int .i64 0, .int .i64 0]) (t := 38) ?hr ?_; (case hd => rfl); (case hg => rfl); (case hr => first | (go_simp; done) | (go_simp; rfl)); intro gb352 hg w4 hbox hb; have n0_ := kB BK351 hb; have n1_ := kW HB hb; have n2_ := Aside0.mk (hbox); have n3_ := Aside0.mk ((by rw [hg]; exact (below_size (bS HB)) : w.heap.size ≤ gb352)); have n4_ := Aside0.mk ((by rw [hg]; exact (below_size (bS HB)) : w.heap.size ≤ gb352)); have n5_ := Aside0.mk ((by rw [hg]; exact Nat.ne_of_lt (blk_lt (bkS BK351)) : gb351 ≠ gb352)); have n6_ := Aside0.mk ((by rw [hg]; exact Nat.ne_of_gt (blk_lt (bkS BK351)) : gb352 ≠ gb351)); clear BK351; clear HB; have BK351 := n0_; have HB := n1_; have BK352 := n2_; have GW352 := n3_; have GE352 := n4_; have NB351_352 := n5_; have NB352_351 := n6_; clear n0_ n1_ n2_ n3_ n4_ n5_ n6_; clear hb hbox hg; have hnb5 := NB351_352.out; have hnc5 := NB352_351.out; have hcz6_0 := cz0 BK351; have hcz6_1 := cz1 BK351; have hfz6_0 := fz BK351 0; have hfz6_1 := fz BK351 1) | ((with_reducible refine gate_callee (f := 23) rfl ?_); refine goesL_ (some 7) rfl rfl Tryd.func23 (by kernel_rfl) rfl #[.int .i64 a0_0, .int .i64 a0_1] rfl mS ?_; (with_reducible refine (gimbalref02_Of.calls a0_0 a0_1 t353 t354 _ A2.out).mono ?_); rintro e w7 ⟨rfl, hb⟩; refine ⟨_, rfl, ?_⟩; replace BK351 := kB BK351 hb; replace BK352 := kB BK352 hb; replace HB := kW HB hb; (try clear hb); (try clear hb2); (try clear hk); (try clear hi); have hcz8_0 := cz0 BK352; have hcz8_1 := cz1 BK352; have hfz8_0 := fz BK352 0; have hfz8_1 := fz BK352 1))
 refine bodyPost_ret (results_cell_row rfl _ _ gb352 38 #[.int .i64 t353, .int .i64 t354] (0, 0) _ rfl (by (with_reducible repeat (first | refine b1 ?_ _ | refine b2 ?_ | refine b3 ?_ _)); refine blk_put (cs := #[.int .i64 t353, .int .i64 0]) ?_ 1 _ rfl; (with_reducible repeat (first | refine b1 ?_ _ | refine b2 ?_ | refine b3 ?_ _)); refine blk_put (cs := #[.int .i64 0, .int .i64 0]) ?_ 0 _ rfl; (with_reducible repeat (first | refine b1 ?_ _ | refine b2 ?_ | refine b3 ?_ _)); exact BK352.out) Tryd.underlying38 rfl (by kernel_rfl)) rfl ?_
 exact ⟨eS, bS HB⟩

def gimbalref02_None.f (a0_0 : Int) (a0_1 : Int) : Option (Bool) := some (decide (a0_0 > a0_1))
set_option maxHeartbeats 8000000 in
set_option maxRecDepth 100000 in
theorem gimbalref02_None.calls (a0_0 : Int) (a0_1 : Int) (r : Bool) (w : World) (h : gimbalref02_None.f a0_0 a0_1 = some r) :
  Calls Tryd.prog 78 #[.agg #[.int .i64 a0_0, .int .i64 a0_1]] w fun e w' => e = .returned (.bool r) ∧ Below w.heap.size w w' := by
 have hu38 := Tryd.underlying38
 have HB := Aside0.mk (Below.refl w.heap.size w)
 have H : (some (decide (a0_0 > a0_1))) = some r := h
 clear h
 obtain rfl := Option.some.inj H
 go_enter Tryd.func78, Tryd.ntmps78
 go_wp2_with (first | ((with_reducible refine gate_dst (N := 1) rfl ?_); refine box_event ?hg (N := 1) ?hd (cs := #[.int .i64 a0_0, .int .i64 a0_1]) (t := 38) ?hr ?_; (case hd => rfl); (case hg => rfl); (case hr => first | (go_simp; done) | (go_simp; rfl)); intro gb358 hg w2 hbox hb; have n0_ := kW HB hb; have n1_ := Aside0.mk (hbox); have n2_ := Aside0.mk ((by rw [hg]; exact (below_size (bS HB)) : w.heap.size ≤ gb358)); have n3_ := Aside0.mk ((by rw [hg]; exact (below_size (bS HB)) : w.heap.size ≤ gb358)); clear HB; have HB := n0_; have BK358 := n1_; have GW358 := n2_; have GE358 := n3_; clear n0_ n1_ n2_ n3_; clear hb hbox hg; have hcz3_0 := cz0 BK358; have hcz3_1 := cz1 BK358; have hfz3_0 := fz BK358 0; have hfz3_1 := fz BK358 1))
 go_ret
 exact ⟨eS, bS HB⟩

def gimbalref02_less.f (a0 : Int) (a1 : Int) : Option (Int) := if a0 < a1 then (some a0) else (some a1)
set_option maxHeartbeats 8000000 in
set_option maxRecDepth 100000 in
theorem gimbalref02_less.calls (a0 : Int) (a1 : Int) (r : Int) (w : World) (h : gimbalref02_less.f a0 a1 = some r) :
  Calls Tryd.prog 88 #[.int .i64 a0, .int .i64 a1] w fun e w' => e = .returned (.int .i64 r) ∧ Drawn0 w w' := by
 have H : (if a0 < a1 then (some a0) else (some a1)) = some r := h
 clear h
 by_cases c3 : a0 < a1
 ·
  rw [if_pos c3] at H
  have c3b0 : decide (a0 < a1) = true := decide_eq_true c3
  clear c3
  obtain rfl := Option.some.inj H
  go_enter Tryd.func88, Tryd.ntmps88
  go_wp2
  go_ret
  exact ⟨by first | rfl | (simp; done) | (simp [*]; done), by repeat (first | exact Drawn0.refl _ | apply Drawn0.step)⟩
 ·
  rw [if_neg c3] at H
  have c3b0 : decide (a0 < a1) = false := decide_eq_false c3
  clear c3
  obtain rfl := Option.some.inj H
  go_enter Tryd.func88, Tryd.ntmps88
  go_wp2
  go_ret
  exact ⟨by first | rfl | (simp; done) | (simp [*]; done), by repeat (first | exact Drawn0.refl _ | apply Drawn0.step)⟩

def gimbalref02_more.f (a0 : Int) (a1 : Int) : Option (Int) := if a0 > a1 then (some a0) else (some a1)
set_option maxHeartbeats 8000000 in
set_option maxRecDepth 100000 in
theorem gimbalref02_more.calls (a0 : Int) (a1 : Int) (r : Int) (w : World) (h : gimbalref02_more.f a0 a1 = some r) :
  Calls Tryd.prog 89 #[.int .i64 a0, .int .i64 a1] w fun e w' => e = .returned (.int .i64 r) ∧ Drawn0 w w' := by
 have H : (if a0 > a1 then (some a0) else (some a1)) = some r := h
 clear h
 by_cases c3 : a0 > a1
 ·
  rw [if_pos c3] at H
  have c3b0 : decide (a1 < a0) = true := decide_eq_true c3
  clear c3
  obtain rfl := Option.some.inj H
  go_enter Tryd.func89, Tryd.ntmps89
  go_wp2
  go_ret
  exact ⟨by first | rfl | (simp; done) | (simp [*]; done), by repeat (first | exact Drawn0.refl _ | apply Drawn0.step)⟩
 ·
  rw [if_neg c3] at H
  have c3b0 : decide (a1 < a0) = false := decide_eq_false c3
  clear c3
  obtain rfl := Option.some.inj H
  go_enter Tryd.func89, Tryd.ntmps89
  go_wp2
  go_ret
  exact ⟨by first | rfl | (simp; done) | (simp [*]; done), by repeat (first | exact Drawn0.refl _ | apply Drawn0.step)⟩

def gimbalref02_Join.f (a0_0 : Int) (a0_1 : Int) (a1_0 : Int) (a1_1 : Int) : Option (Int × Int) := (gimbalref02_norm.f a0_0 a0_1).bind fun bt623 => ((gimbalref02_norm.f a1_0 a1_1).bind fun bt625 => ((gimbalref02_None.f bt623.1 bt623.2).bind fun t627 => (if t627 = true then (some (bt625.1, bt625.2)) else ((gimbalref02_None.f bt625.1 bt625.2).bind fun t628 => (if t628 = true then (some (bt623.1, bt623.2)) else ((gimbalref02_less.f bt623.1 bt625.1).bind fun t629 => ((gimbalref02_more.f bt623.2 bt625.2).bind fun t630 => (some (t629, t630)))))))))
def gimbalref02_Join.T7 : Bool × List (List Nat × List Nat) := (true, [([], []), ([0], [0]), ([], []), ([2], [2]), ([1, 3], [1, 3]), ([], []), ([5], [5]), ([], []), ([7], [7]), ([6, 8, 4], [6, 8]), ([4, 9], [4, 9]), ([10, 9, 0, 1, 2, 3, 4, 5, 6, 7, 8, 9, 10], [10])])
def gimbalref02_Join.B7 : List Nat := [0, 1, 0, 4, 15, 0, 32, 0, 128, 511, 1023, 2047]
theorem gimbalref02_Join.tab7 : rtab .any (opsOf Tryd.f48 7) = gimbalref02_Join.T7 := by kernel_rfl
theorem gimbalref02_Join.bits7 : waitsOk gimbalref02_Join.T7.2 gimbalref02_Join.B7 = true := by kernel_rfl
set_option maxHeartbeats 8000000 in
set_option maxRecDepth 100000 in
theorem gimbalref02_Join.calls (a0_0 : Int) (a0_1 : Int) (a1_0 : Int) (a1_1 : Int) (r1 : Int) (r2 : Int) (w : World) (h : gimbalref02_Join.f a0_0 a0_1 a1_0 a1_1 = some (r1, r2)) :
  Calls Tryd.prog 48 #[.agg #[.int .i64 a0_0, .int .i64 a0_1], .agg #[.int .i64 a1_0, .int .i64 a1_1]] w fun e w' => e = .returned (.agg #[.int .i64 r1, .int .i64 r2]) ∧ Below w.heap.size w w' := by
 have hu38 := Tryd.underlying38
 have HB := Aside0.mk (Below.refl w.heap.size w)
 have H : ((gimbalref02_norm.f a0_0 a0_1).bind fun bt623 => ((gimbalref02_norm.f a1_0 a1_1).bind fun bt625 => ((gimbalref02_None.f bt623.1 bt623.2).bind fun t627 => (if t627 = true then (some (bt625.1, bt625.2)) else ((gimbalref02_None.f bt625.1 bt625.2).bind fun t628 => (if t628 = true then (some (bt623.1, bt623.2)) else ((gimbalref02_less.f bt623.1 bt625.1).bind fun t629 => ((gimbalref02_more.f bt623.2 bt625.2).bind fun t630 => (some (t629, t630)))))))))) = some (r1, r2) := h
 clear h
 replace H := Option.bind_eq_some_iff.mp H
 obtain ⟨⟨t623, t624⟩, A30, H⟩ := H
 replace H : ((gimbalref02_norm.f a1_0 a1_1).bind fun bt625 => ((gimbalref02_None.f t623 t624).bind fun t627 => (if t627 = true then (some (bt625.1, bt625.2)) else ((gimbalref02_None.f bt625.1 bt625.2).bind fun t628 => (if t628 = true then (some (t623, t624)) else ((gimbalref02_less.f t623 bt625.1).bind fun t629 => ((gimbalref02_more.f t624 bt625.2).bind fun t630 => (some (t629, t630))))))))) = some (r1, r2) := H
 have A3 := Aside0.mk A30
 clear A30
 replace H := Option.bind_eq_some_iff.mp H
 obtain ⟨⟨t625, t626⟩, A40, H⟩ := H
 replace H : ((gimbalref02_None.f t623 t624).bind fun t627 => (if t627 = true then (some (t625, t626)) else ((gimbalref02_None.f t625 t626).bind fun t628 => (if t628 = true then (some (t623, t624)) else ((gimbalref02_less.f t623 t625).bind fun t629 => ((gimbalref02_more.f t624 t626).bind fun t630 => (some (t629, t630)))))))) = some (r1, r2) := H
 have A4 := Aside0.mk A40
 clear A40
 replace H := Option.bind_eq_some_iff.mp H
 obtain ⟨t627, A50, H⟩ := H
 replace H : (if t627 = true then (some (t625, t626)) else ((gimbalref02_None.f t625 t626).bind fun t628 => (if t628 = true then (some (t623, t624)) else ((gimbalref02_less.f t623 t625).bind fun t629 => ((gimbalref02_more.f t624 t626).bind fun t630 => (some (t629, t630))))))) = some (r1, r2) := H
 have A5 := Aside0.mk A50
 clear A50
 by_cases c6 : t627 = true
 ·
  subst c6
  have H1 : (some (t625, t626)) = some (r1, r2) := by rw [if_pos rfl] at H; exact H
  clear H
  have H := H1
  clear H1
  simp only [Option.some.injEq, Prod.mk.injEq] at H
  obtain ⟨rfl, rfl⟩ := H
  go_enter Tryd.func48, Tryd.ntmps48
  go_wp2_with (first | ((with_reducible refine gate_dst (N := 2) rfl ?_); refine box_event ?hg (N := 2) ?hd (cs := #[.int .i64 a0_0, .int .i64 a0_1]) (t := 38) ?hr ?_; (case hd => rfl); (case hg => rfl); (case hr => first | (go_simp; done) | (go_simp; rfl)); intro gb620 hg w7 hbox hb; have n0_ := kW HB hb; have n1_ := Aside0.mk (hbox); have n2_ := Aside0.mk ((by rw [hg]; exact (below_size (bS HB)) : w.heap.size ≤ gb620)); have n3_ := Aside0.mk ((by rw [hg]; exact (below_size (bS HB)) : w.heap.size ≤ gb620)); clear HB; have HB := n0_; have BK620 := n1_; have GW620 := n2_; have GE620 := n3_; clear n0_ n1_ n2_ n3_; clear hb hbox hg) | ((with_reducible refine gate_dst (N := 3) rfl ?_); refine box_event ?hg (N := 3) ?hd (cs := #[.int .i64 a1_0, .int .i64 a1_1]) (t := 38) ?hr ?_; (case hd => rfl); (case hg => rfl); (case hr => first | (go_simp; done) | (go_simp; rfl)); intro gb621 hg w8 hbox hb; have n0_ := kB BK620 hb; have n1_ := kW HB hb; have n2_ := Aside0.mk (hbox); have n3_ := Aside0.mk ((by rw [hg]; exact (below_size (bS HB)) : w.heap.size ≤ gb621)); have n4_ := Aside0.mk ((by rw [hg]; exact (below_size (bS HB)) : w.heap.size ≤ gb621)); have n5_ := Aside0.mk ((by rw [hg]; exact Nat.ne_of_lt (blk_lt (bkS BK620)) : gb620 ≠ gb621)); have n6_ := Aside0.mk ((by rw [hg]; exact Nat.ne_of_gt (blk_lt (bkS BK620)) : gb621 ≠ gb620)); clear BK620; clear HB; have BK620 := n0_; have HB := n1_; have BK621 := n2_; have GW621 := n3_; have GE621 := n4_; have NB620_621 := n5_; have NB621_620 := n6_; clear n0_ n1_ n2_ n3_ n4_ n5_ n6_; clear hb hbox hg) | ((with_reducible refine gate_dst (N := 4) rfl ?_); refine box_event ?hg (N := 4) ?hd (cs := #[.int .i64 0, .int .i64 0]) (t := 38) ?hr ?_; (case hd => rfl); (case hg => rfl); (case hr => first | (go_simp; done) | (go_simp; rfl)); intro gb622 hg w9 hbox hb; have n0_ := kB BK620 hb; have n1_ := kB BK621 hb; have n2_ := kW HB hb; have n3_ := Aside0.mk (hbox); have n4_ := Aside0.mk ((by rw [hg]; exact (below_size (bS HB)) : w.heap.size ≤ gb622)); have n5_ := Aside0.mk ((by rw [hg]; exact (below_size (bS HB)) : w.heap.size ≤ gb622)); have n6_ := Aside0.mk ((by rw [hg]; exact Nat.ne_of_lt (blk_lt (bkS BK620)) : gb620 ≠ gb622)); have n7_ := Aside0.mk ((by rw [hg]; exact Nat.ne_of_gt (blk_lt (bkS BK620)) : gb622 ≠ gb620)); have n8_ := Aside0.mk ((by rw [hg]; exact Nat.ne_of_lt (blk_lt (bkS BK621)) : gb621 ≠ gb622)); have n9_ := Aside0.mk ((by rw [hg]; exact Nat.ne_of_gt (blk_lt (bkS BK621)) : gb622 ≠ gb621)); clear BK620; clear BK621; clear HB; have BK620 := n0_; have BK621 := n1_; have HB := n2_; have BK622 := n3_; have GW622 := n4_; have GE622 := n5_; have NB620_622 := n6_; have NB622_620 := n7_; have NB621_622 := n8_; have NB622_621 := n9_; clear n0_ n1_ n2_ n3_ n4_ n5_ n6_ n7_ n8_ n9_; clear hb hbox hg; have hnb10 := NB620_621.out; have hnc10 := NB621_620.out; have hnb11 := NB620_622.out; have hnc11 := NB622_620.out; have hcz12_0 := cz0 BK620; have hcz12_1 := cz1 BK620; have hfz12_0 := fz BK620 0; have hfz12_1 := fz BK620 1) | ((with_reducible refine gate_callee (f := 87) rfl ?_); refine goesL_ (some 6) rfl rfl Tryd.func87 (by kernel_rfl) rfl #[.agg #[.int .i64 a0_0, .int .i64 a0_1]] rfl mS ?_; (with_reducible refine (gimbalref02_norm.calls a0_0 a0_1 t623 t624 _ A3.out).mono ?_); rintro e w13 ⟨rfl, hb⟩; refine ⟨_, rfl, ?_⟩; replace BK620 := kB BK620 hb; replace BK621 := kB BK621 hb; replace BK622 := kB BK622 hb; replace HB := kW HB hb; (try clear hb); (try clear hb2); (try clear hk); (try clear hi); have hcz14_0 := cz0 BK620; have hcz14_1 := cz1 BK620; have hfz14_0 := fz BK620 0; have hfz14_1 := fz BK620 1; have hnb15 := NB621_622.out; have hnc15 := NB622_621.out; have hcz16_0 := cz0 BK621; have hcz16_1 := cz1 BK621; have hfz16_0 := fz BK621 0; have hfz16_1 := fz BK621 1) | ((with_reducible refine gate_callee (f := 87) rfl ?_); refine goesL_ (some 8) rfl rfl Tryd.func87 (by kernel_rfl) rfl #[.agg #[.int .i64 a1_0, .int .i64 a1_1]] rfl mS ?_; (with_reducible refine (gimbalref02_norm.calls a1_0 a1_1 t625 t626 _ A4.out).mono ?_); rintro e w17 ⟨rfl, hb⟩; refine ⟨_, rfl, ?_⟩; have n0_ := Aside0.mk (blk_below (g := gb620) (o := .cells #[.int .i64 t623, .int .i64 t624] 38 (0, 0)) (by (with_reducible repeat (first | refine b1 ?_ _ | refine b2 ?_ | refine b3 ?_ _)); refine blk_put (cs := #[.int .i64 t623, .int .i64 a0_1]) ?_ 1 _ rfl; (with_reducible repeat (first | refine b1 ?_ _ | refine b2 ?_ | refine b3 ?_ _)); refine blk_put (cs := #[.int .i64 a0_0, .int .i64 a0_1]) ?_ 0 _ rfl; (with_reducible repeat (first | refine b1 ?_ _ | refine b2 ?_ | refine b3 ?_ _)); exact BK620.out) hb); have n1_ := kB BK621 hb; have n2_ := kB BK622 hb; have n3_ := kW HB hb; clear BK620; clear BK621; clear BK622; clear HB; have BK620 := n0_; have BK621 := n1_; have BK622 := n2_; have HB := n3_; clear n0_ n1_ n2_ n3_; (try clear hb); (try clear hb2); (try clear hk); (try clear hi); have hcz18_0 := cz0 BK621; have hcz18_1 := cz1 BK621; have hfz18_0 := fz BK621 0; have hfz18_1 := fz BK621 1; have hcz19_0 := cz0 BK620; have hcz19_1 := cz1 BK620; have hfz19_0 := fz BK620 0; have hfz19_1 := fz BK620 1) | ((with_reducible refine gate_callee (f := 78) rfl ?_); refine goesL_ (some 10) rfl rfl Tryd.func78 (by kernel_rfl) rfl #[.agg #[.int .i64 t623, .int .i64 t624]] rfl mS ?_; (with_reducible refine (gimbalref02_None.calls t623 t624 true _ A5.out).mono ?_); rintro e w20 ⟨rfl, hb⟩; refine ⟨_, rfl, ?_⟩; have n0_ := kB BK620 hb; have n1_ := Aside0.mk (blk_below (g := gb621) (o := .cells #[.int .i64 t625, .int .i64 t626] 38 (0, 0)) (by (with_reducible repeat (first | refine b1 ?_ _ | refine b2 ?_ | refine b3 ?_ _)); refine blk_put (cs := #[.int .i64 t625, .int .i64 a1_1]) ?_ 1 _ rfl; (with_reducible repeat (first | refine b1 ?_ _ | refine b2 ?_ | refine b3 ?_ _)); refine blk_put (cs := #[.int .i64 a1_0, .int .i64 a1_1]) ?_ 0 _ rfl; (with_reducible repeat (first | refine b1 ?_ _ | refine b2 ?_ | refine b3 ?_ _)); exact BK621.out) hb); have n2_ := kB BK622 hb; have n3_ := kW HB hb; clear BK620; clear BK621; clear BK622; clear HB; have BK620 := n0_; have BK621 := n1_; have BK622 := n2_; have HB := n3_; clear n0_ n1_ n2_ n3_; (try clear hb); (try clear hb2); (try clear hk); (try clear hi); have hcz21_0 := cz0 BK621; have hcz21_1 := cz1 BK621; have hfz21_0 := fz BK621 0; have hfz21_1 := fz BK621 1; have hcz22_0 := cz0 BK622; have hcz22_1 := cz1 BK622; have hfz22_0 := fz BK622 0; have hfz22_1 := fz BK622 1))
  refine bodyPost_ret (results_cell_row rfl _ _ gb622 38 #[.int .i64 t625, .int .i64 t626] (0, 0) _ rfl (by (with_reducible repeat (first | refine b1 ?_ _ | refine b2 ?_ | refine b3 ?_ _)); refine blk_put (cs := #[.int .i64 t625, .int .i64 0]) ?_ 1 _ rfl; (with_reducible repeat (first | refine b1 ?_ _ | refine b2 ?_ | refine b3 ?_ _)); refine blk_put (cs := #[.int .i64 0, .int .i64 0]) ?_ 0 _ rfl; (with_reducible repeat (first | refine b1 ?_ _ | refine b2 ?_ | refine b3 ?_ _)); exact BK622.out) Tryd.underlying38 rfl (by kernel_rfl)) rfl ?_
  exact ⟨eS, bS HB⟩
 ·
  replace c6 := Bool.eq_false_iff.mpr c6
  subst c6
  have H1 : ((gimbalref02_None.f t625 t626).bind fun t628 => (if t628 = true then (some (t623, t624)) else ((gimbalref02_less.f t623 t625).bind fun t629 => ((gimbalref02_more.f t624 t626).bind fun t630 => (some (t629, t630)))))) = some (r1, r2) := by rw [if_neg (show ¬ (false = true) by decide)] at H; exact H
  clear H
  have H := H1
  clear H1
  replace H := Option.bind_eq_some_iff.mp H
  obtain ⟨t628, A230, H⟩ := H
  replace H : (if t628 = true then (some (t623, t624)) else ((gimbalref02_less.f t623 t625).bind fun t629 => ((gimbalref02_more.f t624 t626).bind fun t630 => (some (t629, t630))))) = some (r1, r2) := H
  have A23 := Aside0.mk A230
  clear A230
  by_cases c24 : t628 = true
  ·
   subst c24
   have H1 : (some (t623, t624)) = some (r1, r2) := by rw [if_pos rfl] at H; exact H
   clear H
   have H := H1
   clear H1
   simp only [Option.some.injEq, Prod.mk.injEq] at H
   obtain ⟨rfl, rfl⟩ := H
   go_enter Tryd.func48, Tryd.ntmps48
   go_wp2_with (first | ((with_reducible refine gate_dst (N := 2) rfl ?_); refine box_event ?hg (N := 2) ?hd (cs := #[.int .i64 a0_0, .int .i64 a0_1]) (t := 38) ?hr ?_; (case hd => rfl); (case hg => rfl); (case hr => first | (go_simp; done) | (go_simp; rfl)); intro gb620 hg w25 hbox hb; have n0_ := kW HB hb; have n1_ := Aside0.mk (hbox); have n2_ := Aside0.mk ((by rw [hg]; exact (below_size (bS HB)) : w.heap.size ≤ gb620)); have n3_ := Aside0.mk ((by rw [hg]; exact (below_size (bS HB)) : w.heap.size ≤ gb620)); clear HB; have HB := n0_; have BK620 := n1_; have GW620 := n2_; have GE620 := n3_; clear n0_ n1_ n2_ n3_; clear hb hbox hg) | ((with_reducible refine gate_dst (N := 3) rfl ?_); refine box_event ?hg (N := 3) ?hd (cs := #[.int .i64 a1_0, .int .i64 a1_1]) (t := 38) ?hr ?_; (case hd => rfl); (case hg => rfl); (case hr => first | (go_simp; done) | (go_simp; rfl)); intro gb621 hg w26 hbox hb; have n0_ := kB BK620 hb; have n1_ := kW HB hb; have n2_ := Aside0.mk (hbox); have n3_ := Aside0.mk ((by rw [hg]; exact (below_size (bS HB)) : w.heap.size ≤ gb621)); have n4_ := Aside0.mk ((by rw [hg]; exact (below_size (bS HB)) : w.heap.size ≤ gb621)); have n5_ := Aside0.mk ((by rw [hg]; exact Nat.ne_of_lt (blk_lt (bkS BK620)) : gb620 ≠ gb621)); have n6_ := Aside0.mk ((by rw [hg]; exact Nat.ne_of_gt (blk_lt (bkS BK620)) : gb621 ≠ gb620)); clear BK620; clear HB; have BK620 := n0_; have HB := n1_; have BK621 := n2_; have GW621 := n3_; have GE621 := n4_; have NB620_621 := n5_; have NB621_620 := n6_; clear n0_ n1_ n2_ n3_ n4_ n5_ n6_; clear hb hbox hg) | ((with_reducible refine gate_dst (N := 4) rfl ?_); refine box_event ?hg (N := 4) ?hd (cs := #[.int .i64 0, .int .i64 0]) (t := 38) ?hr ?_; (case hd => rfl); (case hg => rfl); (case hr => first | (go_simp; done) | (go_simp; rfl)); intro gb622 hg w27 hbox hb; have n0_ := kB BK620 hb; have n1_ := kB BK621 hb; have n2_ := kW HB hb; have n3_ := Aside0.mk (hbox); have n4_ := Aside0.mk ((by rw [hg]; exact (below_size (bS HB)) : w.heap.size ≤ gb622)); have n5_ := Aside0.mk ((by rw [hg]; exact (below_size (bS HB)) : w.heap.size ≤ gb622)); have n6_ := Aside0.mk ((by rw [hg]; exact Nat.ne_of_lt (blk_lt (bkS BK620)) : gb620 ≠ gb622)); have n7_ := Aside0.mk ((by rw [hg]; exact Nat.ne_of_gt (blk_lt (bkS BK620)) : gb622 ≠ gb620)); have n8_ := Aside0.mk ((by rw [hg]; exact Nat.ne_of_lt (blk_lt (bkS BK621)) : gb621 ≠ gb622)); have n9_ := Aside0.mk ((by rw [hg]; exact Nat.ne_of_gt (blk_lt (bkS BK621)) : gb622 ≠ gb621)); clear BK620; clear BK621; clear HB; have BK620 := n0_; have BK621 := n1_; have HB := n2_; have BK622 := n3_; have GW622 := n4_; have GE622 := n5_; have NB620_622 := n6_; have NB622_620 := n7_; have NB621_622 := n8_; have NB622_621 := n9_; clear n0_ n1_ n2_ n3_ n4_ n5_ n6_ n7_ n8_ n9_; clear hb hbox hg; have hnb28 := NB620_621.out; have hnc28 := NB621_620.out; have hnb29 := NB620_622.out; have hnc29 := NB622_620.out; have hcz30_0 := cz0 BK620; have hcz30_1 := cz1 BK620; have hfz30_0 := fz BK620 0; have hfz30_1 := fz BK620 1) | ((with_reducible refine gate_callee (f := 87) rfl ?_); refine goesL_ (some 6) rfl rfl Tryd.func87 (by kernel_rfl) rfl #[.agg #[.int .i64 a0_0, .int .i64 a0_1]] rfl mS ?_; (with_reducible refine (gimbalref02_norm.calls a0_0 a0_1 t623 t624 _ A3.out).mono ?_); rintro e w31 ⟨rfl, hb⟩; refine ⟨_, rfl, ?_⟩; replace BK620 := kB BK620 hb; replace BK621 := kB BK621 hb; replace BK622 := kB BK622 hb; replace HB := kW HB hb; (try clear hb); (try clear hb2); (try clear hk); (try clear hi); have hcz32_0 := cz0 BK620; have hcz32_1 := cz1 BK620; have hfz32_0 := fz BK620 0; have hfz32_1 := fz BK620 1; have hnb33 := NB621_622.out; have hnc33 := NB622_621.out; have hcz34_0 := cz0 BK621; have hcz34_1 := cz1 BK621; have hfz34_0 := fz BK621 0; have hfz34_1 := fz BK621 1) | ((with_reducible refine gate_callee (f := 87) rfl ?_); refine goesL_ (some 8) rfl rfl Tryd.func87 (by kernel_rfl) rfl #[.agg #[.int .i64 a1_0, .int .i64 a1_1]] rfl mS ?_; (with_reducible refine (gimbalref02_norm.calls a1_0 a1_1 t625 t626 _ A4.out).mono ?_); rintro e w35 ⟨rfl, hb⟩; refine ⟨_, rfl, ?_⟩; have n0_ := Aside0.mk (blk_below (g := gb620) (o := .cells #[.int .i64 t623, .int .i64 t624] 38 (0, 0)) (by (with_reducible repeat (first | refine b1 ?_ _ | refine b2 ?_ | refine b3 ?_ _)); refine blk_put (cs := #[.int .i64 t623, .int .i64 a0_1]) ?_ 1 _ rfl; (with_reducible repeat (first | refine b1 ?_ _ | refine b2 ?_ | refine b3 ?_ _)); refine blk_put (cs := #[.int .i64 a0_0, .int .i64 a0_1]) ?_ 0 _ rfl; (with_reducible repeat (first | refine b1 ?_ _ | refine b2 ?_ | refine b3 ?_ _)); exact BK620.out) hb); have n1_ := kB BK621 hb; have n2_ := kB BK622 hb; have n3_ := kW HB hb; clear BK620; clear BK621; clear BK622; clear HB; have BK620 := n0_; have BK621 := n1_; have BK622 := n2_; have HB := n3_; clear n0_ n1_ n2_ n3_; (try clear hb); (try clear hb2); (try clear hk); (try clear hi); have hcz36_0 := cz0 BK621; have hcz36_1 := cz1 BK621; have hfz36_0 := fz BK621 0; have hfz36_1 := fz BK621 1; have hcz37_0 := cz0 BK620; have hcz37_1 := cz1 BK620; have hfz37_0 := fz BK620 0; have hfz37_1 := fz BK620 1) | ((with_reducible refine gate_callee (f := 78) rfl ?_); refine goesL_ (some 10) rfl rfl Tryd.func78 (by kernel_rfl) rfl #[.agg #[.int .i64 t623, .int .i64 t624]] rfl mS ?_; (with_reducible refine (gimbalref02_None.calls t623 t624 false _ A5.out).mono ?_); rintro e w38 ⟨rfl, hb⟩; refine ⟨_, rfl, ?_⟩; have n0_ := kB BK620 hb; have n1_ := Aside0.mk (blk_below (g := gb621) (o := .cells #[.int .i64 t625, .int .i64 t626] 38 (0, 0)) (by (with_reducible repeat (first | refine b1 ?_ _ | refine b2 ?_ | refine b3 ?_ _)); refine blk_put (cs := #[.int .i64 t625, .int .i64 a1_1]) ?_ 1 _ rfl; (with_reducible repeat (first | refine b1 ?_ _ | refine b2 ?_ | refine b3 ?_ _)); refine blk_put (cs := #[.int .i64 a1_0, .int .i64 a1_1]) ?_ 0 _ rfl; (with_reducible repeat (first | refine b1 ?_ _ | refine b2 ?_ | refine b3 ?_ _)); exact BK621.out) hb); have n2_ := kB BK622 hb; have n3_ := kW HB hb; clear BK620; clear BK621; clear BK622; clear HB; have BK620 := n0_; have BK621 := n1_; have BK622 := n2_; have HB := n3_; clear n0_ n1_ n2_ n3_; (try clear hb); (try clear hb2); (try clear hk); (try clear hi); have hcz39_0 := cz0 BK621; have hcz39_1 := cz1 BK621; have hfz39_0 := fz BK621 0; have hfz39_1 := fz BK621 1) | ((with_reducible refine gate_callee (f := 78) rfl ?_); refine goesL_ (some 13) rfl rfl Tryd.func78 (by kernel_rfl) rfl #[.agg #[.int .i64 t625, .int .i64 t626]] rfl mS ?_; (with_reducible refine (gimbalref02_None.calls t625 t626 true _ A23.out).mono ?_); rintro e w40 ⟨rfl, hb⟩; refine ⟨_, rfl, ?_⟩; replace BK620 := kB BK620 hb; replace BK621 := kB BK621 hb; replace BK622 := kB BK622 hb; replace HB := kW HB hb; (try clear hb); (try clear hb2); (try clear hk); (try clear hi); have hcz41_0 := cz0 BK620; have hcz41_1 := cz1 BK620; have hfz41_0 := fz BK620 0; have hfz41_1 := fz BK620 1; have hcz42_0 := cz0 BK622; have hcz42_1 := cz1 BK622; have hfz42_0 := fz BK622 0; have hfz42_1 := fz BK622 1))
   refine bodyPost_ret (results_cell_row rfl _ _ gb622 38 #[.int .i64 t623, .int .i64 t624] (0, 0) _ rfl (by (with_reducible repeat (first | refine b1 ?_ _ | refine b2 ?_ | refine b3 ?_ _)); refine blk_put (cs := #[.int .i64 t623, .int .i64 0]) ?_ 1 _ rfl; (with_reducible repeat (first | refine b1 ?_ _ | refine b2 ?_ | refine b3 ?_ _)); refine blk_put (cs := #[.int .i64 0, .int .i64 0]) ?_ 0 _ rfl; (with_reducible repeat (first | refine b1 ?_ _ | refine b2 ?_ | refine b3 ?_ _)); exact BK622.out) Tryd.underlying38 rfl (by kernel_rfl)) rfl ?_
   exact ⟨eS, bS HB⟩
  ·
   replace c24 := Bool.eq_false_iff.mpr c24
   subst c24
   have H1 : ((gimbalref02_less.f t623 t625).bind fun t629 => ((gimbalref02_more.f t624 t626).bind fun t630 => (some (t629, t630)))) = some (r1, r2) := by rw [if_neg (show ¬ (false = true) by decide)] at H; exact H
   clear H
   have H := H1
   clear H1
   replace H := Option.bind_eq_some_iff.mp H
   obtain ⟨t629, A430, H⟩ := H
   replace H : ((gimbalref02_more.f t624 t626).bind fun t630 => (some (t629, t630))) = some (r1, r2) := H
   have A43 := Aside0.mk A430
   clear A430
   replace H := Option.bind_eq_some_iff.mp H
   obtain ⟨t630, A440, H⟩ := H
   replace H : (some (t629, t630)) = some (r1, r2) := H
   have A44 := Aside0.mk A440
   clear A440
   simp only [Option.some.injEq, Prod.mk.injEq] at H
   obtain ⟨rfl, rfl⟩ := H
   go_enter Tryd.func48, Tryd.ntmps48
   try go_wp2_with (first | ((with_reducible refine gate_dst (N := 2) rfl ?_); refine box_event ?hg (N := 2) ?hd (cs := #[.int .i64 a0_0, .int .i64 a0_1]) (t := 38) ?hr ?_; (case hd => rfl); (case hg => rfl); (case hr => first | (go_simp; done) | (go_simp; rfl)); intro gb620 hg w45 hbox hb; have n0_ := kW HB hb; have n1_ := Aside0.mk (hbox); have n2_ := Aside0.mk ((by rw [hg]; exact (below_size (bS HB)) : w.heap.size ≤ gb620)); have n3_ := Aside0.mk ((by rw [hg]; exact (below_size (bS HB)) : w.heap.size ≤ gb620)); clear HB; have HB := n0_; have BK620 := n1_; have GW620 := n2_; have GE620 := n3_; clear n0_ n1_ n2_ n3_; clear hb hbox hg) | ((with_reducible refine gate_dst (N := 3) rfl ?_); refine box_event ?hg (N := 3) ?hd (cs := #[.int .i64 a1_0, .int .i64 a1_1]) (t := 38) ?hr ?_; (case hd => rfl); (case hg => rfl); (case hr => first | (go_simp; done) | (go_simp; rfl)); intro gb621 hg w46 hbox hb; have n0_ := kB BK620 hb; have n1_ := kW HB hb; have n2_ := Aside0.mk (hbox); have n3_ := Aside0.mk ((by rw [hg]; exact (below_size (bS HB)) : w.heap.size ≤ gb621)); have n4_ := Aside0.mk ((by rw [hg]; exact (below_size (bS HB)) : w.heap.size ≤ gb621)); have n5_ := Aside0.mk ((by rw [hg]; exact Nat.ne_of_lt (blk_lt (bkS BK620)) : gb620 ≠ gb621)); have n6_ := Aside0.mk ((by rw [hg]; exact Nat.ne_of_gt (blk_lt (bkS BK620)) : gb621 ≠ gb620)); clear BK620; clear HB; have BK620 := n0_; have HB := n1_; have BK621 := n2_; have GW621 := n3_; have GE621 := n4_; have NB620_621 := n5_; have NB621_620 := n6_; clear n0_ n1_ n2_ n3_ n4_ n5_ n6_; clear hb hbox hg) | ((with_reducible refine gate_dst (N := 4) rfl ?_); refine box_event ?hg (N := 4) ?hd (cs := #[.int .i64 0, .int .i64 0]) (t := 38) ?hr ?_; (case hd => rfl); (case hg => rfl); (case hr => first | (go_simp; done) | (go_simp; rfl)); intro gb622 hg w47 hbox hb; have n0_ := kB BK620 hb; have n1_ := kB BK621 hb; have n2_ := kW HB hb; have n3_ := Aside0.mk (hbox); have n4_ := Aside0.mk ((by rw [hg]; exact (below_size (bS HB)) : w.heap.size ≤ gb622)); have n5_ := Aside0.mk ((by rw [hg]; exact (below_size (bS HB)) : w.heap.size ≤ gb622)); have n6_ := Aside0.mk ((by rw [hg]; exact Nat.ne_of_lt (blk_lt (bkS BK620)) : gb620 ≠ gb622)); have n7_ := Aside0.mk ((by rw [hg]; exact Nat.ne_of_gt (blk_lt (bkS BK620)) : gb622 ≠ gb620)); have n8_ := Aside0.mk ((by rw [hg]; exact Nat.ne_of_lt (blk_lt (bkS BK621)) : gb621 ≠ gb622)); have n9_ := Aside0.mk ((by rw [hg]; exact Nat.ne_of_gt (blk_lt (bkS BK621)) : gb622 ≠ gb621)); clear BK620; clear BK621; clear HB; have BK620 := n0_; have BK621 := n1_; have HB := n2_; have BK622 := n3_; have GW622 := n4_; have GE622 := n5_; have NB620_622 := n6_; have NB622_620 := n7_; have NB621_622 := n8_; have NB622_621 := n9_; clear n0_ n1_ n2_ n3_ n4_ n5_ n6_ n7_ n8_ n9_; clear hb hbox hg; have hnb48 := NB620_621.out; have hnc48 := NB621_620.out; have hnb49 := NB620_622.out; have hnc49 := NB622_620.out; have hcz50_0 := cz0 BK620; have hcz50_1 := cz1 BK620; have hfz50_0 := fz BK620 0; have hfz50_1 := fz BK620 1) | ((with_reducible refine gate_callee (f := 87) rfl ?_); refine goesL_ (some 6) rfl rfl Tryd.func87 (by kernel_rfl) rfl #[.agg #[.int .i64 a0_0, .int .i64 a0_1]] rfl mS ?_; (with_reducible refine (gimbalref02_norm.calls a0_0 a0_1 t623 t624 _ A3.out).mono ?_); rintro e w51 ⟨rfl, hb⟩; refine ⟨_, rfl, ?_⟩; replace BK620 := kB BK620 hb; replace BK621 := kB BK621 hb; replace BK622 := kB BK622 hb; replace HB := kW HB hb; (try clear hb); (try clear hb2); (try clear hk); (try clear hi); have hcz52_0 := cz0 BK620; have hcz52_1 := cz1 BK620; have hfz52_0 := fz BK620 0; have hfz52_1 := fz BK620 1; have hnb53 := NB621_622.out; have hnc53 := NB622_621.out; have hcz54_0 := cz0 BK621; have hcz54_1 := cz1 BK621; have hfz54_0 := fz BK621 0; have hfz54_1 := fz BK621 1) | ((with_reducible refine gate_callee (f := 87) rfl ?_); refine goesL_ (some 8) rfl rfl Tryd.func87 (by kernel_rfl) rfl #[.agg #[.int .i64 a1_0, .int .i64 a1_1]] rfl mS ?_; (with_reducible refine (gimbalref02_norm.calls a1_0 a1_1 t625 t626 _ A4.out).mono ?_); rintro e w55 ⟨rfl, hb⟩; refine ⟨_, rfl, ?_⟩; have n0_ := Aside0.mk (blk_below (g := gb620) (o := .cells #[.int .i64 t623, .int .i64 t624] 38 (0, 0)) (by (with_reducible repeat (first | refine b1 ?_ _ | refine b2 ?_ | refine b3 ?_ _)); refine blk_put (cs := #[.int .i64 t623, .int .i64 a0_1]) ?_ 1 _ rfl; (with_reducible repeat (first | refine b1 ?_ _ | refine b2 ?_ | refine b3 ?_ _)); refine blk_put (cs := #[.int .i64 a0_0, .int .i64 a0_1]) ?_ 0 _ rfl; (with_reducible repeat (first | refine b1 ?_ _ | refine b2 ?_ | refine b3 ?_ _)); exact BK620.out) hb); have n1_ := kB BK621 hb; have n2_ := kB BK622 hb; have n3_ := kW HB hb; clear BK620; clear BK621; clear BK622; clear HB; have BK620 := n0_; have BK621 := n1_; have BK622 := n2_; have HB := n3_; clear n0_ n1_ n2_ n3_; (try clear hb); (try clear hb2); (try clear hk); (try clear hi); have hcz56_0 := cz0 BK621; have hcz56_1 := cz1 BK621; have hfz56_0 := fz BK621 0; have hfz56_1 := fz BK621 1; have hcz57_0 := cz0 BK620; have hcz57_1 := cz1 BK620; have hfz57_0 := fz BK620 0; have hfz57_1 := fz BK620 1) | ((with_reducible refine gate_callee (f := 78) rfl ?_); refine goesL_ (some 10) rfl rfl Tryd.func78 (by kernel_rfl) rfl #[.agg #[.int .i64 t623, .int .i64 t624]] rfl mS ?_; (with_reducible refine (gimbalref02_None.calls t623 t624 false _ A5.out).mono ?_); rintro e w58 ⟨rfl, hb⟩; refine ⟨_, rfl, ?_⟩; have n0_ := kB BK620 hb; have n1_ := Aside0.mk (blk_below (g := gb621) (o := .cells #[.int .i64 t625, .int .i64 t626] 38 (0, 0)) (by (with_reducible repeat (first | refine b1 ?_ _ | refine b2 ?_ | refine b3 ?_ _)); refine blk_put (cs := #[.int .i64 t625, .int .i64 a1_1]) ?_ 1 _ rfl; (with_reducible repeat (first | refine b1 ?_ _ | refine b2 ?_ | refine b3 ?_ _)); refine blk_put (cs := #[.int .i64 a1_0, .int .i64 a1_1]) ?_ 0 _ rfl; (with_reducible repeat (first | refine b1 ?_ _ | refine b2 ?_ | refine b3 ?_ _)); exact BK621.out) hb); have n2_ := kB BK622 hb; have n3_ := kW HB hb; clear BK620; clear BK621; clear BK622; clear HB; have BK620 := n0_; have BK621 := n1_; have BK622 := n2_; have HB := n3_; clear n0_ n1_ n2_ n3_; (try clear hb); (try clear hb2); (try clear hk); (try clear hi); have hcz59_0 := cz0 BK621; have hcz59_1 := cz1 BK621; have hfz59_0 := fz BK621 0; have hfz59_1 := fz BK621 1) | ((with_reducible refine gate_callee (f := 78) rfl ?_); refine goesL_ (some 13) rfl rfl Tryd.func78 (by kernel_rfl) rfl #[.agg #[.int .i64 t625, .int .i64 t626]] rfl mS ?_; (with_reducible refine (gimbalref02_None.calls t625 t626 false _ A23.out).mono ?_); rintro e w60 ⟨rfl, hb⟩; refine ⟨_, rfl, ?_⟩; replace BK620 := kB BK620 hb; replace BK621 := kB BK621 hb; replace BK622 := kB BK622 hb; replace HB := kW HB hb; (try clear hb); (try clear hb2); (try clear hk); (try clear hi)))
   replace BK620 := Aside0.mk (blk_drew BK620.out)
   replace BK621 := Aside0.mk (blk_drew BK621.out)
   replace BK622 := Aside0.mk (blk_drew BK622.out)
   replace HB := Aside0.mk (below_drew1 HB.out)
   refine start_ (n := 12) (S := fun w' => w'.cell? ⟨gb620, 0, none⟩ = some (.int .i64 t623) ∧ w'.cell? ⟨gb620, 1, none⟩ = some (.int .i64 t624) ∧ w'.cell? ⟨gb621, 0, none⟩ = some (.int .i64 t625) ∧ w'.cell? ⟨gb621, 1, none⟩ = some (.int .i64 t626)) (ds := []) #[false, false, false, false, false, false, false, false, false, false, false, false] (by kernel_rfl) rfl rfl ⟨cz0 BK620, cz1 BK620, cz0 BK621, cz1 BK621⟩ (fun hHeld => ?_); refine with_tabW gimbalref02_Join.tab7 gimbalref02_Join.bits7 (fun HT_ HW_ => ?_)
   generalize w60.drew = w61 at BK620 BK621 BK622 HB hHeld ⊢
   refine pure_ (i := 0) (N := some 15) (v := ?_) (a' := ?_) #[true, false, false, false, false, false, false, false, false, false, false, false] rfl rfl (any_of HT_.out (by kernel_rfl)) (fun _ _ _ h => h) (Or.inl ⟨by rfl, ?_⟩) ?_ ?_
   rotate_left
   ·
    intro w'
    go_simp
    with_reducible rfl
   rotate_left
   ·
    simp only [Act.put, lA, lB, lC, i64_w, i32_w]
    rfl
   refine pure_ (i := 2) (N := some 17) (v := ?_) (a' := ?_) #[true, false, true, false, false, false, false, false, false, false, false, false] rfl rfl (any_of HT_.out (by kernel_rfl)) (fun _ _ _ h => h) (Or.inl ⟨by rfl, ?_⟩) ?_ ?_
   rotate_left
   ·
    intro w'
    go_simp
    with_reducible rfl
   rotate_left
   ·
    simp only [Act.put, lA, lB, lC, i64_w, i32_w]
    rfl
   refine pure_ (i := 5) (N := some 20) (v := ?_) (a' := ?_) #[true, false, true, false, false, true, false, false, false, false, false, false] rfl rfl (any_of HT_.out (by kernel_rfl)) (fun _ _ _ h => h) (Or.inl ⟨by rfl, ?_⟩) ?_ ?_
   rotate_left
   ·
    intro w'
    go_simp
    with_reducible rfl
   rotate_left
   ·
    simp only [Act.put, lA, lB, lC, i64_w, i32_w]
    rfl
   refine pure_ (i := 7) (N := some 22) (v := ?_) (a' := ?_) #[true, false, true, false, false, true, false, true, false, false, false, false] rfl rfl (any_of HT_.out (by kernel_rfl)) (fun _ _ _ h => h) (Or.inl ⟨by rfl, ?_⟩) ?_ ?_
   rotate_left
   ·
    intro w'
    go_simp
    with_reducible rfl
   rotate_left
   ·
    simp only [Act.put, lA, lB, lC, i64_w, i32_w]
    rfl
   refine take_ (i := 1) (N := some 16) (v := ?_) (a' := ?_) #[true, true, true, false, false, true, false, true, false, false, false, false] rfl rfl (take_ofW HT_.out HW_.out (by kernel_rfl)) (fun _ _ _ h => h) (Or.inl ⟨by rfl, ?_⟩) hHeld ?_ ?_
   rotate_left
   ·
    rintro w' ⟨s0, s1, s2, s3⟩
    go_simp
    with_reducible rfl
   rotate_left
   ·
    simp only [Act.put, lA, lB, lC, i64_w, i32_w]
    rfl
   refine take_ (i := 3) (N := some 18) (v := ?_) (a' := ?_) #[true, true, true, true, false, true, false, true, false, false, false, false] rfl rfl (take_ofW HT_.out HW_.out (by kernel_rfl)) (fun _ _ _ h => h) (Or.inl ⟨by rfl, ?_⟩) hHeld ?_ ?_
   rotate_left
   ·
    rintro w' ⟨s0, s1, s2, s3⟩
    go_simp
    with_reducible rfl
   rotate_left
   ·
    simp only [Act.put, lA, lB, lC, i64_w, i32_w]
    rfl
   refine take_ (i := 6) (N := some 21) (v := ?_) (a' := ?_) #[true, true, true, true, false, true, true, true, false, false, false, false] rfl rfl (take_ofW HT_.out HW_.out (by kernel_rfl)) (fun _ _ _ h => h) (Or.inl ⟨by rfl, ?_⟩) hHeld ?_ ?_
   rotate_left
   ·
    rintro w' ⟨s0, s1, s2, s3⟩
    go_simp
    with_reducible rfl
   rotate_left
   ·
    simp only [Act.put, lA, lB, lC, i64_w, i32_w]
    rfl
   refine take_ (i := 8) (N := some 23) (v := ?_) (a' := ?_) #[true, true, true, true, false, true, true, true, true, false, false, false] rfl rfl (take_ofW HT_.out HW_.out (by kernel_rfl)) (fun _ _ _ h => h) (Or.inl ⟨by rfl, ?_⟩) hHeld ?_ ?_
   rotate_left
   ·
    rintro w' ⟨s0, s1, s2, s3⟩
    go_simp
    with_reducible rfl
   rotate_left
   ·
    simp only [Act.put, lA, lB, lC, i64_w, i32_w]
    rfl
   refine one_ (i := 4) (N := some 19) #[true, true, true, true, true, true, true, true, true, false, false, false] rfl rfl (one_of HT_.out (by kernel_rfl)) (by decide) (fun K hK => ?_)
   refine goes_ Tryd.func88 (by kernel_rfl) rfl #[.int .i64 t623, .int .i64 t625] (by rfl) rfl rfl mS ?_
   with_reducible refine (gimbalref02_less.calls t623 t625 t629 _ A43.out).mono ?_
   rintro e w' ⟨rfl, ⟨nd, rfl⟩⟩
   refine ⟨_, rfl, ?_⟩
   refine hK.out _ _ ⟨cz0 BK620, cz1 BK620, cz0 BK621, cz1 BK621⟩ (fun hHeld => ?_)
   clear hK K
   refine norm_ (a' := ?_) ?_ ?_
   rotate_left
   ·
    show Act.put _ (some 19) _ = _
    simp only [Act.put, lA, lB, lC, i64_w, i32_w]
    rfl
   refine one_ (i := 9) (N := some 24) #[true, true, true, true, true, true, true, true, true, true, false, false] rfl rfl (one_of HT_.out (by kernel_rfl)) (by decide) (fun K hK => ?_)
   refine goes_ Tryd.func89 (by kernel_rfl) rfl #[.int .i64 t624, .int .i64 t626] (by rfl) rfl rfl mS ?_
   with_reducible refine (gimbalref02_more.calls t624 t626 t630 _ A44.out).mono ?_
   rintro e w' ⟨rfl, ⟨nd, rfl⟩⟩
   refine ⟨_, rfl, ?_⟩
   refine hK.out _ _ ⟨cz0 BK620, cz1 BK620, cz0 BK621, cz1 BK621⟩ (fun hHeld => ?_)
   clear hK K
   refine norm_ (a' := ?_) ?_ ?_
   rotate_left
   ·
    show Act.put _ (some 24) _ = _
    simp only [Act.put, lA, lB, lC, i64_w, i32_w]
    rfl
   refine pure_ (i := 10) (N := some 25) (v := ?_) (a' := ?_) #[true, true, true, true, true, true, true, true, true, true, true, false] rfl rfl (any_of HT_.out (by kernel_rfl)) (fun _ _ _ h => h) (Or.inl ⟨by rfl, ?_⟩) ?_ ?_
   rotate_left
   ·
    intro w'
    go_simp
    with_reducible rfl
   rotate_left
   ·
    simp only [Act.put, lA, lB, lC, i64_w, i32_w]
    rfl
   refine one_ (i := 11) (N := none) #[true, true, true, true, true, true, true, true, true, true, true, true] rfl rfl (one_of HT_.out (by kernel_rfl)) (by decide) (fun K hK => ?_)
   have hs62 : w61.cell? ⟨gb622, 0, none⟩ = some (.int .i64 0) := cz0 BK622
   have hfs62 := fz BK622 0
   have hns62_0 := NB620_622.out
   have hns62_1 := NB621_622.out
   have hms62_0 := NB622_620.out
   have hms62_1 := NB622_621.out
   have hs63 : w61.cell? ⟨gb622, 1, none⟩ = some (.int .i64 0) := cz1 BK622
   have hfs63 := fz BK622 1
   have hns63_0 := NB620_622.out
   have hns63_1 := NB621_622.out
   have hms63_0 := NB622_620.out
   have hms63_1 := NB622_621.out
   refine skip_ (w1 := ?_) (by rfl) rfl ?_ ?_
   rotate_left
   ·
    go_simp
    rfl
   refine hK.out _ _ ⟨((cell_far (p := ⟨gb622, _, none⟩) NB620_622.out _).trans (((cell_far (p := ⟨gb622, _, none⟩) NB620_622.out _).trans (hHeld.1)))), ((cell_far (p := ⟨gb622, _, none⟩) NB620_622.out _).trans (((cell_far (p := ⟨gb622, _, none⟩) NB620_622.out _).trans (hHeld.2.1)))), ((cell_far (p := ⟨gb622, _, none⟩) NB621_622.out _).trans (((cell_far (p := ⟨gb622, _, none⟩) NB621_622.out _).trans (hHeld.2.2.1)))), ((cell_far (p := ⟨gb622, _, none⟩) NB621_622.out _).trans (((cell_far (p := ⟨gb622, _, none⟩) NB621_622.out _).trans (hHeld.2.2.2))))⟩ (fun hHeld => ?_)
   clear hK K
   refine done_ (done_of HT_.out (by kernel_rfl)) ?_
   try go_wp2
   refine bodyPost_ret (results_cell_row rfl _ _ gb622 38 #[.int .i64 t629, .int .i64 t630] (0, 0) _ rfl (by (with_reducible repeat (first | refine b1 ?_ _ | refine b2 ?_ | refine b3 ?_ _)); refine blk_put (cs := #[.int .i64 t629, .int .i64 0]) ?_ 1 _ rfl; (with_reducible repeat (first | refine b1 ?_ _ | refine b2 ?_ | refine b3 ?_ _)); refine blk_put (cs := #[.int .i64 0, .int .i64 0]) ?_ 0 _ rfl; (with_reducible repeat (first | refine b1 ?_ _ | refine b2 ?_ | refine b3 ?_ _)); exact BK622.out) Tryd.underlying38 rfl (by kernel_rfl)) rfl ?_
   exact ⟨eS, bS HB⟩

end Go.Proofs.YtfmmjekhknaniaaDoor.Pr

