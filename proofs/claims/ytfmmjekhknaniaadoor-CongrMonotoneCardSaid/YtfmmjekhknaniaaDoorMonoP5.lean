/- This claim's own texts, joined, with only what the claim uses: Hx0, Sw, Hx2, Hx3, Hx4, Hx1, Hx5, Hx6, Hx7, Hx8, Hx9, Hx10, Hx11, Hx12, Hx13, Hx14, Hx27, FnA, FnB, RowC, Ops, Hx15, Hx16, FnCa, Hx21, Hx46. -/
import Derived.Test.YtfmmjekhknaniaaDoorMonoP2
import Derived.Test.YtfmmjekhknaniaaDoorMonoP3
import Derived.Test.YtfmmjekhknaniaaDoorMonoP4
import Derived.Test.YtfmmjekhknaniaaDoorMonoP0
import Derived.Test.YtfmmjekhknaniaaDoorProg
import Derived.Below
import Derived.Deep.Draws
import Derived.Deep.AppendLies
import Derived.Maps.AppendAt
import Derived.OwnWalk
import Derived.Laws.BytesArg
import Derived.Laws.MakeOwn
import Derived.Laws.OwnMore
import Derived.Deep.OwnRows
import Derived.Tactics
import Derived.Lib.ConvBytes
import Derived.Laws.Slices
import Derived.WalkKit
import Derived.KernelRfl
import Derived.RowKit3
import Derived.Deep.LoopGhost
import Derived.Deep.QuietTactic
import Derived.BigQuiet
import Derived.WideLaws
import Derived.Deep.DeepCutAuto
import Derived.Deep.CutBlock
import Derived.Deep.RegionHeld3
import Derived.Laws.Rows
import Derived.Lib.AppendStr
import Derived.ArgAppend
import Derived.Laws.IdiomCopy
import Derived.OrdersHeld
import Derived.Laws.BitsLemmas
import Derived.RowKit
import Derived.Test.YtfmmjekhknaniaaDoorCards
import Derived.Test.YtfmmjekhknaniaaDoorTie
import Derived.ProofKit
import Derived.OpenShut
import Derived.Deep.DeepHandedRow
import Derived.Deep.Slices
import Derived.Deep.Strs
import Derived.Carry
import Derived.Lay
import Derived.Lib.SmallJoins
import Derived.Stop.LaidErr
namespace Go.Proofs.YtfmmjekhknaniaaDoor.Pr
open Go.RowKit Go.Proofs.YtfmmjekhknaniaaDoor.Given Go.Proofs.YtfmmjekhknaniaaDoorW.PrintWords Go.Proofs.YtfmmjekhknaniaaDoorW.PrintLast Go.Proofs.YtfmmjekhknaniaaDoorW.PrintMore
attribute [local go_sem] max2_int min2_int max_two min_two max_three min_three max_four min_four   -- for this text's walks alone
set_option linter.unusedVariables false
set_option linter.unusedSimpArgs false

def errW : Option Int → Value
 | none => .nilIface
 | some c => .iface 0 (.int .i64 c)
theorem errW_none : errW none = .nilIface := rfl
theorem errW_some (c : Int) : errW (some c) = .iface 0 (.int .i64 c) := rfl

theorem info2 : (Tryd.prog.info? 2).map (fun i => (i.zero, i.size, i.bytes)) = some (some (.int .i64 0), 1, 8) := by kernel_rfl
structure S23 where
 f0 : Bool
 f1 : Int
 f2 : Int
def z23 : S23 := ⟨false, (0 : Int), (0 : Int)⟩
def k23 : Kd S23 := Kd.iso (Kd.pair Kd.bool (Kd.pair (Kd.int .i64) (Kd.int .i64))) (fun x : S23 => (x.f0, x.f1, x.f2))
end Go.Proofs.YtfmmjekhknaniaaDoor.Pr

/- Short words for what the printed walks say often: a block that other events leave alone, a world below, an equation by the usual tries. -/
namespace Go.Proofs.YtfmmjekhknaniaaDoor.Pr
open Go.RowKit Go.Proofs.YtfmmjekhknaniaaDoorW.PrintWords Go.Proofs.YtfmmjekhknaniaaDoorW.PrintLast Go.Proofs.YtfmmjekhknaniaaDoorW.PrintMore

theorem bkS {w w0 : World} {g : Nat} {o : Obj} (h : Aside0 (w0.heap[g]? = some o))
    (e : w0.heap[g]? = some o → w.heap[g]? = some o := by (intro h_; (with_reducible repeat (first | refine blk_drewN ?_ _ | refine blk_drew ?_ | refine blk_alloc ?_ _ | refine blk_far ?_ (Aside0.out (by assumption)) _)); exact h_)) : w.heap[g]? = some o := e h.out
theorem kB {w w0 w1 : World} {g : Nat} {o : Obj} (h : Aside0 (w0.heap[g]? = some o)) (hb : Below w.heap.size w w1)
    (e : w0.heap[g]? = some o → w.heap[g]? = some o := by (intro h_; (with_reducible repeat (first | refine blk_drewN ?_ _ | refine blk_drew ?_ | refine blk_alloc ?_ _ | refine blk_far ?_ (Aside0.out (by assumption)) _)); exact h_)) : Aside0 (w1.heap[g]? = some o) := ⟨blk_below (e h.out) hb⟩
theorem bS {w w0 w1 : World} (h : Aside0 (Below w.heap.size w w0))
    (e : Below w.heap.size w w0 → Below w.heap.size w w1 := by (intro h_; repeat (first | (with_reducible first | exact h_ | apply below_alloc | apply pw_below_drewN | apply below_drew1 | refine below_set ?_ (Aside0.out (by assumption))) | exact h_))) : Below w.heap.size w w1 := e h.out
theorem kW {w w0 w1 w2 : World} (h : Aside0 (Below w.heap.size w w0)) (hb : Below w1.heap.size w1 w2)
    (e : Below w.heap.size w w0 → Below w.heap.size w w1 := by (intro h_; repeat (first | (with_reducible first | exact h_ | apply below_alloc | apply pw_below_drewN | apply below_drew1 | refine below_set ?_ (Aside0.out (by assumption))) | exact h_))) : Aside0 (Below w.heap.size w w2) := ⟨below_step (e h.out) hb⟩
theorem eS {α : Sort _} {a b : α} (h : a = b := by first | rfl | (simp [errW_none, errW_some] <;> rfl) | (simp [*, errW_none, errW_some] <;> rfl)) : a = b := h
theorem mS {α : Sort _} {a b : α} (h : a = b := by ((try simp only [List.map_toArray, List.map_cons, List.map_nil]); first | done | rfl | (simp only [List.length_drop, List.length_take]; rfl))) : a = b := h
theorem lA {α : Type _} {l : List α} {i : Nat} {a : α} : l.toArray.setIfInBounds i a = (l.set i a).toArray := List.setIfInBounds_toArray _ _ _
theorem lB {α : Type _} {x : α} {xs : List α} {a : α} : (x :: xs).set 0 a = a :: xs := List.set_cons_zero
theorem lC {α : Type _} {x : α} {xs : List α} {n : Nat} {a : α} : (x :: xs).set (n + 1) a = x :: xs.set n a := List.set_cons_succ
theorem cz0 {w : World} {g : Nat} {t : TypeId} {a : Value} {l : List Value} (h : Aside0 (w.heap[g]? = some (.cells (a :: l).toArray t (0, 0)))) : w.cell? ⟨g, 0, none⟩ = some a := (blk_cell h.out 0).trans rfl
theorem cz1 {w : World} {g : Nat} {t : TypeId} {a b : Value} {l : List Value} (h : Aside0 (w.heap[g]? = some (.cells (a :: b :: l).toArray t (0, 0)))) : w.cell? ⟨g, 1, none⟩ = some b := (blk_cell h.out 1).trans rfl
theorem cz2 {w : World} {g : Nat} {t : TypeId} {a b c : Value} {l : List Value} (h : Aside0 (w.heap[g]? = some (.cells (a :: b :: c :: l).toArray t (0, 0)))) : w.cell? ⟨g, 2, none⟩ = some c := (blk_cell h.out 2).trans rfl
theorem fz {w : World} {g : Nat} {t : TypeId} {cs : Array Value} (h : Aside0 (w.heap[g]? = some (.cells cs t (0, 0)))) (i : Nat) : w.frozen? ⟨g, i, none⟩ = false := blk_frozen h.out i
theorem b1 {w : World} {g : Nat} {o : Obj} (h : w.heap[g]? = some o) (n : Nat) : (w.drewN n).heap[g]? = some o := h
theorem b2 {w : World} {g : Nat} {o : Obj} (h : w.heap[g]? = some o) : w.drew.heap[g]? = some o := h
theorem b3 {w : World} {g : Nat} {o : Obj} (h : w.heap[g]? = some o) (o' : Obj) : (w.alloc o').heap[g]? = some o := blk_alloc h o'
end Go.Proofs.YtfmmjekhknaniaaDoor.Pr

namespace Go.Proofs.YtfmmjekhknaniaaDoor.Pr
open Go.RowKit Go.Proofs.YtfmmjekhknaniaaDoor.Given Go.Proofs.YtfmmjekhknaniaaDoorW.PrintWords Go.Proofs.YtfmmjekhknaniaaDoorW.PrintLast Go.Proofs.YtfmmjekhknaniaaDoorW.PrintMore
attribute [local go_sem] max2_int min2_int max_two min_two max_three min_three max_four min_four   -- for this text's walks alone
set_option linter.unusedVariables false
set_option linter.unusedSimpArgs false

def gimbalref31_size.f (a0 : Int) : Option (Int) := if a0 < 0 then (some (IntKind.u64.wrap ((IntKind.u64.wrap (wrap64 (-(wrap64 (a0 + 1))))) + 1))) else (some (IntKind.u64.wrap (a0)))
set_option maxHeartbeats 8000000 in
set_option maxRecDepth 100000 in
theorem gimbalref31_size.calls (a0 : Int) (r : Int) (w : World) (h : gimbalref31_size.f a0 = some r) :
  Calls Tryd.prog 55 #[.int .i64 a0] w fun e w' => e = .returned (.int .u64 r) ∧ Drawn0 w w' := by
 have H : (if a0 < 0 then (some (IntKind.u64.wrap ((IntKind.u64.wrap (wrap64 (-(wrap64 (a0 + 1))))) + 1))) else (some (IntKind.u64.wrap (a0)))) = some r := h
 clear h
 by_cases c2 : a0 < 0
 ·
  rw [if_pos c2] at H
  have c2b0 : decide (a0 < 0) = true := decide_eq_true c2
  clear c2
  obtain rfl := Option.some.inj H
  go_enter Tryd.func55, Tryd.ntmps55
  go_wp2
  go_ret
  exact ⟨by first | rfl | (simp; done) | (simp [*]; done), by repeat (first | exact Drawn0.refl _ | apply Drawn0.step)⟩
 ·
  rw [if_neg c2] at H
  have c2b0 : decide (a0 < 0) = false := decide_eq_false c2
  clear c2
  obtain rfl := Option.some.inj H
  go_enter Tryd.func55, Tryd.ntmps55
  go_wp2
  go_ret
  exact ⟨by first | rfl | (simp; done) | (simp [*]; done), by repeat (first | exact Drawn0.refl _ | apply Drawn0.step)⟩

def gimbalref31_None.f  : Option (Bool × Int × Int) := some (true, 0, 0)
set_option maxHeartbeats 8000000 in
set_option maxRecDepth 100000 in
theorem gimbalref31_None.calls  (r1 : Bool) (r2 : Int) (r3 : Int) (w : World) (h : gimbalref31_None.f  = some (r1, r2, r3)) :
  Calls Tryd.prog 69 #[] w fun e w' => e = .returned (.agg #[.bool r1, .int .i64 r2, .int .i64 r3]) ∧ Below w.heap.size w w' := by
 have hu23 := Tryd.underlying23
 have HB := Aside0.mk (Below.refl w.heap.size w)
 have H : (some (true, 0, 0)) = some (r1, r2, r3) := h
 clear h
 simp only [Option.some.injEq, Prod.mk.injEq] at H
 obtain ⟨rfl, rfl, rfl⟩ := H
 go_enter Tryd.func69, Tryd.ntmps69
 go_wp2_with (first | ((with_reducible refine gate_dst (N := 0) rfl ?_); refine box_event ?hg (N := 0) ?hd (cs := #[.bool false, .int .i64 0, .int .i64 0]) (t := 23) ?hr ?_; (case hd => rfl); (case hg => rfl); (case hr => first | (go_simp; done) | (go_simp; rfl)); intro gb101 hg w1 hbox hb; have n0_ := kW HB hb; have n1_ := Aside0.mk (hbox); have n2_ := Aside0.mk ((by rw [hg]; exact (below_size (bS HB)) : w.heap.size ≤ gb101)); have n3_ := Aside0.mk ((by rw [hg]; exact (below_size (bS HB)) : w.heap.size ≤ gb101)); clear HB; have HB := n0_; have BK101 := n1_; have GW101 := n2_; have GE101 := n3_; clear n0_ n1_ n2_ n3_; clear hb hbox hg; have hcz2_0 := cz0 BK101; have hcz2_1 := cz1 BK101; have hcz2_2 := cz2 BK101; have hfz2_0 := fz BK101 0; have hfz2_1 := fz BK101 1; have hfz2_2 := fz BK101 2))
 refine bodyPost_ret (results_cell_row rfl _ _ gb101 23 #[.bool true, .int .i64 0, .int .i64 0] (0, 0) _ rfl (by (with_reducible repeat (first | refine b1 ?_ _ | refine b2 ?_ | refine b3 ?_ _)); refine blk_put (cs := #[.bool true, .int .i64 0, .int .i64 0]) ?_ 2 _ rfl; (with_reducible repeat (first | refine b1 ?_ _ | refine b2 ?_ | refine b3 ?_ _)); refine blk_put (cs := #[.bool true, .int .i64 0, .int .i64 0]) ?_ 1 _ rfl; (with_reducible repeat (first | refine b1 ?_ _ | refine b2 ?_ | refine b3 ?_ _)); refine blk_put (cs := #[.bool false, .int .i64 0, .int .i64 0]) ?_ 0 _ rfl; (with_reducible repeat (first | refine b1 ?_ _ | refine b2 ?_ | refine b3 ?_ _)); exact BK101.out) Tryd.underlying23 rfl (by kernel_rfl)) rfl ?_
 exact ⟨eS, bS HB⟩

mutual
def gimbalref31_class.j0 : Nat → Int → Bool → Bool → Option (Bool × Int × Int)
 | 0, _, _, _ => none
 | k + 1, x1, x2, x14 => if x14 = true then (some (false, 0, wrap64 (-(wrap64 (x1))))) else (if x2 = true then ((gimbalref31_None.f).bind fun bt103 => (some (bt103.1, bt103.2.1, bt103.2.2))) else (if x1 ≤ 2147483647 then (some (false, 0, wrap64 (x1))) else ((gimbalref31_None.f).bind fun bt106 => (some (bt106.1, bt106.2.1, bt106.2.2)))))
def gimbalref31_class.j1 : Nat → Int → Int → Bool → Option (Bool × Int × Int)
 | 0, _, _, _ => none
 | k + 1, x0, x1, x36 => if x36 = true then (gimbalref31_class.j2 k x0 (IntKind.u64.wrap (x0 - x1))) else (gimbalref31_class.j2 k x0 x1)
def gimbalref31_class.j2 : Nat → Int → Int → Option (Bool × Int × Int)
 | 0, _, _ => none
 | k + 1, x0, x1 => if x1 ≤ 2147483647 then (if ([] : List Int).length < 17592186044416 then (gimbalref31_class.j3 k x0 x1 (([] : List Int) ++ [wrap64 (x1)])) else (none)) else (gimbalref31_class.j3 k x0 x1 ([] : List Int))
def gimbalref31_class.j3 : Nat → Int → Int → List Int → Option (Bool × Int × Int)
 | 0, _, _, _ => none
 | k + 1, x0, x1, x7 => if (IntKind.u64.wrap (x0 - x1)) ≤ 2147483648 then (if x7.length < 17592186044416 then (gimbalref31_class.j4 k x0 x1 (x7 ++ [wrap64 (-(wrap64 (IntKind.u64.wrap (x0 - x1))))])) else (none)) else (gimbalref31_class.j4 k x0 x1 x7)
def gimbalref31_class.j4 : Nat → Int → Int → List Int → Option (Bool × Int × Int)
 | 0, _, _, _ => none
 | k + 1, x0, x1, x7 => if (x7.length : Int) = 1 then (if 0 < (x7.length : Int) then (if (rd x7 0) ≥ 0 then (gimbalref31_class.j5 k x0 x1 x7 (decide ((IntKind.u64.wrap (2147483647 - (IntKind.u64.wrap (rd x7 0)))) ≥ x0))) else (gimbalref31_class.j5 k x0 x1 x7 false)) else (none)) else (gimbalref31_class.j5 k x0 x1 x7 false)
def gimbalref31_class.j5 : Nat → Int → Int → List Int → Bool → Option (Bool × Int × Int)
 | 0, _, _, _, _ => none
 | k + 1, x0, x1, x7, x76 => if x76 = true then (if x7.length < 17592186044416 then (gimbalref31_class.j6 k x0 x1 (x7 ++ [0])) else (none)) else (gimbalref31_class.j6 k x0 x1 x7)
def gimbalref31_class.j6 : Nat → Int → Int → List Int → Option (Bool × Int × Int)
 | 0, _, _, _ => none
 | k + 1, x0, x1, x7 => if (x7.length : Int) = 1 then (if 0 < (x7.length : Int) then (if (rd x7 0) < 0 then ((gimbalref31_size.f (rd x7 0)).bind fun t122 => (gimbalref31_class.j7 k x0 x1 x7 (decide ((IntKind.u64.wrap (2147483648 - t122)) ≥ x0)))) else (gimbalref31_class.j7 k x0 x1 x7 false)) else (none)) else (gimbalref31_class.j7 k x0 x1 x7 false)
def gimbalref31_class.j7 : Nat → Int → Int → List Int → Bool → Option (Bool × Int × Int)
 | 0, _, _, _, _ => none
 | k + 1, x0, x1, x7, x97 => if x97 = true then (if x7.length < 17592186044416 then (gimbalref31_class.j8 k x0 x1 (x7 ++ [0])) else (none)) else (gimbalref31_class.j8 k x0 x1 x7)
def gimbalref31_class.j8 : Nat → Int → Int → List Int → Option (Bool × Int × Int)
 | 0, _, _, _ => none
 | k + 1, x0, x1, x7 => if (x7.length : Int) = 0 then ((gimbalref31_None.f).bind fun bt126 => (some (bt126.1, bt126.2.1, bt126.2.2))) else (if (x7.length : Int) = 1 then (if 0 < (x7.length : Int) then (some (false, 0, rd x7 0)) else (none)) else (some (false, wrap64 (x0), wrap64 (x1))))
end
def gimbalref31_class.f (k : Nat) (a0 : Int) (a1 : Int) (a2 : Bool) : Option (Bool × Int × Int) := if a0 = 0 then (if a2 = true then (gimbalref31_class.j0 k a1 a2 (decide (a1 ≤ 2147483648))) else (gimbalref31_class.j0 k a1 a2 false)) else (if a2 = true then (gimbalref31_class.j1 k a0 (Int.tmod a1 a0) ((Int.tmod a1 a0) != 0)) else (gimbalref31_class.j1 k a0 (Int.tmod a1 a0) false))
set_option maxHeartbeats 8000000 in
set_option maxRecDepth 100000 in
theorem gimbalref31_class.calls (k : Nat) (a0 : Int) (a1 : Int) (a2 : Bool) (r1 : Bool) (r2 : Int) (r3 : Int) (w : World) (h : gimbalref31_class.f k a0 a1 a2 = some (r1, r2, r3)) :
  Calls Tryd.prog 54 #[.int .u64 a0, .int .u64 a1, .bool a2] w fun e w' => e = .returned (.agg #[.bool r1, .int .i64 r2, .int .i64 r3]) ∧ Below w.heap.size w w' := by
 have hu23 := Tryd.underlying23
 have HB := Aside0.mk (Below.refl w.heap.size w)
 have H : (if a0 = 0 then (if a2 = true then (gimbalref31_class.j0 k a1 a2 (decide (a1 ≤ 2147483648))) else (gimbalref31_class.j0 k a1 a2 false)) else (if a2 = true then (gimbalref31_class.j1 k a0 (Int.tmod a1 a0) ((Int.tmod a1 a0) != 0)) else (gimbalref31_class.j1 k a0 (Int.tmod a1 a0) false))) = some (r1, r2, r3) := h
 clear h
 by_cases c4 : a0 = 0
 ·
  rw [if_pos c4] at H
  have c4b0 : (a0 == 0) = true := beq_iff_eq.mpr c4
  have c4b1 : (a0 != 0) = false := bne_eq_false_iff_eq.mpr c4
  clear c4
  have HC5 := Aside0.mk H
  clear H
  go_enter Tryd.func54, Tryd.ntmps54
  go_upto_region 2 with (first | ((with_reducible refine gate_dst (N := 6) rfl ?_); refine box_event ?hg (N := 6) ?hd (cs := #[.bool false, .int .i64 0, .int .i64 0]) (t := 23) ?hr ?_; (case hd => rfl); (case hg => rfl); (case hr => first | (go_simp; done) | (go_simp; rfl)); intro gb102 hg w6 hbox hb; have n0_ := kW HB hb; have n1_ := Aside0.mk (hbox); have n2_ := Aside0.mk ((by rw [hg]; exact (below_size (bS HB)) : w.heap.size ≤ gb102)); have n3_ := Aside0.mk ((by rw [hg]; exact (below_size (bS HB)) : w.heap.size ≤ gb102)); clear HB; have HB := n0_; have BK102 := n1_; have GW102 := n2_; have GE102 := n3_; clear n0_ n1_ n2_ n3_; clear hb hbox hg))
  (try simp only [Act.put, lA, lB, lC])
  go_cut [14] (fun v14 wc => ∃ (kq : Nat) (x14_4 : Bool), v14 = .bool x14_4 ∧ Aside0 (gimbalref31_class.j0 kq a1 a2 x14_4 = some (r1, r2, r3)) ∧ Aside0 (kq ≤ k) ∧ Aside0 (wc.heap[gb102]? = some (.cells #[.bool false, .int .i64 0, .int .i64 0] 23 (0, 0))) ∧ Aside0 (Below w.heap.size w wc))
  case first =>
   have H := HC5.out
   clear HC5
   by_cases c7 : a2 = true
   ·
    subst c7
    have H1 : (gimbalref31_class.j0 k a1 true (decide (a1 ≤ 2147483648))) = some (r1, r2, r3) := by rw [if_pos rfl] at H; exact H
    clear H
    have H := H1
    clear H1
    have H' := Aside0.mk H
    clear H
    go_wp2
    go_meet
    case rel => exact ⟨_, (decide (a1 ≤ 2147483648)), (by first | rfl | (simp; done) | (simp [*]; done)), H', ⟨by first | omega | exact Nat.le_refl _⟩, ⟨bkS BK102⟩, ⟨bS HB⟩⟩
   ·
    replace c7 := Bool.eq_false_iff.mpr c7
    subst c7
    have H1 : (gimbalref31_class.j0 k a1 false false) = some (r1, r2, r3) := by rw [if_neg (show ¬ (false = true) by decide)] at H; exact H
    clear H
    have H := H1
    clear H1
    have H' := Aside0.mk H
    clear H
    go_wp2
    go_meet
    case rel => exact ⟨_, (false), (by first | rfl | (simp; done) | (simp [*]; done)), H', ⟨by first | omega | exact Nat.le_refl _⟩, ⟨bkS BK102⟩, ⟨bS HB⟩⟩
  case rest =>
   clear HC5
   try clear p2
   try clear c4
   try clear c4b0
   try clear c4b1
   try clear c5
   try clear c7
   obtain ⟨kq, x14_4, rfl, HA, HJ4, BK102, HB⟩ := hcut
   cases kq with
   | zero => exact absurd HA.out (by simp [gimbalref31_class.j0])
   | succ kj4 =>
    have H := HA.out
    clear HA
    simp only [gimbalref31_class.j0] at H
    by_cases c8 : x14_4 = true
    ·
     subst c8
     have H1 : (some (false, 0, wrap64 (-(wrap64 (a1))))) = some (r1, r2, r3) := by rw [if_pos rfl] at H; exact H
     clear H
     have H := H1
     clear H1
     simp only [Option.some.injEq, Prod.mk.injEq] at H
     obtain ⟨rfl, rfl, rfl⟩ := H
     have hcz9_0 : wc.cell? ⟨gb102, 0, none⟩ = some (.bool false) := cz0 BK102
     have hcz9_1 : wc.cell? ⟨gb102, 1, none⟩ = some (.int .i64 0) := cz1 BK102
     have hcz9_2 : wc.cell? ⟨gb102, 2, none⟩ = some (.int .i64 0) := cz2 BK102
     have hfz9_0 := fz BK102 0
     have hfz9_1 := fz BK102 1
     have hfz9_2 := fz BK102 2
     go_wp2
     refine bodyPost_ret (results_cell_row rfl _ _ gb102 23 #[.bool false, .int .i64 0, .int .i64 (wrap64 (-(wrap64 (a1))))] (0, 0) _ rfl (by (with_reducible repeat (first | refine b1 ?_ _ | refine b2 ?_ | refine b3 ?_ _)); refine blk_put (cs := #[.bool false, .int .i64 0, .int .i64 0]) ?_ 2 _ rfl; (with_reducible repeat (first | refine b1 ?_ _ | refine b2 ?_ | refine b3 ?_ _)); refine blk_put (cs := #[.bool false, .int .i64 0, .int .i64 0]) ?_ 1 _ rfl; (with_reducible repeat (first | refine b1 ?_ _ | refine b2 ?_ | refine b3 ?_ _)); refine blk_put (cs := #[.bool false, .int .i64 0, .int .i64 0]) ?_ 0 _ rfl; (with_reducible repeat (first | refine b1 ?_ _ | refine b2 ?_ | refine b3 ?_ _)); exact BK102.out) Tryd.underlying23 rfl (by kernel_rfl)) rfl ?_
     exact ⟨eS, bS HB⟩
    ·
     replace c8 := Bool.eq_false_iff.mpr c8
     subst c8
     have H1 : (if a2 = true then ((gimbalref31_None.f).bind fun bt103 => (some (bt103.1, bt103.2.1, bt103.2.2))) else (if a1 ≤ 2147483647 then (some (false, 0, wrap64 (a1))) else ((gimbalref31_None.f).bind fun bt106 => (some (bt106.1, bt106.2.1, bt106.2.2))))) = some (r1, r2, r3) := by rw [if_neg (show ¬ (false = true) by decide)] at H; exact H
     clear H
     have H := H1
     clear H1
     by_cases c10 : a2 = true
     ·
      subst c10
      have H1 : ((gimbalref31_None.f).bind fun bt103 => (some (bt103.1, bt103.2.1, bt103.2.2))) = some (r1, r2, r3) := by rw [if_pos rfl] at H; exact H
      clear H
      have H := H1
      clear H1
      replace H := Option.bind_eq_some_iff.mp H
      obtain ⟨⟨t103, t104, t105⟩, A110, H⟩ := H
      replace H : (some (t103, t104, t105)) = some (r1, r2, r3) := H
      have A11 := Aside0.mk A110
      clear A110
      simp only [Option.some.injEq, Prod.mk.injEq] at H
      obtain ⟨rfl, rfl, rfl⟩ := H
      go_wp2_with (first | ((with_reducible refine gate_callee (f := 69) rfl ?_); refine goesL_ (some 28) rfl rfl Tryd.func69 (by kernel_rfl) rfl #[] rfl mS ?_; (with_reducible refine (gimbalref31_None.calls  t103 t104 t105 _ A11.out).mono ?_); rintro e w12 ⟨rfl, hb⟩; refine ⟨_, rfl, ?_⟩; replace BK102 := kB BK102 hb; replace HB := kW HB hb; (try clear hb); (try clear hb2); (try clear hk); (try clear hi); have hcz13_0 := cz0 BK102; have hcz13_1 := cz1 BK102; have hcz13_2 := cz2 BK102; have hfz13_0 := fz BK102 0; have hfz13_1 := fz BK102 1; have hfz13_2 := fz BK102 2))
      refine bodyPost_ret (results_cell_row rfl _ _ gb102 23 #[.bool t103, .int .i64 t104, .int .i64 t105] (0, 0) _ rfl (by (with_reducible repeat (first | refine b1 ?_ _ | refine b2 ?_ | refine b3 ?_ _)); refine blk_put (cs := #[.bool t103, .int .i64 t104, .int .i64 0]) ?_ 2 _ rfl; (with_reducible repeat (first | refine b1 ?_ _ | refine b2 ?_ | refine b3 ?_ _)); refine blk_put (cs := #[.bool t103, .int .i64 0, .int .i64 0]) ?_ 1 _ rfl; (with_reducible repeat (first | refine b1 ?_ _ | refine b2 ?_ | refine b3 ?_ _)); refine blk_put (cs := #[.bool false, .int .i64 0, .int .i64 0]) ?_ 0 _ rfl; (with_reducible repeat (first | refine b1 ?_ _ | refine b2 ?_ | refine b3 ?_ _)); exact BK102.out) Tryd.underlying23 rfl (by kernel_rfl)) rfl ?_
      exact ⟨eS, bS HB⟩
     ·
      replace c10 := Bool.eq_false_iff.mpr c10
      subst c10
      have H1 : (if a1 ≤ 2147483647 then (some (false, 0, wrap64 (a1))) else ((gimbalref31_None.f).bind fun bt106 => (some (bt106.1, bt106.2.1, bt106.2.2)))) = some (r1, r2, r3) := by rw [if_neg (show ¬ (false = true) by decide)] at H; exact H
      clear H
      have H := H1
      clear H1
      by_cases c14 : a1 ≤ 2147483647
      ·
       rw [if_pos c14] at H
       have c14b0 : decide (a1 ≤ 2147483647) = true := decide_eq_true c14
       clear c14
       simp only [Option.some.injEq, Prod.mk.injEq] at H
       obtain ⟨rfl, rfl, rfl⟩ := H
       have hcz15_0 : wc.cell? ⟨gb102, 0, none⟩ = some (.bool false) := cz0 BK102
       have hcz15_1 : wc.cell? ⟨gb102, 1, none⟩ = some (.int .i64 0) := cz1 BK102
       have hcz15_2 : wc.cell? ⟨gb102, 2, none⟩ = some (.int .i64 0) := cz2 BK102
       have hfz15_0 := fz BK102 0
       have hfz15_1 := fz BK102 1
       have hfz15_2 := fz BK102 2
       go_wp2
       refine bodyPost_ret (results_cell_row rfl _ _ gb102 23 #[.bool false, .int .i64 0, .int .i64 (wrap64 (a1))] (0, 0) _ rfl (by (with_reducible repeat (first | refine b1 ?_ _ | refine b2 ?_ | refine b3 ?_ _)); refine blk_put (cs := #[.bool false, .int .i64 0, .int .i64 0]) ?_ 2 _ rfl; (with_reducible repeat (first | refine b1 ?_ _ | refine b2 ?_ | refine b3 ?_ _)); refine blk_put (cs := #[.bool false, .int .i64 0, .int .i64 0]) ?_ 1 _ rfl; (with_reducible repeat (first | refine b1 ?_ _ | refine b2 ?_ | refine b3 ?_ _)); refine blk_put (cs := #[.bool false, .int .i64 0, .int .i64 0]) ?_ 0 _ rfl; (with_reducible repeat (first | refine b1 ?_ _ | refine b2 ?_ | refine b3 ?_ _)); exact BK102.out) Tryd.underlying23 rfl (by kernel_rfl)) rfl ?_
       exact ⟨eS, bS HB⟩
      ·
       rw [if_neg c14] at H
       have c14b0 : decide (a1 ≤ 2147483647) = false := decide_eq_false c14
       clear c14
       replace H := Option.bind_eq_some_iff.mp H
       obtain ⟨⟨t106, t107, t108⟩, A160, H⟩ := H
       replace H : (some (t106, t107, t108)) = some (r1, r2, r3) := H
       have A16 := Aside0.mk A160
       clear A160
       simp only [Option.some.injEq, Prod.mk.injEq] at H
       obtain ⟨rfl, rfl, rfl⟩ := H
       go_wp2_with (first | ((with_reducible refine gate_callee (f := 69) rfl ?_); refine goesL_ (some 28) rfl rfl Tryd.func69 (by kernel_rfl) rfl #[] rfl mS ?_; (with_reducible refine (gimbalref31_None.calls  t106 t107 t108 _ A16.out).mono ?_); rintro e w17 ⟨rfl, hb⟩; refine ⟨_, rfl, ?_⟩; replace BK102 := kB BK102 hb; replace HB := kW HB hb; (try clear hb); (try clear hb2); (try clear hk); (try clear hi); have hcz18_0 := cz0 BK102; have hcz18_1 := cz1 BK102; have hcz18_2 := cz2 BK102; have hfz18_0 := fz BK102 0; have hfz18_1 := fz BK102 1; have hfz18_2 := fz BK102 2))
       refine bodyPost_ret (results_cell_row rfl _ _ gb102 23 #[.bool t106, .int .i64 t107, .int .i64 t108] (0, 0) _ rfl (by (with_reducible repeat (first | refine b1 ?_ _ | refine b2 ?_ | refine b3 ?_ _)); refine blk_put (cs := #[.bool t106, .int .i64 t107, .int .i64 0]) ?_ 2 _ rfl; (with_reducible repeat (first | refine b1 ?_ _ | refine b2 ?_ | refine b3 ?_ _)); refine blk_put (cs := #[.bool t106, .int .i64 0, .int .i64 0]) ?_ 1 _ rfl; (with_reducible repeat (first | refine b1 ?_ _ | refine b2 ?_ | refine b3 ?_ _)); refine blk_put (cs := #[.bool false, .int .i64 0, .int .i64 0]) ?_ 0 _ rfl; (with_reducible repeat (first | refine b1 ?_ _ | refine b2 ?_ | refine b3 ?_ _)); exact BK102.out) Tryd.underlying23 rfl (by kernel_rfl)) rfl ?_
       exact ⟨eS, bS HB⟩
 ·
  rw [if_neg c4] at H
  have c4b0 : (a0 == 0) = false := beq_eq_false_iff_ne.mpr c4
  have c4b1 : (a0 != 0) = true := bne_iff_ne.mpr c4
  have HC19 := Aside0.mk H
  clear H
  go_enter Tryd.func54, Tryd.ntmps54
  go_upto_region 8 with (first | ((with_reducible refine gate_dst (N := 6) rfl ?_); refine box_event ?hg (N := 6) ?hd (cs := #[.bool false, .int .i64 0, .int .i64 0]) (t := 23) ?hr ?_; (case hd => rfl); (case hg => rfl); (case hr => first | (go_simp; done) | (go_simp; rfl)); intro gb102 hg w20 hbox hb; have n0_ := kW HB hb; have n1_ := Aside0.mk (hbox); have n2_ := Aside0.mk ((by rw [hg]; exact (below_size (bS HB)) : w.heap.size ≤ gb102)); have n3_ := Aside0.mk ((by rw [hg]; exact (below_size (bS HB)) : w.heap.size ≤ gb102)); clear HB; have HB := n0_; have BK102 := n1_; have GW102 := n2_; have GE102 := n3_; clear n0_ n1_ n2_ n3_; clear hb hbox hg))
  (try simp only [Act.put, lA, lB, lC])
  go_cut [36] (fun v36 wc => ∃ (kq : Nat) (x36_18 : Bool), v36 = .bool x36_18 ∧ Aside0 (gimbalref31_class.j1 kq a0 (Int.tmod a1 a0) x36_18 = some (r1, r2, r3)) ∧ Aside0 (kq ≤ k) ∧ Aside0 (wc.heap[gb102]? = some (.cells #[.bool false, .int .i64 0, .int .i64 0] 23 (0, 0))) ∧ Aside0 (Below w.heap.size w wc))
  case first =>
   have H := HC19.out
   clear HC19
   by_cases c21 : a2 = true
   ·
    subst c21
    have H1 : (gimbalref31_class.j1 k a0 (Int.tmod a1 a0) ((Int.tmod a1 a0) != 0)) = some (r1, r2, r3) := by rw [if_pos rfl] at H; exact H
    clear H
    have H := H1
    clear H1
    have H' := Aside0.mk H
    clear H
    go_wp2
    go_meet
    case rel => exact ⟨_, (((Int.tmod a1 a0) != 0)), (by first | rfl | (simp; done) | (simp [*]; done)), H', ⟨by first | omega | exact Nat.le_refl _⟩, ⟨bkS BK102⟩, ⟨bS HB⟩⟩
   ·
    replace c21 := Bool.eq_false_iff.mpr c21
    subst c21
    have H1 : (gimbalref31_class.j1 k a0 (Int.tmod a1 a0) false) = some (r1, r2, r3) := by rw [if_neg (show ¬ (false = true) by decide)] at H; exact H
    clear H
    have H := H1
    clear H1
    have H' := Aside0.mk H
    clear H
    go_wp2
    go_meet
    case rel => exact ⟨_, (false), (by first | rfl | (simp; done) | (simp [*]; done)), H', ⟨by first | omega | exact Nat.le_refl _⟩, ⟨bkS BK102⟩, ⟨bS HB⟩⟩
  case rest =>
   clear HC19
   try clear c1
   try clear c2
   try clear p2
   try clear c4
   try clear c4b0
   try clear c4b1
   try clear c5
   try clear c6
   try clear p6
   try clear c7
   try clear c8
   try clear c10
   try clear c14
   try clear c14b0
   try clear c21
   try clear hcz13_0
   try clear hcz13_1
   try clear hcz13_2
   try clear hcz15_0
   try clear hcz15_1
   try clear hcz15_2
   try clear hcz18_0
   try clear hcz18_1
   try clear hcz18_2
   try clear hcz9_0
   try clear hcz9_1
   try clear hcz9_2
   try clear hfz13_0
   try clear hfz13_1
   try clear hfz13_2
   try clear hfz15_0
   try clear hfz15_1
   try clear hfz15_2
   try clear hfz18_0
   try clear hfz18_1
   try clear hfz18_2
   try clear hfz9_0
   try clear hfz9_1
   try clear hfz9_2
   try clear p2
   obtain ⟨kq, x36_18, rfl, HA, HJ18, BK102, HB⟩ := hcut
   cases kq with
   | zero => exact absurd HA.out (by simp [gimbalref31_class.j1])
   | succ kj18 =>
    have H := HA.out
    clear HA
    simp only [gimbalref31_class.j1] at H
    have HC22 := Aside0.mk H
    clear H
    go_upto_if 36 with (fail)
    go_cut [1] (fun v1 wc => ∃ (kq : Nat) (x1_21 : Int), v1 = .int .u64 x1_21 ∧ Aside0 (gimbalref31_class.j2 kq a0 x1_21 = some (r1, r2, r3)) ∧ Aside0 (kq ≤ kj18) ∧ Aside0 (wc.heap[gb102]? = some (.cells #[.bool false, .int .i64 0, .int .i64 0] 23 (0, 0))) ∧ Aside0 (Below w.heap.size w wc))
    case first =>
     have H := HC22.out
     clear HC22
     by_cases c23 : x36_18 = true
     ·
      subst c23
      have H1 : (gimbalref31_class.j2 kj18 a0 (IntKind.u64.wrap (a0 - (Int.tmod a1 a0)))) = some (r1, r2, r3) := by rw [if_pos rfl] at H; exact H
      clear H
      have H := H1
      clear H1
      have H' := Aside0.mk H
      clear H
      go_wp2
      go_meet
      case rel => exact ⟨_, (IntKind.u64.wrap (a0 - (Int.tmod a1 a0))), (by first | rfl | (simp; done) | (simp [*]; done)), H', ⟨by have := HJ18.out; first | omega | exact Nat.le_refl _⟩, ⟨bkS BK102⟩, ⟨bS HB⟩⟩
     ·
      replace c23 := Bool.eq_false_iff.mpr c23
      subst c23
      have H1 : (gimbalref31_class.j2 kj18 a0 (Int.tmod a1 a0)) = some (r1, r2, r3) := by rw [if_neg (show ¬ (false = true) by decide)] at H; exact H
      clear H
      have H := H1
      clear H1
      have H' := Aside0.mk H
      clear H
      go_wp2
      go_meet
      case rel => exact ⟨_, ((Int.tmod a1 a0)), (by first | rfl | (simp; done) | (simp [*]; done)), H', ⟨by have := HJ18.out; first | omega | exact Nat.le_refl _⟩, ⟨bkS BK102⟩, ⟨bS HB⟩⟩
    case rest =>
     clear HC22
     try clear c1
     try clear c2
     try clear p2
     try clear c4
     try clear c4b0
     try clear c4b1
     try clear c5
     try clear c6
     try clear p6
     try clear c7
     try clear c8
     try clear c10
     try clear c14
     try clear c14b0
     try clear c21
     try clear c23
     try clear hcz13_0
     try clear hcz13_1
     try clear hcz13_2
     try clear hcz15_0
     try clear hcz15_1
     try clear hcz15_2
     try clear hcz18_0
     try clear hcz18_1
     try clear hcz18_2
     try clear hcz9_0
     try clear hcz9_1
     try clear hcz9_2
     try clear hfz13_0
     try clear hfz13_1
     try clear hfz13_2
     try clear hfz15_0
     try clear hfz15_1
     try clear hfz15_2
     try clear hfz18_0
     try clear hfz18_1
     try clear hfz18_2
     try clear hfz9_0
     try clear hfz9_1
     try clear hfz9_2
     try clear p2
     try clear p6
     obtain ⟨kq, x1_21, rfl, HA, HJ21, BK102, HB⟩ := hcut
     cases kq with
     | zero => exact absurd HA.out (by simp [gimbalref31_class.j2])
     | succ kj21 =>
      have H := HA.out
      clear HA
      simp only [gimbalref31_class.j2] at H
      have HC24 := Aside0.mk H
      clear H
      go_upto_if 41 with (fail)
      go_cut [7] (fun v7 wc => ∃ (kq : Nat) (x7_23 : List Int), Aside0 (gimbalref31_class.j3 kq a0 x1_21 x7_23 = some (r1, r2, r3)) ∧ Aside0 (kq ≤ kj21) ∧ Aside0 (Kd.R (Kd.int .i64) 2 wc w.heap.size (fun _ => True) v7 x7_23) ∧ Aside0 (wc.heap[gb102]? = some (.cells #[.bool false, .int .i64 0, .int .i64 0] 23 (0, 0))) ∧ Aside0 (Below w.heap.size w wc))
      case first =>
       have H := HC24.out
       clear HC24
       by_cases c25 : x1_21 ≤ 2147483647
       ·
        rw [if_pos c25] at H
        have c25b0 : decide (x1_21 ≤ 2147483647) = true := decide_eq_true c25
        clear c25
        (first | rw [c25b0] | (simp only [i64_w, i32_w]; rw [c25b0]) | skip)
        by_cases c26 : ([] : List Int).length < 17592186044416
        ·
         rw [if_pos c26] at H
         have LMc26 := Aside0.mk c26
         clear c26
         obtain ⟨y109, hy109⟩ : ∃ y_ : List Int, y_ = (([] : List Int) ++ [wrap64 (x1_21)]) := ⟨_, rfl⟩
         replace H : (gimbalref31_class.j3 kj21 a0 x1_21 y109) = some (r1, r2, r3) := by first | (rw [hy109]; with_reducible exact H) | (have H2_ := (Option.bind_some _ _).symm.trans H; rw [hy109]; with_reducible exact H2_) | (have H2_ := (Option.bind_some _ _).symm.trans H; with_reducible exact H2_) | with_reducible exact H | (rw [hy109]; exact H) | exact H
         have Ny109 := Aside0.mk hy109
         clear hy109
         have H' := Aside0.mk H
         clear H
         go_wp2_with (first | ((with_reducible refine gate_builtin (b := .append) (xs := #[.tmp 42, .tmp 45]) rfl ?_); at_builtin; refine Kd.R_append (Kd.int .i64) (w0 := w) w.heap.size rfl (.tmp 42) (.tmp 45) 79 2 (.int .i64 0) 8 rfl Tryd.underlying79 info2 rfl (by decide) (by omega) (.slice none 0 0) ([] : List Int) (wrap64 (x1_21)) [.int .i64 (wrap64 (x1_21))] (fun _ => True) (fun _ => False) rfl rfl ?aP (fun _ hk => hk.elim) ?aF ?aO ?aB ?aS ?aL ?_; (case aP => exact rfl); (case aB => exact (bS HB)); (case aF => exact (fun _ _ => trivial)); (case aO => exact ((Kd.R_nil _ _ _ _ (fun _ => True)))); (case aS => exact (below_size (bS HB))); (case aL => have := LMc26.out; omega); intro v110 w27 ho hb hg hat; rw [← Ny109.out] at ho; have n0_ := Aside0.mk (blk_grown (g := gb102) (o := .cells #[.bool false, .int .i64 0, .int .i64 0] 23 (0, 0)) (bkS BK102) hg (by simp [Value.ownBlock])); have n1_ := Aside0.mk (hb); have n2_ := Aside0.mk (ho); clear BK102; clear HB; have BK102 := n0_; have HB := n1_; have HO111 := n2_; clear n0_ n1_ n2_; clear ho hb hg hat))
         go_meet
         case rel => exact ⟨_, (y109), H', ⟨by have := HJ18.out; have := HJ21.out; first | omega | exact Nat.le_refl _⟩, ⟨by (with_reducible repeat (first | apply Kd.R_alloc | apply Kd.R_drewN | apply Kd.R_drew)); exact HO111.out⟩, ⟨bkS BK102⟩, ⟨bS HB⟩⟩
        ·
         rw [if_neg c26] at H
         exact absurd H (by simp)
       ·
        rw [if_neg c25] at H
        have c25b0 : decide (x1_21 ≤ 2147483647) = false := decide_eq_false c25
        clear c25
        (first | rw [c25b0] | (simp only [i64_w, i32_w]; rw [c25b0]) | skip)
        have H' := Aside0.mk H
        clear H
        go_wp2
        go_meet
        case rel => exact ⟨_, (([] : List Int)), H', ⟨by have := HJ18.out; have := HJ21.out; first | omega | exact Nat.le_refl _⟩, ⟨by first | exact Kd.R_nil _ _ _ _ _ | exact Kd.N_nil _ _ _ _ _ | exact Kd.V_nil _ _ _ _ _ | exact Kd.Q_nil _ _ _ _ _ | exact Kd.S_nil _ _ _ _ _⟩, ⟨bkS BK102⟩, ⟨bS HB⟩⟩
      case rest =>
       clear HC24
       try clear c1
       try clear c2
       try clear p2
       try clear c4
       try clear c4b0
       try clear c4b1
       try clear c5
       try clear c6
       try clear p6
       try clear c7
       try clear c8
       try clear c10
       try clear c14
       try clear c14b0
       try clear c21
       try clear c23
       try clear c25
       try clear c25b0
       try clear c26
       try clear hcz13_0
       try clear hcz13_1
       try clear hcz13_2
       try clear hcz15_0
       try clear hcz15_1
       try clear hcz15_2
       try clear hcz18_0
       try clear hcz18_1
       try clear hcz18_2
       try clear hcz9_0
       try clear hcz9_1
       try clear hcz9_2
       try clear hfz13_0
       try clear hfz13_1
       try clear hfz13_2
       try clear hfz15_0
       try clear hfz15_1
       try clear hfz15_2
       try clear hfz18_0
       try clear hfz18_1
       try clear hfz18_2
       try clear hfz9_0
       try clear hfz9_1
       try clear hfz9_2
       try clear p2
       try clear p6
       obtain ⟨kq, x7_23, HA, HJ23, HO_7, BK102, HB⟩ := hcut
       cases kq with
       | zero => exact absurd HA.out (by simp [gimbalref31_class.j3])
       | succ kj23 =>
        have H := HA.out
        clear HA
        simp only [gimbalref31_class.j3] at H
        have HC28 := Aside0.mk H
        clear H
        go_upto_if 50 with (fail)
        go_cut [7] (fun v7 wc => ∃ (kq : Nat) (x7_27 : List Int), Aside0 (gimbalref31_class.j4 kq a0 x1_21 x7_27 = some (r1, r2, r3)) ∧ Aside0 (kq ≤ kj23) ∧ Aside0 (Kd.R (Kd.int .i64) 2 wc w.heap.size (fun _ => True) v7 x7_27) ∧ Aside0 (wc.heap[gb102]? = some (.cells #[.bool false, .int .i64 0, .int .i64 0] 23 (0, 0))) ∧ Aside0 (Below w.heap.size w wc))
        case first =>
         have H := HC28.out
         clear HC28
         by_cases c29 : (IntKind.u64.wrap (a0 - x1_21)) ≤ 2147483648
         ·
          rw [if_pos c29] at H
          have c29b0 : decide ((IntKind.u64.wrap (a0 - x1_21)) ≤ 2147483648) = true := decide_eq_true c29
          clear c29
          (first | rw [c29b0] | (simp only [i64_w, i32_w]; rw [c29b0]) | skip)
          by_cases c30 : x7_23.length < 17592186044416
          ·
           rw [if_pos c30] at H
           have LMc30 := Aside0.mk c30
           clear c30
           obtain ⟨y112, hy112⟩ : ∃ y_ : List Int, y_ = (x7_23 ++ [wrap64 (-(wrap64 (IntKind.u64.wrap (a0 - x1_21))))]) := ⟨_, rfl⟩
           replace H : (gimbalref31_class.j4 kj23 a0 x1_21 y112) = some (r1, r2, r3) := by first | (rw [hy112]; with_reducible exact H) | (have H2_ := (Option.bind_some _ _).symm.trans H; rw [hy112]; with_reducible exact H2_) | (have H2_ := (Option.bind_some _ _).symm.trans H; with_reducible exact H2_) | with_reducible exact H | (rw [hy112]; exact H) | exact H
           have Ny112 := Aside0.mk hy112
           clear hy112
           have H' := Aside0.mk H
           clear H
           go_wp2_with (first | ((with_reducible refine gate_builtin (b := .append) (xs := #[.tmp 51, .tmp 57]) rfl ?_); at_builtin; refine Kd.R_append (Kd.int .i64) (w0 := w) w.heap.size rfl (.tmp 51) (.tmp 57) 79 2 (.int .i64 0) 8 rfl Tryd.underlying79 info2 rfl (by decide) (by omega) u7 x7_23 (wrap64 (-(wrap64 (IntKind.u64.wrap (a0 - x1_21))))) [.int .i64 (wrap64 (-(wrap64 (IntKind.u64.wrap (a0 - x1_21)))))] (fun _ => True) (fun _ => False) rfl rfl ?aP (fun _ hk => hk.elim) ?aF ?aO ?aB ?aS ?aL ?_; (case aP => exact rfl); (case aB => exact (bS HB)); (case aF => exact (fun _ _ => trivial)); (case aO => exact (by (with_reducible repeat (first | apply Kd.R_alloc | apply Kd.R_drewN | apply Kd.R_drew)); exact HO_7.out)); (case aS => exact (below_size (bS HB))); (case aL => have := LMc30.out; omega); intro v113 w31 ho hb hg hat; rw [← Ny112.out] at ho; have n0_ := Aside0.mk (blk_grown (g := gb102) (o := .cells #[.bool false, .int .i64 0, .int .i64 0] 23 (0, 0)) (bkS BK102) hg (Kd.R_ne HO_7.out BK102.out (by decide))); have n1_ := Aside0.mk (hb); have n2_ := Aside0.mk (ho); clear BK102; clear HB; clear HO_7; have BK102 := n0_; have HB := n1_; have HO114 := n2_; clear n0_ n1_ n2_; clear ho hb hg hat))
           go_meet
           case rel => exact ⟨_, (y112), H', ⟨by have := HJ18.out; have := HJ21.out; have := HJ23.out; first | omega | exact Nat.le_refl _⟩, ⟨by (with_reducible repeat (first | apply Kd.R_alloc | apply Kd.R_drewN | apply Kd.R_drew)); exact HO114.out⟩, ⟨bkS BK102⟩, ⟨bS HB⟩⟩
          ·
           rw [if_neg c30] at H
           exact absurd H (by simp)
         ·
          rw [if_neg c29] at H
          have c29b0 : decide ((IntKind.u64.wrap (a0 - x1_21)) ≤ 2147483648) = false := decide_eq_false c29
          clear c29
          (first | rw [c29b0] | (simp only [i64_w, i32_w]; rw [c29b0]) | skip)
          have H' := Aside0.mk H
          clear H
          go_wp2
          go_meet
          case rel => exact ⟨_, (x7_23), H', ⟨by have := HJ18.out; have := HJ21.out; have := HJ23.out; first | omega | exact Nat.le_refl _⟩, ⟨by (with_reducible repeat (first | apply Kd.R_alloc | apply Kd.R_drewN | apply Kd.R_drew)); exact HO_7.out⟩, ⟨bkS BK102⟩, ⟨bS HB⟩⟩
        case rest =>
         clear HC28
         try clear c1
         try clear c2
         try clear p2
         try clear c3
         try clear c4
         try clear c4b0
         try clear c4b1
         try clear c5
         try clear c6
         try clear p6
         try clear c7
         try clear c8
         try clear c10
         try clear c14
         try clear c14b0
         try clear c21
         try clear c23
         try clear c25
         try clear c25b0
         try clear c26
         try clear c29
         try clear c29b0
         try clear c30
         try clear hcz13_0
         try clear hcz13_1
         try clear hcz13_2
         try clear hcz15_0
         try clear hcz15_1
         try clear hcz15_2
         try clear hcz18_0
         try clear hcz18_1
         try clear hcz18_2
         try clear hcz9_0
         try clear hcz9_1
         try clear hcz9_2
         try clear hfz13_0
         try clear hfz13_1
         try clear hfz13_2
         try clear hfz15_0
         try clear hfz15_1
         try clear hfz15_2
         try clear hfz18_0
         try clear hfz18_1
         try clear hfz18_2
         try clear hfz9_0
         try clear hfz9_1
         try clear hfz9_2
         try clear p2
         try clear p6
         obtain ⟨kq, x7_27, HA, HJ27, HO_7, BK102, HB⟩ := hcut
         cases kq with
         | zero => exact absurd HA.out (by simp [gimbalref31_class.j4])
         | succ kj27 =>
          have H := HA.out
          clear HA
          simp only [gimbalref31_class.j4] at H
          have HC32 := Aside0.mk H
          clear H
          go_upto_region 15 with (fail)
          go_cut [76] (fun v76 wc => ∃ (kq : Nat) (x76_31 : Bool), v76 = .bool x76_31 ∧ Aside0 (gimbalref31_class.j5 kq a0 x1_21 x7_27 x76_31 = some (r1, r2, r3)) ∧ Aside0 (kq ≤ kj27) ∧ Aside0 (Kd.R (Kd.int .i64) 2 wc w.heap.size (fun _ => True) u7 x7_27) ∧ Aside0 (wc.heap[gb102]? = some (.cells #[.bool false, .int .i64 0, .int .i64 0] 23 (0, 0))) ∧ Aside0 (Below w.heap.size w wc))
          case first =>
           have H := HC32.out
           clear HC32
           by_cases c33 : (x7_27.length : Int) = 1
           ·
            rw [if_pos c33] at H
            have c33b0 : ((x7_27.length : Int) == 1) = true := beq_iff_eq.mpr c33
            have c33b1 : ((x7_27.length : Int) != 1) = false := bne_eq_false_iff_eq.mpr c33
            clear c33
            (first | rw [c33b0] | (simp only [i64_w, i32_w]; rw [c33b0]) | skip)
            by_cases c34 : 0 < (x7_27.length : Int)
            ·
             rw [if_pos c34] at H
             have c34b0 : decide (0 < (x7_27.length : Int)) = true := decide_eq_true c34
             have c34b1 : decide (0 < x7_27.length) = true := decide_eq_true (by omega)
             clear c34
             by_cases c35 : (rd x7_27 0) ≥ 0
             ·
              rw [if_pos c35] at H
              have c35b0 : decide (0 ≤ (rd x7_27 0)) = true := decide_eq_true c35
              clear c35
              have H' := Aside0.mk H
              clear H
              obtain ⟨Ao36, co36, eo36⟩ := Kd.R_slice HO_7.out
              subst eo36
              have p115 : 0 ≤ (0 : Int) := (by omega)
              have q115 : 0 < (x7_27.length : Int) := of_decide_eq_true (by first | (with_reducible assumption) | assumption)
              obtain ⟨ad115, e115, hx115_0⟩ := Kd.at_int (Kd.R_reads' HO_7.out).2.2 0 p115 q115
              cases e115
              have qi115 : (0 < x7_27.length) = True := eq_true (by omega)
              (try rw [show ((0 : Int)).toNat = 0 from rfl] at hx115_0)
              (try rw [Addr.add_zero'] at hx115_0)
              replace p115 := eq_true p115
              replace q115 := eq_true q115
              have p116 : 0 ≤ (0 : Int) := (by omega)
              have q116 : 0 < (x7_27.length : Int) := of_decide_eq_true (by first | (with_reducible assumption) | assumption)
              obtain ⟨ad116, e116, hx116_0⟩ := Kd.at_int (Kd.R_reads' HO_7.out).2.2 0 p116 q116
              obtain rfl : ad115 = ad116 := (by injection e116)
              have qi116 : (0 < x7_27.length) = True := eq_true (by omega)
              (try rw [show ((0 : Int)).toNat = 0 from rfl] at hx116_0)
              (try rw [Addr.add_zero'] at hx116_0)
              replace p116 := eq_true p116
              replace q116 := eq_true q116
              go_wp2
              go_meet
              case rel => exact ⟨_, (decide ((IntKind.u64.wrap (2147483647 - (IntKind.u64.wrap (rd x7_27 0)))) ≥ a0)), (by first | rfl | (simp; done) | (simp [*]; done)), H', ⟨by have := HJ18.out; have := HJ21.out; have := HJ23.out; have := HJ27.out; first | omega | exact Nat.le_refl _⟩, ⟨by (with_reducible repeat (first | apply Kd.R_alloc | apply Kd.R_drewN | apply Kd.R_drew)); exact HO_7.out⟩, ⟨bkS BK102⟩, ⟨bS HB⟩⟩
             ·
              rw [if_neg c35] at H
              have c35b0 : decide (0 ≤ (rd x7_27 0)) = false := decide_eq_false c35
              clear c35
              have H' := Aside0.mk H
              clear H
              obtain ⟨Ao37, co37, eo37⟩ := Kd.R_slice HO_7.out
              subst eo37
              have p115 : 0 ≤ (0 : Int) := (by omega)
              have q115 : 0 < (x7_27.length : Int) := of_decide_eq_true (by first | (with_reducible assumption) | assumption)
              obtain ⟨ad115, e115, hx115_0⟩ := Kd.at_int (Kd.R_reads' HO_7.out).2.2 0 p115 q115
              cases e115
              have qi115 : (0 < x7_27.length) = True := eq_true (by omega)
              (try rw [show ((0 : Int)).toNat = 0 from rfl] at hx115_0)
              (try rw [Addr.add_zero'] at hx115_0)
              replace p115 := eq_true p115
              replace q115 := eq_true q115
              go_wp2
              go_meet
              case rel => exact ⟨_, (false), (by first | rfl | (simp; done) | (simp [*]; done)), H', ⟨by have := HJ18.out; have := HJ21.out; have := HJ23.out; have := HJ27.out; first | omega | exact Nat.le_refl _⟩, ⟨by (with_reducible repeat (first | apply Kd.R_alloc | apply Kd.R_drewN | apply Kd.R_drew)); exact HO_7.out⟩, ⟨bkS BK102⟩, ⟨bS HB⟩⟩
            ·
             rw [if_neg c34] at H
             exact absurd H (by simp)
           ·
            rw [if_neg c33] at H
            have c33b0 : ((x7_27.length : Int) == 1) = false := beq_eq_false_iff_ne.mpr c33
            have c33b1 : ((x7_27.length : Int) != 1) = true := bne_iff_ne.mpr c33
            (first | rw [c33b0] | (simp only [i64_w, i32_w]; rw [c33b0]) | skip)
            have H' := Aside0.mk H
            clear H
            obtain ⟨Ao38, co38, eo38⟩ := Kd.R_slice HO_7.out
            subst eo38
            go_wp2
            go_meet
            case rel => exact ⟨_, (false), (by first | rfl | (simp; done) | (simp [*]; done)), H', ⟨by have := HJ18.out; have := HJ21.out; have := HJ23.out; have := HJ27.out; first | omega | exact Nat.le_refl _⟩, ⟨by (with_reducible repeat (first | apply Kd.R_alloc | apply Kd.R_drewN | apply Kd.R_drew)); exact HO_7.out⟩, ⟨bkS BK102⟩, ⟨bS HB⟩⟩
          case rest =>
           clear HC32
           try clear c1
           try clear p1
           try clear q1
           try clear hx1
           try clear qi1
           try clear c2
           try clear p2
           try clear c3
           try clear c4
           try clear c4b0
           try clear c4b1
           try clear c5
           try clear c6
           try clear p6
           try clear c7
           try clear c8
           try clear c10
           try clear p11
           try clear q11
           try clear hx11
           try clear qi11
           try clear c14
           try clear c14b0
           try clear c21
           try clear c23
           try clear c25
           try clear c25b0
           try clear c26
           try clear c29
           try clear c29b0
           try clear c30
           try clear c33
           try clear c33b0
           try clear c33b1
           try clear c34
           try clear c34b0
           try clear c34b1
           try clear c35
           try clear c35b0
           try clear hcz13_0
           try clear hcz13_1
           try clear hcz13_2
           try clear hcz15_0
           try clear hcz15_1
           try clear hcz15_2
           try clear hcz18_0
           try clear hcz18_1
           try clear hcz18_2
           try clear hcz9_0
           try clear hcz9_1
           try clear hcz9_2
           try clear hfz13_0
           try clear hfz13_1
           try clear hfz13_2
           try clear hfz15_0
           try clear hfz15_1
           try clear hfz15_2
           try clear hfz18_0
           try clear hfz18_1
           try clear hfz18_2
           try clear hfz9_0
           try clear hfz9_1
           try clear hfz9_2
           try clear hx115_0
           try clear hx116_0
           try clear p115
           try clear p116
           try clear p2
           try clear p6
           try clear q115
           try clear q116
           obtain ⟨kq, x76_31, rfl, HA, HJ31, HO_7, BK102, HB⟩ := hcut
           cases kq with
           | zero => exact absurd HA.out (by simp [gimbalref31_class.j5])
           | succ kj31 =>
            have H := HA.out
            clear HA
            simp only [gimbalref31_class.j5] at H
            have HC39 := Aside0.mk H
            clear H
            go_upto_if 76 with (fail)
            go_cut [7] (fun v7 wc => ∃ (kq : Nat) (x7_38 : List Int), Aside0 (gimbalref31_class.j6 kq a0 x1_21 x7_38 = some (r1, r2, r3)) ∧ Aside0 (kq ≤ kj31) ∧ Aside0 (Kd.R (Kd.int .i64) 2 wc w.heap.size (fun _ => True) v7 x7_38) ∧ Aside0 (wc.heap[gb102]? = some (.cells #[.bool false, .int .i64 0, .int .i64 0] 23 (0, 0))) ∧ Aside0 (Below w.heap.size w wc))
            case first =>
             have H := HC39.out
             clear HC39
             by_cases c40 : x76_31 = true
             ·
              subst c40
              have H1 : (if x7_27.length < 17592186044416 then (gimbalref31_class.j6 kj31 a0 x1_21 (x7_27 ++ [0])) else (none)) = some (r1, r2, r3) := by rw [if_pos rfl] at H; exact H
              clear H
              have H := H1
              clear H1
              by_cases c41 : x7_27.length < 17592186044416
              ·
               rw [if_pos c41] at H
               have LMc41 := Aside0.mk c41
               clear c41
               obtain ⟨y117, hy117⟩ : ∃ y_ : List Int, y_ = (x7_27 ++ [0]) := ⟨_, rfl⟩
               replace H : (gimbalref31_class.j6 kj31 a0 x1_21 y117) = some (r1, r2, r3) := by first | (rw [hy117]; with_reducible exact H) | (have H2_ := (Option.bind_some _ _).symm.trans H; rw [hy117]; with_reducible exact H2_) | (have H2_ := (Option.bind_some _ _).symm.trans H; with_reducible exact H2_) | with_reducible exact H | (rw [hy117]; exact H) | exact H
               have Ny117 := Aside0.mk hy117
               clear hy117
               have H' := Aside0.mk H
               clear H
               go_wp2_with (first | ((with_reducible refine gate_builtin (b := .append) (xs := #[.tmp 77, .tmp 78]) rfl ?_); at_builtin; refine Kd.R_append (Kd.int .i64) (w0 := w) w.heap.size rfl (.tmp 77) (.tmp 78) 79 2 (.int .i64 0) 8 rfl Tryd.underlying79 info2 rfl (by decide) (by omega) u7 x7_27 0 [.int .i64 0] (fun _ => True) (fun _ => False) rfl rfl ?aP (fun _ hk => hk.elim) ?aF ?aO ?aB ?aS ?aL ?_; (case aP => exact rfl); (case aB => exact (bS HB)); (case aF => exact (fun _ _ => trivial)); (case aO => exact (by (with_reducible repeat (first | apply Kd.R_alloc | apply Kd.R_drewN | apply Kd.R_drew)); exact HO_7.out)); (case aS => exact (below_size (bS HB))); (case aL => have := LMc41.out; omega); intro v118 w42 ho hb hg hat; rw [← Ny117.out] at ho; have n0_ := Aside0.mk (blk_grown (g := gb102) (o := .cells #[.bool false, .int .i64 0, .int .i64 0] 23 (0, 0)) (bkS BK102) hg (Kd.R_ne HO_7.out BK102.out (by decide))); have n1_ := Aside0.mk (hb); have n2_ := Aside0.mk (ho); clear BK102; clear HB; clear HO_7; have BK102 := n0_; have HB := n1_; have HO119 := n2_; clear n0_ n1_ n2_; clear ho hb hg hat))
               go_meet
               case rel => exact ⟨_, (y117), H', ⟨by have := HJ18.out; have := HJ21.out; have := HJ23.out; have := HJ27.out; have := HJ31.out; first | omega | exact Nat.le_refl _⟩, ⟨by (with_reducible repeat (first | apply Kd.R_alloc | apply Kd.R_drewN | apply Kd.R_drew)); exact HO119.out⟩, ⟨bkS BK102⟩, ⟨bS HB⟩⟩
              ·
               rw [if_neg c41] at H
               exact absurd H (by simp)
             ·
              replace c40 := Bool.eq_false_iff.mpr c40
              subst c40
              have H1 : (gimbalref31_class.j6 kj31 a0 x1_21 x7_27) = some (r1, r2, r3) := by rw [if_neg (show ¬ (false = true) by decide)] at H; exact H
              clear H
              have H := H1
              clear H1
              have H' := Aside0.mk H
              clear H
              go_wp2
              go_meet
              case rel => exact ⟨_, (x7_27), H', ⟨by have := HJ18.out; have := HJ21.out; have := HJ23.out; have := HJ27.out; have := HJ31.out; first | omega | exact Nat.le_refl _⟩, ⟨by (with_reducible repeat (first | apply Kd.R_alloc | apply Kd.R_drewN | apply Kd.R_drew)); exact HO_7.out⟩, ⟨bkS BK102⟩, ⟨bS HB⟩⟩
            case rest =>
             clear HC39
             try clear c1
             try clear p1
             try clear q1
             try clear hx1
             try clear qi1
             try clear c2
             try clear p2
             try clear c3
             try clear c4
             try clear c4b0
             try clear c4b1
             try clear c5
             try clear c6
             try clear p6
             try clear c7
             try clear c8
             try clear c10
             try clear p11
             try clear q11
             try clear hx11
             try clear qi11
             try clear c14
             try clear c14b0
             try clear c21
             try clear c23
             try clear c25
             try clear c25b0
             try clear c26
             try clear c29
             try clear c29b0
             try clear c30
             try clear c33
             try clear c33b0
             try clear c33b1
             try clear c34
             try clear c34b0
             try clear c34b1
             try clear c35
             try clear c35b0
             try clear c40
             try clear c41
             try clear hcz13_0
             try clear hcz13_1
             try clear hcz13_2
             try clear hcz15_0
             try clear hcz15_1
             try clear hcz15_2
             try clear hcz18_0
             try clear hcz18_1
             try clear hcz18_2
             try clear hcz9_0
             try clear hcz9_1
             try clear hcz9_2
             try clear hfz13_0
             try clear hfz13_1
             try clear hfz13_2
             try clear hfz15_0
             try clear hfz15_1
             try clear hfz15_2
             try clear hfz18_0
             try clear hfz18_1
             try clear hfz18_2
             try clear hfz9_0
             try clear hfz9_1
             try clear hfz9_2
             try clear hx115_0
             try clear hx116_0
             try clear p1
             try clear p11
             try clear p115
             try clear p116
             try clear p2
             try clear p6
             try clear q1
             try clear q11
             try clear q115
             try clear q116
             obtain ⟨kq, x7_38, HA, HJ38, HO_7, BK102, HB⟩ := hcut
             cases kq with
             | zero => exact absurd HA.out (by simp [gimbalref31_class.j6])
             | succ kj38 =>
              have H := HA.out
              clear HA
              simp only [gimbalref31_class.j6] at H
              have HC43 := Aside0.mk H
              clear H
              go_upto_region 17 with (fail)
              go_cut [97] (fun v97 wc => ∃ (kq : Nat) (x97_42 : Bool), v97 = .bool x97_42 ∧ Aside0 (gimbalref31_class.j7 kq a0 x1_21 x7_38 x97_42 = some (r1, r2, r3)) ∧ Aside0 (kq ≤ kj38) ∧ Aside0 (Kd.R (Kd.int .i64) 2 wc w.heap.size (fun _ => True) u7 x7_38) ∧ Aside0 (wc.heap[gb102]? = some (.cells #[.bool false, .int .i64 0, .int .i64 0] 23 (0, 0))) ∧ Aside0 (Below w.heap.size w wc))
              case first =>
               have H := HC43.out
               clear HC43
               by_cases c44 : (x7_38.length : Int) = 1
               ·
                rw [if_pos c44] at H
                have c44b0 : ((x7_38.length : Int) == 1) = true := beq_iff_eq.mpr c44
                have c44b1 : ((x7_38.length : Int) != 1) = false := bne_eq_false_iff_eq.mpr c44
                clear c44
                (first | rw [c44b0] | (simp only [i64_w, i32_w]; rw [c44b0]) | skip)
                by_cases c45 : 0 < (x7_38.length : Int)
                ·
                 rw [if_pos c45] at H
                 have c45b0 : decide (0 < (x7_38.length : Int)) = true := decide_eq_true c45
                 have c45b1 : decide (0 < x7_38.length) = true := decide_eq_true (by omega)
                 clear c45
                 by_cases c46 : (rd x7_38 0) < 0
                 ·
                  rw [if_pos c46] at H
                  have c46b0 : decide ((rd x7_38 0) < 0) = true := decide_eq_true c46
                  clear c46
                  replace H := Option.bind_eq_some_iff.mp H
                  obtain ⟨t122, A470, H⟩ := H
                  replace H : (gimbalref31_class.j7 kj38 a0 x1_21 x7_38 (decide ((IntKind.u64.wrap (2147483648 - t122)) ≥ a0))) = some (r1, r2, r3) := H
                  have A47 := Aside0.mk A470
                  clear A470
                  have H' := Aside0.mk H
                  clear H
                  obtain ⟨Ao48, co48, eo48⟩ := Kd.R_slice HO_7.out
                  subst eo48
                  have p120 : 0 ≤ (0 : Int) := (by omega)
                  have q120 : 0 < (x7_38.length : Int) := of_decide_eq_true (by first | (with_reducible assumption) | assumption)
                  obtain ⟨ad120, e120, hx120_0⟩ := Kd.at_int (Kd.R_reads' HO_7.out).2.2 0 p120 q120
                  cases e120
                  have qi120 : (0 < x7_38.length) = True := eq_true (by omega)
                  (try rw [show ((0 : Int)).toNat = 0 from rfl] at hx120_0)
                  (try rw [Addr.add_zero'] at hx120_0)
                  replace p120 := eq_true p120
                  replace q120 := eq_true q120
                  have p121 : 0 ≤ (0 : Int) := (by omega)
                  have q121 : 0 < (x7_38.length : Int) := of_decide_eq_true (by first | (with_reducible assumption) | assumption)
                  obtain ⟨ad121, e121, hx121_0⟩ := Kd.at_int (Kd.R_reads' HO_7.out).2.2 0 p121 q121
                  obtain rfl : ad120 = ad121 := (by injection e121)
                  have qi121 : (0 < x7_38.length) = True := eq_true (by omega)
                  (try rw [show ((0 : Int)).toNat = 0 from rfl] at hx121_0)
                  (try rw [Addr.add_zero'] at hx121_0)
                  replace p121 := eq_true p121
                  replace q121 := eq_true q121
                  go_wp2_with (first | (go_at_call 55; (with_reducible refine (gimbalref31_size.calls (rd x7_38 0) t122 _ A47.out).mono ?_); rintro e w' ⟨rfl, ⟨nd, rfl⟩⟩))
                  go_meet
                  case rel => exact ⟨_, (decide ((IntKind.u64.wrap (2147483648 - t122)) ≥ a0)), (by first | rfl | (simp; done) | (simp [*]; done)), H', ⟨by have := HJ18.out; have := HJ21.out; have := HJ23.out; have := HJ27.out; have := HJ31.out; have := HJ38.out; first | omega | exact Nat.le_refl _⟩, ⟨by (with_reducible repeat (first | apply Kd.R_alloc | apply Kd.R_drewN | apply Kd.R_drew)); exact HO_7.out⟩, ⟨bkS BK102⟩, ⟨bS HB⟩⟩
                 ·
                  rw [if_neg c46] at H
                  have c46b0 : decide ((rd x7_38 0) < 0) = false := decide_eq_false c46
                  clear c46
                  have H' := Aside0.mk H
                  clear H
                  obtain ⟨Ao49, co49, eo49⟩ := Kd.R_slice HO_7.out
                  subst eo49
                  have p120 : 0 ≤ (0 : Int) := (by omega)
                  have q120 : 0 < (x7_38.length : Int) := of_decide_eq_true (by first | (with_reducible assumption) | assumption)
                  obtain ⟨ad120, e120, hx120_0⟩ := Kd.at_int (Kd.R_reads' HO_7.out).2.2 0 p120 q120
                  cases e120
                  have qi120 : (0 < x7_38.length) = True := eq_true (by omega)
                  (try rw [show ((0 : Int)).toNat = 0 from rfl] at hx120_0)
                  (try rw [Addr.add_zero'] at hx120_0)
                  replace p120 := eq_true p120
                  replace q120 := eq_true q120
                  go_wp2
                  go_meet
                  case rel => exact ⟨_, (false), (by first | rfl | (simp; done) | (simp [*]; done)), H', ⟨by have := HJ18.out; have := HJ21.out; have := HJ23.out; have := HJ27.out; have := HJ31.out; have := HJ38.out; first | omega | exact Nat.le_refl _⟩, ⟨by (with_reducible repeat (first | apply Kd.R_alloc | apply Kd.R_drewN | apply Kd.R_drew)); exact HO_7.out⟩, ⟨bkS BK102⟩, ⟨bS HB⟩⟩
                ·
                 rw [if_neg c45] at H
                 exact absurd H (by simp)
               ·
                rw [if_neg c44] at H
                have c44b0 : ((x7_38.length : Int) == 1) = false := beq_eq_false_iff_ne.mpr c44
                have c44b1 : ((x7_38.length : Int) != 1) = true := bne_iff_ne.mpr c44
                (first | rw [c44b0] | (simp only [i64_w, i32_w]; rw [c44b0]) | skip)
                have H' := Aside0.mk H
                clear H
                obtain ⟨Ao50, co50, eo50⟩ := Kd.R_slice HO_7.out
                subst eo50
                go_wp2
                go_meet
                case rel => exact ⟨_, (false), (by first | rfl | (simp; done) | (simp [*]; done)), H', ⟨by have := HJ18.out; have := HJ21.out; have := HJ23.out; have := HJ27.out; have := HJ31.out; have := HJ38.out; first | omega | exact Nat.le_refl _⟩, ⟨by (with_reducible repeat (first | apply Kd.R_alloc | apply Kd.R_drewN | apply Kd.R_drew)); exact HO_7.out⟩, ⟨bkS BK102⟩, ⟨bS HB⟩⟩
              case rest =>
               clear HC43
               try clear c1
               try clear p1
               try clear q1
               try clear hx1
               try clear qi1
               try clear c2
               try clear p2
               try clear c3
               try clear c4
               try clear c4b0
               try clear c4b1
               try clear c5
               try clear c6
               try clear p6
               try clear c7
               try clear c8
               try clear c10
               try clear p11
               try clear q11
               try clear hx11
               try clear qi11
               try clear p12
               try clear q12
               try clear hx12
               try clear qi12
               try clear c14
               try clear c14b0
               try clear c21
               try clear c23
               try clear c25
               try clear c25b0
               try clear c26
               try clear c29
               try clear c29b0
               try clear c30
               try clear c33
               try clear c33b0
               try clear c33b1
               try clear c34
               try clear c34b0
               try clear c34b1
               try clear c35
               try clear c35b0
               try clear c40
               try clear c41
               try clear c44
               try clear c44b0
               try clear c44b1
               try clear c45
               try clear c45b0
               try clear c45b1
               try clear c46
               try clear c46b0
               try clear hcz13_0
               try clear hcz13_1
               try clear hcz13_2
               try clear hcz15_0
               try clear hcz15_1
               try clear hcz15_2
               try clear hcz18_0
               try clear hcz18_1
               try clear hcz18_2
               try clear hcz9_0
               try clear hcz9_1
               try clear hcz9_2
               try clear hfz13_0
               try clear hfz13_1
               try clear hfz13_2
               try clear hfz15_0
               try clear hfz15_1
               try clear hfz15_2
               try clear hfz18_0
               try clear hfz18_1
               try clear hfz18_2
               try clear hfz9_0
               try clear hfz9_1
               try clear hfz9_2
               try clear hx115_0
               try clear hx116_0
               try clear hx120_0
               try clear hx121_0
               try clear p1
               try clear p11
               try clear p115
               try clear p116
               try clear p120
               try clear p121
               try clear p2
               try clear p6
               try clear q1
               try clear q11
               try clear q115
               try clear q116
               try clear q120
               try clear q121
               obtain ⟨kq, x97_42, rfl, HA, HJ42, HO_7, BK102, HB⟩ := hcut
               cases kq with
               | zero => exact absurd HA.out (by simp [gimbalref31_class.j7])
               | succ kj42 =>
                have H := HA.out
                clear HA
                simp only [gimbalref31_class.j7] at H
                have HC51 := Aside0.mk H
                clear H
                go_upto_if 97 with (fail)
                go_cut [7] (fun v7 wc => ∃ (kq : Nat) (x7_50 : List Int), Aside0 (gimbalref31_class.j8 kq a0 x1_21 x7_50 = some (r1, r2, r3)) ∧ Aside0 (kq ≤ kj42) ∧ Aside0 (Kd.R (Kd.int .i64) 2 wc w.heap.size (fun _ => True) v7 x7_50) ∧ Aside0 (wc.heap[gb102]? = some (.cells #[.bool false, .int .i64 0, .int .i64 0] 23 (0, 0))) ∧ Aside0 (Below w.heap.size w wc))
                case first =>
                 have H := HC51.out
                 clear HC51
                 by_cases c52 : x97_42 = true
                 ·
                  subst c52
                  have H1 : (if x7_38.length < 17592186044416 then (gimbalref31_class.j8 kj42 a0 x1_21 (x7_38 ++ [0])) else (none)) = some (r1, r2, r3) := by rw [if_pos rfl] at H; exact H
                  clear H
                  have H := H1
                  clear H1
                  by_cases c53 : x7_38.length < 17592186044416
                  ·
                   rw [if_pos c53] at H
                   have LMc53 := Aside0.mk c53
                   clear c53
                   obtain ⟨y123, hy123⟩ : ∃ y_ : List Int, y_ = (x7_38 ++ [0]) := ⟨_, rfl⟩
                   replace H : (gimbalref31_class.j8 kj42 a0 x1_21 y123) = some (r1, r2, r3) := by first | (rw [hy123]; with_reducible exact H) | (have H2_ := (Option.bind_some _ _).symm.trans H; rw [hy123]; with_reducible exact H2_) | (have H2_ := (Option.bind_some _ _).symm.trans H; with_reducible exact H2_) | with_reducible exact H | (rw [hy123]; exact H) | exact H
                   have Ny123 := Aside0.mk hy123
                   clear hy123
                   have H' := Aside0.mk H
                   clear H
                   go_wp2_with (first | ((with_reducible refine gate_builtin (b := .append) (xs := #[.tmp 98, .tmp 99]) rfl ?_); at_builtin; refine Kd.R_append (Kd.int .i64) (w0 := w) w.heap.size rfl (.tmp 98) (.tmp 99) 79 2 (.int .i64 0) 8 rfl Tryd.underlying79 info2 rfl (by decide) (by omega) u7 x7_38 0 [.int .i64 0] (fun _ => True) (fun _ => False) rfl rfl ?aP (fun _ hk => hk.elim) ?aF ?aO ?aB ?aS ?aL ?_; (case aP => exact rfl); (case aB => exact (bS HB)); (case aF => exact (fun _ _ => trivial)); (case aO => exact (by (with_reducible repeat (first | apply Kd.R_alloc | apply Kd.R_drewN | apply Kd.R_drew)); exact HO_7.out)); (case aS => exact (below_size (bS HB))); (case aL => have := LMc53.out; omega); intro v124 w54 ho hb hg hat; rw [← Ny123.out] at ho; have n0_ := Aside0.mk (blk_grown (g := gb102) (o := .cells #[.bool false, .int .i64 0, .int .i64 0] 23 (0, 0)) (bkS BK102) hg (Kd.R_ne HO_7.out BK102.out (by decide))); have n1_ := Aside0.mk (hb); have n2_ := Aside0.mk (ho); clear BK102; clear HB; clear HO_7; have BK102 := n0_; have HB := n1_; have HO125 := n2_; clear n0_ n1_ n2_; clear ho hb hg hat))
                   go_meet
                   case rel => exact ⟨_, (y123), H', ⟨by have := HJ18.out; have := HJ21.out; have := HJ23.out; have := HJ27.out; have := HJ31.out; have := HJ38.out; have := HJ42.out; first | omega | exact Nat.le_refl _⟩, ⟨by (with_reducible repeat (first | apply Kd.R_alloc | apply Kd.R_drewN | apply Kd.R_drew)); exact HO125.out⟩, ⟨bkS BK102⟩, ⟨bS HB⟩⟩
                  ·
                   rw [if_neg c53] at H
                   exact absurd H (by simp)
                 ·
                  replace c52 := Bool.eq_false_iff.mpr c52
                  subst c52
                  have H1 : (gimbalref31_class.j8 kj42 a0 x1_21 x7_38) = some (r1, r2, r3) := by rw [if_neg (show ¬ (false = true) by decide)] at H; exact H
                  clear H
                  have H := H1
                  clear H1
                  have H' := Aside0.mk H
                  clear H
                  go_wp2
                  go_meet
                  case rel => exact ⟨_, (x7_38), H', ⟨by have := HJ18.out; have := HJ21.out; have := HJ23.out; have := HJ27.out; have := HJ31.out; have := HJ38.out; have := HJ42.out; first | omega | exact Nat.le_refl _⟩, ⟨by (with_reducible repeat (first | apply Kd.R_alloc | apply Kd.R_drewN | apply Kd.R_drew)); exact HO_7.out⟩, ⟨bkS BK102⟩, ⟨bS HB⟩⟩
                case rest =>
                 clear HC51
                 try clear c1
                 try clear p1
                 try clear q1
                 try clear hx1
                 try clear qi1
                 try clear c2
                 try clear p2
                 try clear c3
                 try clear c4
                 try clear c4b0
                 try clear c4b1
                 try clear c5
                 try clear c6
                 try clear p6
                 try clear c7
                 try clear c8
                 try clear c10
                 try clear p11
                 try clear q11
                 try clear hx11
                 try clear qi11
                 try clear p12
                 try clear q12
                 try clear hx12
                 try clear qi12
                 try clear c14
                 try clear c14b0
                 try clear c21
                 try clear c23
                 try clear c25
                 try clear c25b0
                 try clear c26
                 try clear c29
                 try clear c29b0
                 try clear c30
                 try clear c33
                 try clear c33b0
                 try clear c33b1
                 try clear c34
                 try clear c34b0
                 try clear c34b1
                 try clear c35
                 try clear c35b0
                 try clear c40
                 try clear c41
                 try clear c44
                 try clear c44b0
                 try clear c44b1
                 try clear c45
                 try clear c45b0
                 try clear c45b1
                 try clear c46
                 try clear c46b0
                 try clear c52
                 try clear c53
                 try clear hcz13_0
                 try clear hcz13_1
                 try clear hcz13_2
                 try clear hcz15_0
                 try clear hcz15_1
                 try clear hcz15_2
                 try clear hcz18_0
                 try clear hcz18_1
                 try clear hcz18_2
                 try clear hcz9_0
                 try clear hcz9_1
                 try clear hcz9_2
                 try clear hfz13_0
                 try clear hfz13_1
                 try clear hfz13_2
                 try clear hfz15_0
                 try clear hfz15_1
                 try clear hfz15_2
                 try clear hfz18_0
                 try clear hfz18_1
                 try clear hfz18_2
                 try clear hfz9_0
                 try clear hfz9_1
                 try clear hfz9_2
                 try clear hx115_0
                 try clear hx116_0
                 try clear hx120_0
                 try clear hx121_0
                 try clear p1
                 try clear p11
                 try clear p115
                 try clear p116
                 try clear p12
                 try clear p120
                 try clear p121
                 try clear p2
                 try clear p6
                 try clear q1
                 try clear q11
                 try clear q115
                 try clear q116
                 try clear q12
                 try clear q120
                 try clear q121
                 obtain ⟨kq, x7_50, HA, HJ50, HO_7, BK102, HB⟩ := hcut
                 cases kq with
                 | zero => exact absurd HA.out (by simp [gimbalref31_class.j8])
                 | succ kj50 =>
                  have H := HA.out
                  clear HA
                  simp only [gimbalref31_class.j8] at H
                  by_cases c55 : (x7_50.length : Int) = 0
                  ·
                   rw [if_pos c55] at H
                   have c55b0 : ((x7_50.length : Int) == 0) = true := beq_iff_eq.mpr c55
                   have c55b1 : ((x7_50.length : Int) != 0) = false := bne_eq_false_iff_eq.mpr c55
                   clear c55
                   replace H := Option.bind_eq_some_iff.mp H
                   obtain ⟨⟨t126, t127, t128⟩, A560, H⟩ := H
                   replace H : (some (t126, t127, t128)) = some (r1, r2, r3) := H
                   have A56 := Aside0.mk A560
                   clear A560
                   simp only [Option.some.injEq, Prod.mk.injEq] at H
                   obtain ⟨rfl, rfl, rfl⟩ := H
                   obtain ⟨Ao57, co57, eo57⟩ := Kd.R_slice HO_7.out
                   subst eo57
                   go_wp2_with (first | ((with_reducible refine gate_callee (f := 69) rfl ?_); refine goesL_ (some 105) rfl rfl Tryd.func69 (by kernel_rfl) rfl #[] rfl mS ?_; (with_reducible refine (gimbalref31_None.calls  t126 t127 t128 _ A56.out).mono ?_); rintro e w58 ⟨rfl, hb⟩; refine ⟨_, rfl, ?_⟩; have n0_ := Aside0.mk (Kd.R_below (by (with_reducible repeat (first | apply Kd.R_alloc | apply Kd.R_drewN | apply Kd.R_drew)); exact HO_7.out) hb); have n1_ := kB BK102 hb; have n2_ := kW HB hb; clear HO_7; clear BK102; clear HB; have HO_7 := n0_; have BK102 := n1_; have HB := n2_; clear n0_ n1_ n2_; (try clear hb); (try clear hb2); (try clear hk); (try clear hi); have hcz59_0 := cz0 BK102; have hcz59_1 := cz1 BK102; have hcz59_2 := cz2 BK102; have hfz59_0 := fz BK102 0; have hfz59_1 := fz BK102 1; have hfz59_2 := fz BK102 2))
                   refine bodyPost_ret (results_cell_row rfl _ _ gb102 23 #[.bool t126, .int .i64 t127, .int .i64 t128] (0, 0) _ rfl (by (with_reducible repeat (first | refine b1 ?_ _ | refine b2 ?_ | refine b3 ?_ _)); refine blk_put (cs := #[.bool t126, .int .i64 t127, .int .i64 0]) ?_ 2 _ rfl; (with_reducible repeat (first | refine b1 ?_ _ | refine b2 ?_ | refine b3 ?_ _)); refine blk_put (cs := #[.bool t126, .int .i64 0, .int .i64 0]) ?_ 1 _ rfl; (with_reducible repeat (first | refine b1 ?_ _ | refine b2 ?_ | refine b3 ?_ _)); refine blk_put (cs := #[.bool false, .int .i64 0, .int .i64 0]) ?_ 0 _ rfl; (with_reducible repeat (first | refine b1 ?_ _ | refine b2 ?_ | refine b3 ?_ _)); exact BK102.out) Tryd.underlying23 rfl (by kernel_rfl)) rfl ?_
                   exact ⟨eS, bS HB⟩
                  ·
                   rw [if_neg c55] at H
                   have c55b0 : ((x7_50.length : Int) == 0) = false := beq_eq_false_iff_ne.mpr c55
                   have c55b1 : ((x7_50.length : Int) != 0) = true := bne_iff_ne.mpr c55
                   have c55b2 : ¬ (x7_50 = []) := fun h_ => c55 (by rw [h_]; rfl)
                   by_cases c60 : (x7_50.length : Int) = 1
                   ·
                    rw [if_pos c60] at H
                    have c60b0 : ((x7_50.length : Int) == 1) = true := beq_iff_eq.mpr c60
                    have c60b1 : ((x7_50.length : Int) != 1) = false := bne_eq_false_iff_eq.mpr c60
                    clear c60
                    by_cases c61 : 0 < (x7_50.length : Int)
                    ·
                     rw [if_pos c61] at H
                     have c61b0 : decide (0 < (x7_50.length : Int)) = true := decide_eq_true c61
                     have c61b1 : decide (0 < x7_50.length) = true := decide_eq_true (by omega)
                     clear c61
                     simp only [Option.some.injEq, Prod.mk.injEq] at H
                     obtain ⟨rfl, rfl, rfl⟩ := H
                     obtain ⟨Ao62, co62, eo62⟩ := Kd.R_slice HO_7.out
                     subst eo62
                     have p129 : 0 ≤ (0 : Int) := (by omega)
                     have q129 : 0 < (x7_50.length : Int) := of_decide_eq_true (by first | (with_reducible assumption) | assumption)
                     obtain ⟨ad129, e129, hx129_0⟩ := Kd.at_int (Kd.R_reads' HO_7.out).2.2 0 p129 q129
                     cases e129
                     have qi129 : (0 < x7_50.length) = True := eq_true (by omega)
                     (try rw [show ((0 : Int)).toNat = 0 from rfl] at hx129_0)
                     (try rw [Addr.add_zero'] at hx129_0)
                     replace p129 := eq_true p129
                     replace q129 := eq_true q129
                     have hcz63_0 : wc.cell? ⟨gb102, 0, none⟩ = some (.bool false) := cz0 BK102
                     have hcz63_1 : wc.cell? ⟨gb102, 1, none⟩ = some (.int .i64 0) := cz1 BK102
                     have hcz63_2 : wc.cell? ⟨gb102, 2, none⟩ = some (.int .i64 0) := cz2 BK102
                     have hfz63_0 := fz BK102 0
                     have hfz63_1 := fz BK102 1
                     have hfz63_2 := fz BK102 2
                     go_wp2
                     refine bodyPost_ret (results_cell_row rfl _ _ gb102 23 #[.bool false, .int .i64 0, .int .i64 (rd x7_50 0)] (0, 0) _ rfl (by (with_reducible repeat (first | refine b1 ?_ _ | refine b2 ?_ | refine b3 ?_ _)); refine blk_put (cs := #[.bool false, .int .i64 0, .int .i64 0]) ?_ 2 _ rfl; (with_reducible repeat (first | refine b1 ?_ _ | refine b2 ?_ | refine b3 ?_ _)); refine blk_put (cs := #[.bool false, .int .i64 0, .int .i64 0]) ?_ 1 _ rfl; (with_reducible repeat (first | refine b1 ?_ _ | refine b2 ?_ | refine b3 ?_ _)); refine blk_put (cs := #[.bool false, .int .i64 0, .int .i64 0]) ?_ 0 _ rfl; (with_reducible repeat (first | refine b1 ?_ _ | refine b2 ?_ | refine b3 ?_ _)); exact BK102.out) Tryd.underlying23 rfl (by kernel_rfl)) rfl ?_
                     exact ⟨eS, bS HB⟩
                    ·
                     rw [if_neg c61] at H
                     exact absurd H (by simp)
                   ·
                    rw [if_neg c60] at H
                    have c60b0 : ((x7_50.length : Int) == 1) = false := beq_eq_false_iff_ne.mpr c60
                    have c60b1 : ((x7_50.length : Int) != 1) = true := bne_iff_ne.mpr c60
                    simp only [Option.some.injEq, Prod.mk.injEq] at H
                    obtain ⟨rfl, rfl, rfl⟩ := H
                    obtain ⟨Ao64, co64, eo64⟩ := Kd.R_slice HO_7.out
                    subst eo64
                    have hcz65_0 : wc.cell? ⟨gb102, 0, none⟩ = some (.bool false) := cz0 BK102
                    have hcz65_1 : wc.cell? ⟨gb102, 1, none⟩ = some (.int .i64 0) := cz1 BK102
                    have hcz65_2 : wc.cell? ⟨gb102, 2, none⟩ = some (.int .i64 0) := cz2 BK102
                    have hfz65_0 := fz BK102 0
                    have hfz65_1 := fz BK102 1
                    have hfz65_2 := fz BK102 2
                    go_wp2
                    refine bodyPost_ret (results_cell_row rfl _ _ gb102 23 #[.bool false, .int .i64 (wrap64 (a0)), .int .i64 (wrap64 (x1_21))] (0, 0) _ rfl (by (with_reducible repeat (first | refine b1 ?_ _ | refine b2 ?_ | refine b3 ?_ _)); refine blk_put (cs := #[.bool false, .int .i64 (wrap64 (a0)), .int .i64 0]) ?_ 2 _ rfl; (with_reducible repeat (first | refine b1 ?_ _ | refine b2 ?_ | refine b3 ?_ _)); refine blk_put (cs := #[.bool false, .int .i64 0, .int .i64 0]) ?_ 1 _ rfl; (with_reducible repeat (first | refine b1 ?_ _ | refine b2 ?_ | refine b3 ?_ _)); refine blk_put (cs := #[.bool false, .int .i64 0, .int .i64 0]) ?_ 0 _ rfl; (with_reducible repeat (first | refine b1 ?_ _ | refine b2 ?_ | refine b3 ?_ _)); exact BK102.out) Tryd.underlying23 rfl (by kernel_rfl)) rfl ?_
                    exact ⟨eS, bS HB⟩

def gimbalref31_Of.f (k : Nat) (a0 : Int) (a1 : Int) : Option (Bool × Int × Int) := (gimbalref31_size.f a0).bind fun t131 => ((gimbalref31_size.f a1).bind fun t132 => ((gimbalref31_class.f k t131 t132 (decide (a1 < 0))).bind fun bt133 => (some (bt133.1, bt133.2.1, bt133.2.2))))
set_option maxHeartbeats 8000000 in
set_option maxRecDepth 100000 in
theorem gimbalref31_Of.calls (k : Nat) (a0 : Int) (a1 : Int) (r1 : Bool) (r2 : Int) (r3 : Int) (w : World) (h : gimbalref31_Of.f k a0 a1 = some (r1, r2, r3)) :
  Calls Tryd.prog 11 #[.int .i64 a0, .int .i64 a1] w fun e w' => e = .returned (.agg #[.bool r1, .int .i64 r2, .int .i64 r3]) ∧ Below w.heap.size w w' := by
 have hu23 := Tryd.underlying23
 have HB := Aside0.mk (Below.refl w.heap.size w)
 have H : ((gimbalref31_size.f a0).bind fun t131 => ((gimbalref31_size.f a1).bind fun t132 => ((gimbalref31_class.f k t131 t132 (decide (a1 < 0))).bind fun bt133 => (some (bt133.1, bt133.2.1, bt133.2.2))))) = some (r1, r2, r3) := h
 clear h
 replace H := Option.bind_eq_some_iff.mp H
 obtain ⟨t131, A30, H⟩ := H
 replace H : ((gimbalref31_size.f a1).bind fun t132 => ((gimbalref31_class.f k t131 t132 (decide (a1 < 0))).bind fun bt133 => (some (bt133.1, bt133.2.1, bt133.2.2)))) = some (r1, r2, r3) := H
 have A3 := Aside0.mk A30
 clear A30
 replace H := Option.bind_eq_some_iff.mp H
 obtain ⟨t132, A40, H⟩ := H
 replace H : ((gimbalref31_class.f k t131 t132 (decide (a1 < 0))).bind fun bt133 => (some (bt133.1, bt133.2.1, bt133.2.2))) = some (r1, r2, r3) := H
 have A4 := Aside0.mk A40
 clear A40
 replace H := Option.bind_eq_some_iff.mp H
 obtain ⟨⟨t133, t134, t135⟩, A50, H⟩ := H
 replace H : (some (t133, t134, t135)) = some (r1, r2, r3) := H
 have A5 := Aside0.mk A50
 clear A50
 simp only [Option.some.injEq, Prod.mk.injEq] at H
 obtain ⟨rfl, rfl, rfl⟩ := H
 go_enter Tryd.func11, Tryd.ntmps11
 go_wp2_with (first | ((with_reducible refine gate_dst (N := 4) rfl ?_); refine box_event ?hg (N := 4) ?hd (cs := #[.bool false, .int .i64 0, .int .i64 0]) (t := 23) ?hr ?_; (case hd => rfl); (case hg => rfl); (case hr => first | (go_simp; done) | (go_simp; rfl)); intro gb130 hg w6 hbox hb; have n0_ := kW HB hb; have n1_ := Aside0.mk (hbox); have n2_ := Aside0.mk ((by rw [hg]; exact (below_size (bS HB)) : w.heap.size ≤ gb130)); have n3_ := Aside0.mk ((by rw [hg]; exact (below_size (bS HB)) : w.heap.size ≤ gb130)); clear HB; have HB := n0_; have BK130 := n1_; have GW130 := n2_; have GE130 := n3_; clear n0_ n1_ n2_ n3_; clear hb hbox hg) | ((with_reducible refine gate_callee (f := 55) rfl ?_); refine goesL_ (some 6) rfl rfl Tryd.func55 (by kernel_rfl) rfl #[.int .i64 a0] rfl mS ?_; (with_reducible refine (gimbalref31_size.calls a0 t131 _ A3.out).mono ?_); rintro e w' ⟨rfl, ⟨nd, rfl⟩⟩; refine ⟨_, rfl, ?_⟩; (try (rw [drewN_self w6]; generalize hq_ : World.drewN w6 _ = w6; have n0_ : Aside0 (w6.heap[gb130]? = some (.cells #[.bool false, .int .i64 0, .int .i64 0] 23 (0, 0))) := ⟨by rw [← hq_]; exact (bkS BK130)⟩; have n1_ : Aside0 (Below w.heap.size w w6) := ⟨by rw [← hq_]; exact (bS HB)⟩; clear BK130 HB hq_; have BK130 := n0_; have HB := n1_; clear n0_ n1_))) | ((with_reducible refine gate_callee (f := 55) rfl ?_); refine goesL_ (some 8) rfl rfl Tryd.func55 (by kernel_rfl) rfl #[.int .i64 a1] rfl mS ?_; (with_reducible refine (gimbalref31_size.calls a1 t132 _ A4.out).mono ?_); rintro e w' ⟨rfl, ⟨nd, rfl⟩⟩; refine ⟨_, rfl, ?_⟩; (try (rw [drewN_self w6]; generalize hq_ : World.drewN w6 _ = w6; have n0_ : Aside0 (w6.heap[gb130]? = some (.cells #[.bool false, .int .i64 0, .int .i64 0] 23 (0, 0))) := ⟨by rw [← hq_]; exact (bkS BK130)⟩; have n1_ : Aside0 (Below w.heap.size w w6) := ⟨by rw [← hq_]; exact (bS HB)⟩; clear BK130 HB hq_; have BK130 := n0_; have HB := n1_; clear n0_ n1_))) | ((with_reducible refine gate_callee (f := 54) rfl ?_); refine goesL_ (some 11) rfl rfl Tryd.func54 (by kernel_rfl) rfl #[.int .u64 t131, .int .u64 t132, .bool (decide (a1 < 0))] rfl mS ?_; (with_reducible refine (gimbalref31_class.calls k t131 t132 (decide (a1 < 0)) t133 t134 t135 _ A5.out).mono ?_); rintro e w7 ⟨rfl, hb⟩; refine ⟨_, rfl, ?_⟩; replace BK130 := kB BK130 hb; replace HB := kW HB hb; (try clear hb); (try clear hb2); (try clear hk); (try clear hi); have hcz8_0 := cz0 BK130; have hcz8_1 := cz1 BK130; have hcz8_2 := cz2 BK130; have hfz8_0 := fz BK130 0; have hfz8_1 := fz BK130 1; have hfz8_2 := fz BK130 2))
 refine bodyPost_ret (results_cell_row rfl _ _ gb130 23 #[.bool t133, .int .i64 t134, .int .i64 t135] (0, 0) _ rfl (by (with_reducible repeat (first | refine b1 ?_ _ | refine b2 ?_ | refine b3 ?_ _)); refine blk_put (cs := #[.bool t133, .int .i64 t134, .int .i64 0]) ?_ 2 _ rfl; (with_reducible repeat (first | refine b1 ?_ _ | refine b2 ?_ | refine b3 ?_ _)); refine blk_put (cs := #[.bool t133, .int .i64 0, .int .i64 0]) ?_ 1 _ rfl; (with_reducible repeat (first | refine b1 ?_ _ | refine b2 ?_ | refine b3 ?_ _)); refine blk_put (cs := #[.bool false, .int .i64 0, .int .i64 0]) ?_ 0 _ rfl; (with_reducible repeat (first | refine b1 ?_ _ | refine b2 ?_ | refine b3 ?_ _)); exact BK130.out) Tryd.underlying23 rfl (by kernel_rfl)) rfl ?_
 exact ⟨eS, bS HB⟩

theorem eqA23 (d : Nat) (w : World) (x0 y0 : Bool) (x1 y1 : Int) (x2 y2 : Int) :
  (Op.equalIn (d + 2) 23 (.agg #[.bool x0, .int .i64 x1, .int .i64 x2]) (.agg #[.bool y0, .int .i64 y1, .int .i64 y2])).run Tryd.prog w = .ok (x0 == y0 && (x1 == y1 && (x2 == y2))) w := by
 refine eqA_of Tryd.underlying23 (by kernel_rfl) ?_
 refine eqf_cons (by rfl) (by go_simp; rfl) (by go_simp; rfl) (by go_simp) ?_
 refine eqf_cons (by rfl) (by go_simp; rfl) (by go_simp; rfl) (by go_simp) ?_
 exact eqf_last (by rfl) (by go_simp; rfl) (by go_simp; rfl) (by go_simp)
end Go.Proofs.YtfmmjekhknaniaaDoor.Pr

namespace Go.Proofs.YtfmmjekhknaniaaDoor.Pr
open Go.RowKit Go.Proofs.YtfmmjekhknaniaaDoor.Given Go.Proofs.YtfmmjekhknaniaaDoorW.PrintWords Go.Proofs.YtfmmjekhknaniaaDoorW.PrintLast Go.Proofs.YtfmmjekhknaniaaDoorW.PrintMore
attribute [local go_sem] max2_int min2_int max_two min_two max_three min_three max_four min_four   -- for this text's walks alone
set_option linter.unusedVariables false
set_option linter.unusedSimpArgs false

attribute [local go_sem high] eqA23
def gimbalref31_Fit.f (k : Nat) (a0_0 : Bool) (a0_1 : Int) (a0_2 : Int) : Option (Bool) := if a0_0 = true then (if a0_1 = 0 then (some (a0_2 == 0)) else (some false)) else (if a0_1 ≥ 0 then ((gimbalref31_Of.f k a0_1 a0_2).bind fun bt137 => (some (a0_0 == bt137.1 && (a0_1 == bt137.2.1 && (a0_2 == bt137.2.2))))) else (some false))
def gimbalref31_Fit.T3 : Bool × List (List Nat × List Nat) := (true, [([], []), ([0], [0]), ([1], [1]), ([2], [2]), ([3], [3]), ([3], [3]), ([5, 3], [3, 5]), ([3], [3]), ([7, 3], [3, 7]), ([6, 8, 3, 3], [3, 6, 8]), ([4, 9, 3], [3, 4, 9]), ([3, 10], [3, 10]), ([11, 9, 0, 1, 2, 3, 4, 5, 6, 7, 8, 9, 10, 11], [11])])
def gimbalref31_Fit.B3 : List Nat := [0, 1, 3, 7, 15, 15, 47, 15, 143, 495, 1023, 2047, 4095]
theorem gimbalref31_Fit.tab3 : rtab .any (opsOf Tryd.f13 3) = gimbalref31_Fit.T3 := by kernel_rfl
theorem gimbalref31_Fit.bits3 : waitsOk gimbalref31_Fit.T3.2 gimbalref31_Fit.B3 = true := by kernel_rfl
set_option maxHeartbeats 8000000 in
set_option maxRecDepth 100000 in
theorem gimbalref31_Fit.calls (k : Nat) (a0_0 : Bool) (a0_1 : Int) (a0_2 : Int) (r : Bool) (w : World) (h : gimbalref31_Fit.f k a0_0 a0_1 a0_2 = some r) :
  Calls Tryd.prog 13 #[.agg #[.bool a0_0, .int .i64 a0_1, .int .i64 a0_2]] w fun e w' => e = .returned (.bool r) ∧ Below w.heap.size w w' := by
 have hu23 := Tryd.underlying23
 have HB := Aside0.mk (Below.refl w.heap.size w)
 have H : (if a0_0 = true then (if a0_1 = 0 then (some (a0_2 == 0)) else (some false)) else (if a0_1 ≥ 0 then ((gimbalref31_Of.f k a0_1 a0_2).bind fun bt137 => (some (a0_0 == bt137.1 && (a0_1 == bt137.2.1 && (a0_2 == bt137.2.2))))) else (some false))) = some r := h
 clear h
 by_cases c2 : a0_0 = true
 ·
  subst c2
  have H1 : (if a0_1 = 0 then (some (a0_2 == 0)) else (some false)) = some r := by rw [if_pos rfl] at H; exact H
  clear H
  have H := H1
  clear H1
  by_cases c3 : a0_1 = 0
  ·
   rw [if_pos c3] at H
   have c3b0 : (a0_1 == 0) = true := beq_iff_eq.mpr c3
   have c3b1 : (a0_1 != 0) = false := bne_eq_false_iff_eq.mpr c3
   clear c3
   obtain rfl := Option.some.inj H
   go_enter Tryd.func13, Tryd.ntmps13
   go_wp2_with (first | ((with_reducible refine gate_dst (N := 1) rfl ?_); refine box_event ?hg (N := 1) ?hd (cs := #[.bool true, .int .i64 a0_1, .int .i64 a0_2]) (t := 23) ?hr ?_; (case hd => rfl); (case hg => rfl); (case hr => first | (go_simp; done) | (go_simp; rfl)); intro gb136 hg w4 hbox hb; have n0_ := kW HB hb; have n1_ := Aside0.mk (hbox); have n2_ := Aside0.mk ((by rw [hg]; exact (below_size (bS HB)) : w.heap.size ≤ gb136)); have n3_ := Aside0.mk ((by rw [hg]; exact (below_size (bS HB)) : w.heap.size ≤ gb136)); clear HB; have HB := n0_; have BK136 := n1_; have GW136 := n2_; have GE136 := n3_; clear n0_ n1_ n2_ n3_; clear hb hbox hg; have hcz5_0 := cz0 BK136; have hcz5_1 := cz1 BK136; have hcz5_2 := cz2 BK136; have hfz5_0 := fz BK136 0; have hfz5_1 := fz BK136 1; have hfz5_2 := fz BK136 2))
   go_ret
   exact ⟨eS, bS HB⟩
  ·
   rw [if_neg c3] at H
   have c3b0 : (a0_1 == 0) = false := beq_eq_false_iff_ne.mpr c3
   have c3b1 : (a0_1 != 0) = true := bne_iff_ne.mpr c3
   obtain rfl := Option.some.inj H
   go_enter Tryd.func13, Tryd.ntmps13
   go_wp2_with (first | ((with_reducible refine gate_dst (N := 1) rfl ?_); refine box_event ?hg (N := 1) ?hd (cs := #[.bool true, .int .i64 a0_1, .int .i64 a0_2]) (t := 23) ?hr ?_; (case hd => rfl); (case hg => rfl); (case hr => first | (go_simp; done) | (go_simp; rfl)); intro gb136 hg w6 hbox hb; have n0_ := kW HB hb; have n1_ := Aside0.mk (hbox); have n2_ := Aside0.mk ((by rw [hg]; exact (below_size (bS HB)) : w.heap.size ≤ gb136)); have n3_ := Aside0.mk ((by rw [hg]; exact (below_size (bS HB)) : w.heap.size ≤ gb136)); clear HB; have HB := n0_; have BK136 := n1_; have GW136 := n2_; have GE136 := n3_; clear n0_ n1_ n2_ n3_; clear hb hbox hg; have hcz7_0 := cz0 BK136; have hcz7_1 := cz1 BK136; have hcz7_2 := cz2 BK136; have hfz7_0 := fz BK136 0; have hfz7_1 := fz BK136 1; have hfz7_2 := fz BK136 2))
   go_ret
   exact ⟨eS, bS HB⟩
 ·
  replace c2 := Bool.eq_false_iff.mpr c2
  subst c2
  have H1 : (if a0_1 ≥ 0 then ((gimbalref31_Of.f k a0_1 a0_2).bind fun bt137 => (some (false == bt137.1 && (a0_1 == bt137.2.1 && (a0_2 == bt137.2.2))))) else (some false)) = some r := by rw [if_neg (show ¬ (false = true) by decide)] at H; exact H
  clear H
  have H := H1
  clear H1
  by_cases c8 : a0_1 ≥ 0
  ·
   rw [if_pos c8] at H
   have c8b0 : decide (0 ≤ a0_1) = true := decide_eq_true c8
   clear c8
   replace H := Option.bind_eq_some_iff.mp H
   obtain ⟨⟨t137, t138, t139⟩, A90, H⟩ := H
   replace H : (some (false == t137 && (a0_1 == t138 && (a0_2 == t139)))) = some r := H
   have A9 := Aside0.mk A90
   clear A90
   obtain rfl := Option.some.inj H
   go_enter Tryd.func13, Tryd.ntmps13
   try go_wp2_with (first | ((with_reducible refine gate_dst (N := 1) rfl ?_); refine box_event ?hg (N := 1) ?hd (cs := #[.bool false, .int .i64 a0_1, .int .i64 a0_2]) (t := 23) ?hr ?_; (case hd => rfl); (case hg => rfl); (case hr => first | (go_simp; done) | (go_simp; rfl)); intro gb136 hg w10 hbox hb; have n0_ := kW HB hb; have n1_ := Aside0.mk (hbox); have n2_ := Aside0.mk ((by rw [hg]; exact (below_size (bS HB)) : w.heap.size ≤ gb136)); have n3_ := Aside0.mk ((by rw [hg]; exact (below_size (bS HB)) : w.heap.size ≤ gb136)); clear HB; have HB := n0_; have BK136 := n1_; have GW136 := n2_; have GE136 := n3_; clear n0_ n1_ n2_ n3_; clear hb hbox hg; have hcz11_0 := cz0 BK136; have hcz11_1 := cz1 BK136; have hcz11_2 := cz2 BK136; have hfz11_0 := fz BK136 0; have hfz11_1 := fz BK136 1; have hfz11_2 := fz BK136 2))
   replace BK136 := Aside0.mk (blk_drew BK136.out)
   replace HB := Aside0.mk (below_drew1 HB.out)
   refine start_ (n := 13) (S := fun w' => w'.cell? ⟨gb136, 0, none⟩ = some (.bool false) ∧ w'.cell? ⟨gb136, 1, none⟩ = some (.int .i64 a0_1) ∧ w'.cell? ⟨gb136, 2, none⟩ = some (.int .i64 a0_2)) (ds := []) #[false, false, false, false, false, false, false, false, false, false, false, false, false] (by kernel_rfl) rfl rfl ⟨cz0 BK136, cz1 BK136, cz2 BK136⟩ (fun hHeld => ?_); refine with_tabW gimbalref31_Fit.tab3 gimbalref31_Fit.bits3 (fun HT_ HW_ => ?_)
   generalize w10.drew = w12 at BK136 HB hHeld ⊢
   refine pure_ (i := 0) (N := some 13) (v := ?_) (a' := ?_) #[true, false, false, false, false, false, false, false, false, false, false, false, false] rfl rfl (any_of HT_.out (by kernel_rfl)) (fun _ _ _ h => h) (Or.inl ⟨by rfl, ?_⟩) ?_ ?_
   rotate_left
   ·
    intro w'
    go_simp
    with_reducible rfl
   rotate_left
   ·
    simp only [Act.put, lA, lB, lC, i64_w, i32_w]
    rfl
   refine take_ (i := 1) (N := some 14) (v := ?_) (a' := ?_) #[true, true, false, false, false, false, false, false, false, false, false, false, false] rfl rfl (take_ofW HT_.out HW_.out (by kernel_rfl)) (fun _ _ _ h => h) (Or.inl ⟨by rfl, ?_⟩) hHeld ?_ ?_
   rotate_left
   ·
    rintro w' ⟨s0, s1, s2⟩
    go_simp
    with_reducible rfl
   rotate_left
   ·
    simp only [Act.put, lA, lB, lC, i64_w, i32_w]
    rfl
   refine pure_ (i := 2) (N := some 15) (v := ?_) (a' := ?_) #[true, true, true, false, false, false, false, false, false, false, false, false, false] rfl rfl (any_of HT_.out (by kernel_rfl)) (fun _ _ _ h => h) (Or.inl ⟨by rfl, ?_⟩) ?_ ?_
   rotate_left
   ·
    intro w'
    go_simp
    with_reducible rfl
   rotate_left
   ·
    simp only [Act.put, lA, lB, lC, i64_w, i32_w]
    rfl
   refine pure_ (i := 3) (N := some 16) (v := ?_) (a' := ?_) #[true, true, true, true, false, false, false, false, false, false, false, false, false] rfl rfl (any_of HT_.out (by kernel_rfl)) (fun _ _ _ h => h) (Or.inl ⟨by rfl, ?_⟩) ?_ ?_
   rotate_left
   ·
    intro w'
    go_simp
    with_reducible rfl
   rotate_left
   ·
    simp only [Act.put, lA, lB, lC, i64_w, i32_w]
    rfl
   refine pure_ (i := 5) (N := some 18) (v := ?_) (a' := ?_) #[true, true, true, true, false, true, false, false, false, false, false, false, false] rfl rfl (any_of HT_.out (by kernel_rfl)) (fun _ _ _ h => h) (Or.inl ⟨by rfl, ?_⟩) ?_ ?_
   rotate_left
   ·
    intro w'
    go_simp
    with_reducible rfl
   rotate_left
   ·
    simp only [Act.put, lA, lB, lC, i64_w, i32_w]
    rfl
   refine pure_ (i := 7) (N := some 20) (v := ?_) (a' := ?_) #[true, true, true, true, false, true, false, true, false, false, false, false, false] rfl rfl (any_of HT_.out (by kernel_rfl)) (fun _ _ _ h => h) (Or.inl ⟨by rfl, ?_⟩) ?_ ?_
   rotate_left
   ·
    intro w'
    go_simp
    with_reducible rfl
   rotate_left
   ·
    simp only [Act.put, lA, lB, lC, i64_w, i32_w]
    rfl
   refine take_ (i := 4) (N := some 17) (v := ?_) (a' := ?_) #[true, true, true, true, true, true, false, true, false, false, false, false, false] rfl rfl (take_ofW HT_.out HW_.out (by kernel_rfl)) (fun _ _ _ h => h) (Or.inl ⟨by rfl, ?_⟩) hHeld ?_ ?_
   rotate_left
   ·
    rintro w' ⟨s0, s1, s2⟩
    go_simp
    with_reducible rfl
   rotate_left
   ·
    simp only [Act.put, lA, lB, lC, i64_w, i32_w]
    rfl
   refine take_ (i := 6) (N := some 19) (v := ?_) (a' := ?_) #[true, true, true, true, true, true, true, true, false, false, false, false, false] rfl rfl (take_ofW HT_.out HW_.out (by kernel_rfl)) (fun _ _ _ h => h) (Or.inl ⟨by rfl, ?_⟩) hHeld ?_ ?_
   rotate_left
   ·
    rintro w' ⟨s0, s1, s2⟩
    go_simp
    with_reducible rfl
   rotate_left
   ·
    simp only [Act.put, lA, lB, lC, i64_w, i32_w]
    rfl
   refine take_ (i := 8) (N := some 21) (v := ?_) (a' := ?_) #[true, true, true, true, true, true, true, true, true, false, false, false, false] rfl rfl (take_ofW HT_.out HW_.out (by kernel_rfl)) (fun _ _ _ h => h) (Or.inl ⟨by rfl, ?_⟩) hHeld ?_ ?_
   rotate_left
   ·
    rintro w' ⟨s0, s1, s2⟩
    go_simp
    with_reducible rfl
   rotate_left
   ·
    simp only [Act.put, lA, lB, lC, i64_w, i32_w]
    rfl
   refine one_ (i := 9) (N := some 22) #[true, true, true, true, true, true, true, true, true, true, false, false, false] rfl rfl (one_of HT_.out (by kernel_rfl)) (by decide) (fun K hK => ?_)
   refine goes_ Tryd.func11 (by kernel_rfl) rfl #[.int .i64 a0_1, .int .i64 a0_2] (by rfl) rfl rfl mS ?_
   with_reducible refine (gimbalref31_Of.calls k a0_1 a0_2 t137 t138 t139 _ A9.out).mono ?_
   rintro e w13 ⟨rfl, hb⟩
   refine ⟨_, rfl, ?_⟩
   replace BK136 := kB BK136 hb
   replace HB := kW HB hb
   (try clear hb)
   (try clear hb2)
   (try clear hk)
   (try clear hi)
   refine hK.out _ _ ⟨cz0 BK136, cz1 BK136, cz2 BK136⟩ (fun hHeld => ?_)
   clear hK K
   refine norm_ (a' := ?_) ?_ ?_
   rotate_left
   ·
    show Act.put _ (some 22) _ = _
    simp only [Act.put, lA, lB, lC, i64_w, i32_w]
    rfl
   refine pure_ (i := 10) (N := some 23) (v := ?_) (a' := ?_) #[true, true, true, true, true, true, true, true, true, true, true, false, false] rfl rfl (any_of HT_.out (by kernel_rfl)) (fun _ _ _ h => h) (Or.inl ⟨by rfl, ?_⟩) ?_ ?_
   rotate_left
   ·
    intro w'
    go_simp
    with_reducible rfl
   rotate_left
   ·
    simp only [Act.put, lA, lB, lC, i64_w, i32_w]
    rfl
   refine pure_ (i := 11) (N := some 24) (v := ?_) (a' := ?_) #[true, true, true, true, true, true, true, true, true, true, true, true, false] rfl rfl (any_of HT_.out (by kernel_rfl)) (fun _ _ _ h => h) (Or.inl ⟨by rfl, ?_⟩) ?_ ?_
   rotate_left
   ·
    intro w'
    go_simp
    with_reducible rfl
   rotate_left
   ·
    simp only [Act.put, lA, lB, lC, i64_w, i32_w]
    rfl
   refine pure_ (i := 12) (N := some 2) (v := ?_) (a' := ?_) #[true, true, true, true, true, true, true, true, true, true, true, true, true] rfl rfl (any_of HT_.out (by kernel_rfl)) (fun _ _ _ h => h) (Or.inl ⟨by rfl, ?_⟩) ?_ ?_
   rotate_left
   ·
    intro w'
    go_simp
    with_reducible rfl
   rotate_left
   ·
    simp only [Act.put, lA, lB, lC, i64_w, i32_w]
    rfl
   refine done_ (done_of HT_.out (by kernel_rfl)) ?_
   try go_wp2
   go_ret
   exact ⟨eS, bS HB⟩
  ·
   rw [if_neg c8] at H
   have c8b0 : decide (0 ≤ a0_1) = false := decide_eq_false c8
   clear c8
   obtain rfl := Option.some.inj H
   go_enter Tryd.func13, Tryd.ntmps13
   try go_wp2_with (first | ((with_reducible refine gate_dst (N := 1) rfl ?_); refine box_event ?hg (N := 1) ?hd (cs := #[.bool false, .int .i64 a0_1, .int .i64 a0_2]) (t := 23) ?hr ?_; (case hd => rfl); (case hg => rfl); (case hr => first | (go_simp; done) | (go_simp; rfl)); intro gb136 hg w14 hbox hb; have n0_ := kW HB hb; have n1_ := Aside0.mk (hbox); have n2_ := Aside0.mk ((by rw [hg]; exact (below_size (bS HB)) : w.heap.size ≤ gb136)); have n3_ := Aside0.mk ((by rw [hg]; exact (below_size (bS HB)) : w.heap.size ≤ gb136)); clear HB; have HB := n0_; have BK136 := n1_; have GW136 := n2_; have GE136 := n3_; clear n0_ n1_ n2_ n3_; clear hb hbox hg; have hcz15_0 := cz0 BK136; have hcz15_1 := cz1 BK136; have hcz15_2 := cz2 BK136; have hfz15_0 := fz BK136 0; have hfz15_1 := fz BK136 1; have hfz15_2 := fz BK136 2))
   replace BK136 := Aside0.mk (blk_drew BK136.out)
   replace HB := Aside0.mk (below_drew1 HB.out)
   refine start_ (n := 13) (S := fun w' => w'.cell? ⟨gb136, 0, none⟩ = some (.bool false) ∧ w'.cell? ⟨gb136, 1, none⟩ = some (.int .i64 a0_1) ∧ w'.cell? ⟨gb136, 2, none⟩ = some (.int .i64 a0_2)) (ds := []) #[false, false, false, false, false, false, false, false, false, false, false, false, false] (by kernel_rfl) rfl rfl ⟨cz0 BK136, cz1 BK136, cz2 BK136⟩ (fun hHeld => ?_); refine with_tabW gimbalref31_Fit.tab3 gimbalref31_Fit.bits3 (fun HT_ HW_ => ?_)
   generalize w14.drew = w16 at BK136 HB hHeld ⊢
   refine pure_ (i := 0) (N := some 13) (v := ?_) (a' := ?_) #[true, false, false, false, false, false, false, false, false, false, false, false, false] rfl rfl (any_of HT_.out (by kernel_rfl)) (fun _ _ _ h => h) (Or.inl ⟨by rfl, ?_⟩) ?_ ?_
   rotate_left
   ·
    intro w'
    go_simp
    with_reducible rfl
   rotate_left
   ·
    simp only [Act.put, lA, lB, lC, i64_w, i32_w]
    rfl
   refine take_ (i := 1) (N := some 14) (v := ?_) (a' := ?_) #[true, true, false, false, false, false, false, false, false, false, false, false, false] rfl rfl (take_ofW HT_.out HW_.out (by kernel_rfl)) (fun _ _ _ h => h) (Or.inl ⟨by rfl, ?_⟩) hHeld ?_ ?_
   rotate_left
   ·
    rintro w' ⟨s0, s1, s2⟩
    go_simp
    with_reducible rfl
   rotate_left
   ·
    simp only [Act.put, lA, lB, lC, i64_w, i32_w]
    rfl
   refine pure_ (i := 2) (N := some 15) (v := ?_) (a' := ?_) #[true, true, true, false, false, false, false, false, false, false, false, false, false] rfl rfl (any_of HT_.out (by kernel_rfl)) (fun _ _ _ h => h) (Or.inl ⟨by rfl, ?_⟩) ?_ ?_
   rotate_left
   ·
    intro w'
    go_simp
    with_reducible rfl
   rotate_left
   ·
    simp only [Act.put, lA, lB, lC, i64_w, i32_w]
    rfl
   refine pure_ (i := 3) (N := some 16) (v := ?_) (a' := ?_) #[true, true, true, true, false, false, false, false, false, false, false, false, false] rfl rfl (any_of HT_.out (by kernel_rfl)) (fun _ _ _ h => h) (Or.inl ⟨by rfl, ?_⟩) ?_ ?_
   rotate_left
   ·
    intro w'
    go_simp
    with_reducible rfl
   rotate_left
   ·
    simp only [Act.put, lA, lB, lC, i64_w, i32_w]
    rfl
   refine pure_ (i := 4) (N := some 17) (v := undef) (a' := ?_) #[true, true, true, true, true, false, false, false, false, false, false, false, false] rfl rfl (any_of HT_.out (by kernel_rfl)) (fun _ _ _ h => h) (Or.inr ⟨by rfl, rfl⟩) ?_ ?_
   rotate_left
   ·
    simp only [Act.put, lA, lB, lC, i64_w, i32_w]
    rfl
   refine pure_ (i := 5) (N := some 18) (v := undef) (a' := ?_) #[true, true, true, true, true, true, false, false, false, false, false, false, false] rfl rfl (any_of HT_.out (by kernel_rfl)) (fun _ _ _ h => h) (Or.inr ⟨by rfl, rfl⟩) ?_ ?_
   rotate_left
   ·
    simp only [Act.put, lA, lB, lC, i64_w, i32_w]
    rfl
   refine pure_ (i := 6) (N := some 19) (v := undef) (a' := ?_) #[true, true, true, true, true, true, true, false, false, false, false, false, false] rfl rfl (any_of HT_.out (by kernel_rfl)) (fun _ _ _ h => h) (Or.inr ⟨by rfl, rfl⟩) ?_ ?_
   rotate_left
   ·
    simp only [Act.put, lA, lB, lC, i64_w, i32_w]
    rfl
   refine pure_ (i := 7) (N := some 20) (v := undef) (a' := ?_) #[true, true, true, true, true, true, true, true, false, false, false, false, false] rfl rfl (any_of HT_.out (by kernel_rfl)) (fun _ _ _ h => h) (Or.inr ⟨by rfl, rfl⟩) ?_ ?_
   rotate_left
   ·
    simp only [Act.put, lA, lB, lC, i64_w, i32_w]
    rfl
   refine pure_ (i := 8) (N := some 21) (v := undef) (a' := ?_) #[true, true, true, true, true, true, true, true, true, false, false, false, false] rfl rfl (any_of HT_.out (by kernel_rfl)) (fun _ _ _ h => h) (Or.inr ⟨by rfl, rfl⟩) ?_ ?_
   rotate_left
   ·
    simp only [Act.put, lA, lB, lC, i64_w, i32_w]
    rfl
   refine pure_ (i := 9) (N := some 22) (v := undef) (a' := ?_) #[true, true, true, true, true, true, true, true, true, true, false, false, false] rfl rfl (any_of HT_.out (by kernel_rfl)) (fun _ _ _ h => h) (Or.inr ⟨by rfl, rfl⟩) ?_ ?_
   rotate_left
   ·
    simp only [Act.put, lA, lB, lC, i64_w, i32_w]
    rfl
   refine pure_ (i := 10) (N := some 23) (v := undef) (a' := ?_) #[true, true, true, true, true, true, true, true, true, true, true, false, false] rfl rfl (any_of HT_.out (by kernel_rfl)) (fun _ _ _ h => h) (Or.inr ⟨by rfl, rfl⟩) ?_ ?_
   rotate_left
   ·
    simp only [Act.put, lA, lB, lC, i64_w, i32_w]
    rfl
   refine pure_ (i := 11) (N := some 24) (v := ?_) (a' := ?_) #[true, true, true, true, true, true, true, true, true, true, true, true, false] rfl rfl (any_of HT_.out (by kernel_rfl)) (fun _ _ _ h => h) (Or.inl ⟨by rfl, ?_⟩) ?_ ?_
   rotate_left
   ·
    intro w'
    go_simp
    with_reducible rfl
   rotate_left
   ·
    simp only [Act.put, lA, lB, lC, i64_w, i32_w]
    rfl
   refine pure_ (i := 12) (N := some 2) (v := ?_) (a' := ?_) #[true, true, true, true, true, true, true, true, true, true, true, true, true] rfl rfl (any_of HT_.out (by kernel_rfl)) (fun _ _ _ h => h) (Or.inl ⟨by rfl, ?_⟩) ?_ ?_
   rotate_left
   ·
    intro w'
    go_simp
    with_reducible rfl
   rotate_left
   ·
    simp only [Act.put, lA, lB, lC, i64_w, i32_w]
    rfl
   refine done_ (done_of HT_.out (by kernel_rfl)) ?_
   try go_wp2
   go_ret
   exact ⟨eS, bS HB⟩

end Go.Proofs.YtfmmjekhknaniaaDoor.Pr

namespace Go.Proofs.YtfmmjekhknaniaaDoor.Pr
open Go.RowKit Go.Proofs.YtfmmjekhknaniaaDoor.Given Go.Proofs.YtfmmjekhknaniaaDoorW.PrintWords Go.Proofs.YtfmmjekhknaniaaDoorW.PrintLast Go.Proofs.YtfmmjekhknaniaaDoorW.PrintMore
attribute [local go_sem] max2_int min2_int max_two min_two max_three min_three max_four min_four   -- for this text's walks alone
set_option linter.unusedVariables false
set_option linter.unusedSimpArgs false

def congr_none.f  : Option (Bool × Int × Int) := some (true, 0, 0)
set_option maxHeartbeats 8000000 in
set_option maxRecDepth 100000 in
theorem congr_none.calls  (r1 : Bool) (r2 : Int) (r3 : Int) (w : World) (h : congr_none.f  = some (r1, r2, r3)) :
  Calls Tryd.prog 56 #[] w fun e w' => e = .returned (.agg #[.bool r1, .int .i64 r2, .int .i64 r3]) ∧ Below w.heap.size w w' := by
 have hu23 := Tryd.underlying23
 have HB := Aside0.mk (Below.refl w.heap.size w)
 have H : (some (true, 0, 0)) = some (r1, r2, r3) := h
 clear h
 simp only [Option.some.injEq, Prod.mk.injEq] at H
 obtain ⟨rfl, rfl, rfl⟩ := H
 go_enter Tryd.func56, Tryd.ntmps56
 go_wp2_with (first | ((with_reducible refine gate_dst (N := 0) rfl ?_); refine box_event ?hg (N := 0) ?hd (cs := #[.bool false, .int .i64 0, .int .i64 0]) (t := 23) ?hr ?_; (case hd => rfl); (case hg => rfl); (case hr => first | (go_simp; done) | (go_simp; rfl)); intro gb140 hg w1 hbox hb; have n0_ := kW HB hb; have n1_ := Aside0.mk (hbox); have n2_ := Aside0.mk ((by rw [hg]; exact (below_size (bS HB)) : w.heap.size ≤ gb140)); have n3_ := Aside0.mk ((by rw [hg]; exact (below_size (bS HB)) : w.heap.size ≤ gb140)); clear HB; have HB := n0_; have BK140 := n1_; have GW140 := n2_; have GE140 := n3_; clear n0_ n1_ n2_ n3_; clear hb hbox hg; have hcz2_0 := cz0 BK140; have hcz2_1 := cz1 BK140; have hcz2_2 := cz2 BK140; have hfz2_0 := fz BK140 0; have hfz2_1 := fz BK140 1; have hfz2_2 := fz BK140 2))
 refine bodyPost_ret (results_cell_row rfl _ _ gb140 23 #[.bool true, .int .i64 0, .int .i64 0] (0, 0) _ rfl (by (with_reducible repeat (first | refine b1 ?_ _ | refine b2 ?_ | refine b3 ?_ _)); refine blk_put (cs := #[.bool true, .int .i64 0, .int .i64 0]) ?_ 2 _ rfl; (with_reducible repeat (first | refine b1 ?_ _ | refine b2 ?_ | refine b3 ?_ _)); refine blk_put (cs := #[.bool true, .int .i64 0, .int .i64 0]) ?_ 1 _ rfl; (with_reducible repeat (first | refine b1 ?_ _ | refine b2 ?_ | refine b3 ?_ _)); refine blk_put (cs := #[.bool false, .int .i64 0, .int .i64 0]) ?_ 0 _ rfl; (with_reducible repeat (first | refine b1 ?_ _ | refine b2 ?_ | refine b3 ?_ _)); exact BK140.out) Tryd.underlying23 rfl (by kernel_rfl)) rfl ?_
 exact ⟨eS, bS HB⟩

def congr_constant.f (a0 : Int) : Option (Bool × Int × Int) := if a0 < (-2147483648) then ((congr_none.f).bind fun bt142 => (some (bt142.1, bt142.2.1, bt142.2.2))) else (if a0 > 2147483647 then ((congr_none.f).bind fun bt145 => (some (bt145.1, bt145.2.1, bt145.2.2))) else (some (false, 0, a0)))
set_option maxHeartbeats 8000000 in
set_option maxRecDepth 100000 in
theorem congr_constant.calls (a0 : Int) (r1 : Bool) (r2 : Int) (r3 : Int) (w : World) (h : congr_constant.f a0 = some (r1, r2, r3)) :
  Calls Tryd.prog 50 #[.int .i64 a0] w fun e w' => e = .returned (.agg #[.bool r1, .int .i64 r2, .int .i64 r3]) ∧ Below w.heap.size w w' := by
 have hu23 := Tryd.underlying23
 have HB := Aside0.mk (Below.refl w.heap.size w)
 have H : (if a0 < (-2147483648) then ((congr_none.f).bind fun bt142 => (some (bt142.1, bt142.2.1, bt142.2.2))) else (if a0 > 2147483647 then ((congr_none.f).bind fun bt145 => (some (bt145.1, bt145.2.1, bt145.2.2))) else (some (false, 0, a0)))) = some (r1, r2, r3) := h
 clear h
 by_cases c2 : a0 < (-2147483648)
 ·
  rw [if_pos c2] at H
  have c2b0 : decide (a0 < (-2147483648)) = true := decide_eq_true c2
  clear c2
  replace H := Option.bind_eq_some_iff.mp H
  obtain ⟨⟨t142, t143, t144⟩, A30, H⟩ := H
  replace H : (some (t142, t143, t144)) = some (r1, r2, r3) := H
  have A3 := Aside0.mk A30
  clear A30
  simp only [Option.some.injEq, Prod.mk.injEq] at H
  obtain ⟨rfl, rfl, rfl⟩ := H
  go_enter Tryd.func50, Tryd.ntmps50
  go_wp2_with (first | ((with_reducible refine gate_dst (N := 2) rfl ?_); refine box_event ?hg (N := 2) ?hd (cs := #[.bool false, .int .i64 0, .int .i64 0]) (t := 23) ?hr ?_; (case hd => rfl); (case hg => rfl); (case hr => first | (go_simp; done) | (go_simp; rfl)); intro gb141 hg w4 hbox hb; have n0_ := kW HB hb; have n1_ := Aside0.mk (hbox); have n2_ := Aside0.mk ((by rw [hg]; exact (below_size (bS HB)) : w.heap.size ≤ gb141)); have n3_ := Aside0.mk ((by rw [hg]; exact (below_size (bS HB)) : w.heap.size ≤ gb141)); clear HB; have HB := n0_; have BK141 := n1_; have GW141 := n2_; have GE141 := n3_; clear n0_ n1_ n2_ n3_; clear hb hbox hg) | ((with_reducible refine gate_callee (f := 56) rfl ?_); refine goesL_ (some 9) rfl rfl Tryd.func56 (by kernel_rfl) rfl #[] rfl mS ?_; (with_reducible refine (congr_none.calls  t142 t143 t144 _ A3.out).mono ?_); rintro e w5 ⟨rfl, hb⟩; refine ⟨_, rfl, ?_⟩; replace BK141 := kB BK141 hb; replace HB := kW HB hb; (try clear hb); (try clear hb2); (try clear hk); (try clear hi); have hcz6_0 := cz0 BK141; have hcz6_1 := cz1 BK141; have hcz6_2 := cz2 BK141; have hfz6_0 := fz BK141 0; have hfz6_1 := fz BK141 1; have hfz6_2 := fz BK141 2))
  refine bodyPost_ret (results_cell_row rfl _ _ gb141 23 #[.bool t142, .int .i64 t143, .int .i64 t144] (0, 0) _ rfl (by (with_reducible repeat (first | refine b1 ?_ _ | refine b2 ?_ | refine b3 ?_ _)); refine blk_put (cs := #[.bool t142, .int .i64 t143, .int .i64 0]) ?_ 2 _ rfl; (with_reducible repeat (first | refine b1 ?_ _ | refine b2 ?_ | refine b3 ?_ _)); refine blk_put (cs := #[.bool t142, .int .i64 0, .int .i64 0]) ?_ 1 _ rfl; (with_reducible repeat (first | refine b1 ?_ _ | refine b2 ?_ | refine b3 ?_ _)); refine blk_put (cs := #[.bool false, .int .i64 0, .int .i64 0]) ?_ 0 _ rfl; (with_reducible repeat (first | refine b1 ?_ _ | refine b2 ?_ | refine b3 ?_ _)); exact BK141.out) Tryd.underlying23 rfl (by kernel_rfl)) rfl ?_
  exact ⟨eS, bS HB⟩
 ·
  rw [if_neg c2] at H
  have c2b0 : decide (a0 < (-2147483648)) = false := decide_eq_false c2
  clear c2
  by_cases c7 : a0 > 2147483647
  ·
   rw [if_pos c7] at H
   have c7b0 : decide (2147483647 < a0) = true := decide_eq_true c7
   clear c7
   replace H := Option.bind_eq_some_iff.mp H
   obtain ⟨⟨t145, t146, t147⟩, A80, H⟩ := H
   replace H : (some (t145, t146, t147)) = some (r1, r2, r3) := H
   have A8 := Aside0.mk A80
   clear A80
   simp only [Option.some.injEq, Prod.mk.injEq] at H
   obtain ⟨rfl, rfl, rfl⟩ := H
   go_enter Tryd.func50, Tryd.ntmps50
   go_wp2_with (first | ((with_reducible refine gate_dst (N := 2) rfl ?_); refine box_event ?hg (N := 2) ?hd (cs := #[.bool false, .int .i64 0, .int .i64 0]) (t := 23) ?hr ?_; (case hd => rfl); (case hg => rfl); (case hr => first | (go_simp; done) | (go_simp; rfl)); intro gb141 hg w9 hbox hb; have n0_ := kW HB hb; have n1_ := Aside0.mk (hbox); have n2_ := Aside0.mk ((by rw [hg]; exact (below_size (bS HB)) : w.heap.size ≤ gb141)); have n3_ := Aside0.mk ((by rw [hg]; exact (below_size (bS HB)) : w.heap.size ≤ gb141)); clear HB; have HB := n0_; have BK141 := n1_; have GW141 := n2_; have GE141 := n3_; clear n0_ n1_ n2_ n3_; clear hb hbox hg) | ((with_reducible refine gate_callee (f := 56) rfl ?_); refine goesL_ (some 9) rfl rfl Tryd.func56 (by kernel_rfl) rfl #[] rfl mS ?_; (with_reducible refine (congr_none.calls  t145 t146 t147 _ A8.out).mono ?_); rintro e w10 ⟨rfl, hb⟩; refine ⟨_, rfl, ?_⟩; replace BK141 := kB BK141 hb; replace HB := kW HB hb; (try clear hb); (try clear hb2); (try clear hk); (try clear hi); have hcz11_0 := cz0 BK141; have hcz11_1 := cz1 BK141; have hcz11_2 := cz2 BK141; have hfz11_0 := fz BK141 0; have hfz11_1 := fz BK141 1; have hfz11_2 := fz BK141 2))
   refine bodyPost_ret (results_cell_row rfl _ _ gb141 23 #[.bool t145, .int .i64 t146, .int .i64 t147] (0, 0) _ rfl (by (with_reducible repeat (first | refine b1 ?_ _ | refine b2 ?_ | refine b3 ?_ _)); refine blk_put (cs := #[.bool t145, .int .i64 t146, .int .i64 0]) ?_ 2 _ rfl; (with_reducible repeat (first | refine b1 ?_ _ | refine b2 ?_ | refine b3 ?_ _)); refine blk_put (cs := #[.bool t145, .int .i64 0, .int .i64 0]) ?_ 1 _ rfl; (with_reducible repeat (first | refine b1 ?_ _ | refine b2 ?_ | refine b3 ?_ _)); refine blk_put (cs := #[.bool false, .int .i64 0, .int .i64 0]) ?_ 0 _ rfl; (with_reducible repeat (first | refine b1 ?_ _ | refine b2 ?_ | refine b3 ?_ _)); exact BK141.out) Tryd.underlying23 rfl (by kernel_rfl)) rfl ?_
   exact ⟨eS, bS HB⟩
  ·
   rw [if_neg c7] at H
   have c7b0 : decide (2147483647 < a0) = false := decide_eq_false c7
   clear c7
   simp only [Option.some.injEq, Prod.mk.injEq] at H
   obtain ⟨rfl, rfl, rfl⟩ := H
   go_enter Tryd.func50, Tryd.ntmps50
   go_wp2_with (first | ((with_reducible refine gate_dst (N := 2) rfl ?_); refine box_event ?hg (N := 2) ?hd (cs := #[.bool false, .int .i64 0, .int .i64 0]) (t := 23) ?hr ?_; (case hd => rfl); (case hg => rfl); (case hr => first | (go_simp; done) | (go_simp; rfl)); intro gb141 hg w12 hbox hb; have n0_ := kW HB hb; have n1_ := Aside0.mk (hbox); have n2_ := Aside0.mk ((by rw [hg]; exact (below_size (bS HB)) : w.heap.size ≤ gb141)); have n3_ := Aside0.mk ((by rw [hg]; exact (below_size (bS HB)) : w.heap.size ≤ gb141)); clear HB; have HB := n0_; have BK141 := n1_; have GW141 := n2_; have GE141 := n3_; clear n0_ n1_ n2_ n3_; clear hb hbox hg; have hcz13_0 := cz0 BK141; have hcz13_1 := cz1 BK141; have hcz13_2 := cz2 BK141; have hfz13_0 := fz BK141 0; have hfz13_1 := fz BK141 1; have hfz13_2 := fz BK141 2))
   refine bodyPost_ret (results_cell_row rfl _ _ gb141 23 #[.bool false, .int .i64 0, .int .i64 a0] (0, 0) _ rfl (by (with_reducible repeat (first | refine b1 ?_ _ | refine b2 ?_ | refine b3 ?_ _)); refine blk_put (cs := #[.bool false, .int .i64 0, .int .i64 0]) ?_ 2 _ rfl; (with_reducible repeat (first | refine b1 ?_ _ | refine b2 ?_ | refine b3 ?_ _)); refine blk_put (cs := #[.bool false, .int .i64 0, .int .i64 0]) ?_ 1 _ rfl; (with_reducible repeat (first | refine b1 ?_ _ | refine b2 ?_ | refine b3 ?_ _)); refine blk_put (cs := #[.bool false, .int .i64 0, .int .i64 0]) ?_ 0 _ rfl; (with_reducible repeat (first | refine b1 ?_ _ | refine b2 ?_ | refine b3 ?_ _)); exact BK141.out) Tryd.underlying23 rfl (by kernel_rfl)) rfl ?_
   exact ⟨eS, bS HB⟩

def congr_size.f (a0 : Int) : Option (Int) := if a0 < 0 then (some (IntKind.u64.wrap (-(IntKind.u64.wrap (a0))))) else (some (IntKind.u64.wrap (a0)))
set_option maxHeartbeats 8000000 in
set_option maxRecDepth 100000 in
theorem congr_size.calls (a0 : Int) (r : Int) (w : World) (h : congr_size.f a0 = some r) :
  Calls Tryd.prog 52 #[.int .i64 a0] w fun e w' => e = .returned (.int .u64 r) ∧ Drawn0 w w' := by
 have H : (if a0 < 0 then (some (IntKind.u64.wrap (-(IntKind.u64.wrap (a0))))) else (some (IntKind.u64.wrap (a0)))) = some r := h
 clear h
 by_cases c2 : a0 < 0
 ·
  rw [if_pos c2] at H
  have c2b0 : decide (a0 < 0) = true := decide_eq_true c2
  clear c2
  obtain rfl := Option.some.inj H
  go_enter Tryd.func52, Tryd.ntmps52
  go_wp2
  go_ret
  exact ⟨by first | rfl | (simp; done) | (simp [*]; done), by repeat (first | exact Drawn0.refl _ | apply Drawn0.step)⟩
 ·
  rw [if_neg c2] at H
  have c2b0 : decide (a0 < 0) = false := decide_eq_false c2
  clear c2
  obtain rfl := Option.some.inj H
  go_enter Tryd.func52, Tryd.ntmps52
  go_wp2
  go_ret
  exact ⟨by first | rfl | (simp; done) | (simp [*]; done), by repeat (first | exact Drawn0.refl _ | apply Drawn0.step)⟩

def congr_rest.f (a0 : Int) (a1 : Int) : Option (Int) := (congr_size.f a0).bind fun t148 => (if a1 = 0 then (none) else (if a0 < 0 then (if (Int.tmod t148 a1) > 0 then (some (IntKind.u64.wrap (a1 - (Int.tmod t148 a1)))) else (some (Int.tmod t148 a1))) else (some (Int.tmod t148 a1))))
set_option maxHeartbeats 8000000 in
set_option maxRecDepth 100000 in
theorem congr_rest.calls (a0 : Int) (a1 : Int) (r : Int) (w : World) (h : congr_rest.f a0 a1 = some r) :
  Calls Tryd.prog 53 #[.int .i64 a0, .int .u64 a1] w fun e w' => e = .returned (.int .u64 r) ∧ Drawn0 w w' := by
 have H : ((congr_size.f a0).bind fun t148 => (if a1 = 0 then (none) else (if a0 < 0 then (if (Int.tmod t148 a1) > 0 then (some (IntKind.u64.wrap (a1 - (Int.tmod t148 a1)))) else (some (Int.tmod t148 a1))) else (some (Int.tmod t148 a1))))) = some r := h
 clear h
 replace H := Option.bind_eq_some_iff.mp H
 obtain ⟨t148, A30, H⟩ := H
 replace H : (if a1 = 0 then (none) else (if a0 < 0 then (if (Int.tmod t148 a1) > 0 then (some (IntKind.u64.wrap (a1 - (Int.tmod t148 a1)))) else (some (Int.tmod t148 a1))) else (some (Int.tmod t148 a1)))) = some r := H
 have A3 := Aside0.mk A30
 clear A30
 by_cases c4 : a1 = 0
 ·
  rw [if_pos c4] at H
  exact absurd H (by simp)
 ·
  rw [if_neg c4] at H
  have c4b0 : (a1 == 0) = false := beq_eq_false_iff_ne.mpr c4
  have c4b1 : (a1 != 0) = true := bne_iff_ne.mpr c4
  by_cases c5 : a0 < 0
  ·
   rw [if_pos c5] at H
   have c5b0 : decide (a0 < 0) = true := decide_eq_true c5
   clear c5
   by_cases c6 : (Int.tmod t148 a1) > 0
   ·
    rw [if_pos c6] at H
    have c6b0 : decide (0 < (Int.tmod t148 a1)) = true := decide_eq_true c6
    clear c6
    obtain rfl := Option.some.inj H
    go_enter Tryd.func53, Tryd.ntmps53
    go_wp2_with (first | ((with_reducible refine gate_callee (f := 52) rfl ?_); refine goesL_ (some 7) rfl rfl Tryd.func52 (by kernel_rfl) rfl #[.int .i64 a0] rfl mS ?_; (with_reducible refine (congr_size.calls a0 t148 _ A3.out).mono ?_); rintro e w' ⟨rfl, ⟨nd, rfl⟩⟩; refine ⟨_, rfl, ?_⟩))
    go_ret
    exact ⟨by first | rfl | (simp; done) | (simp [*]; done), by repeat (first | exact Drawn0.refl _ | apply Drawn0.step)⟩
   ·
    rw [if_neg c6] at H
    have c6b0 : decide (0 < (Int.tmod t148 a1)) = false := decide_eq_false c6
    clear c6
    obtain rfl := Option.some.inj H
    go_enter Tryd.func53, Tryd.ntmps53
    go_wp2_with (first | ((with_reducible refine gate_callee (f := 52) rfl ?_); refine goesL_ (some 7) rfl rfl Tryd.func52 (by kernel_rfl) rfl #[.int .i64 a0] rfl mS ?_; (with_reducible refine (congr_size.calls a0 t148 _ A3.out).mono ?_); rintro e w' ⟨rfl, ⟨nd, rfl⟩⟩; refine ⟨_, rfl, ?_⟩))
    go_ret
    exact ⟨by first | rfl | (simp; done) | (simp [*]; done), by repeat (first | exact Drawn0.refl _ | apply Drawn0.step)⟩
  ·
   rw [if_neg c5] at H
   have c5b0 : decide (a0 < 0) = false := decide_eq_false c5
   clear c5
   obtain rfl := Option.some.inj H
   go_enter Tryd.func53, Tryd.ntmps53
   go_wp2_with (first | ((with_reducible refine gate_callee (f := 52) rfl ?_); refine goesL_ (some 7) rfl rfl Tryd.func52 (by kernel_rfl) rfl #[.int .i64 a0] rfl mS ?_; (with_reducible refine (congr_size.calls a0 t148 _ A3.out).mono ?_); rintro e w' ⟨rfl, ⟨nd, rfl⟩⟩; refine ⟨_, rfl, ?_⟩))
   go_ret
   exact ⟨by first | rfl | (simp; done) | (simp [*]; done), by repeat (first | exact Drawn0.refl _ | apply Drawn0.step)⟩

def congr_of.j0 : Nat → Int → Int → Int → Option (Bool × Int × Int)
 | 0, _, _, _ => none
 | k + 1, x0, x1, x6 => if x6 > 4294967295 then ((congr_none.f).bind fun bt151 => (some (bt151.1, bt151.2.1, bt151.2.2))) else (if (IntKind.u64.wrap (wrap64 (2147483647 - (wrap64 ((-2147483648) + (wrap64 (x6))))))) < x0 then (some (false, 0, wrap64 ((-2147483648) + (wrap64 (x6))))) else (some (false, wrap64 (x0), wrap64 (x1))))
def congr_of.f (k : Nat) (a0 : Int) (a1 : Int) : Option (Bool × Int × Int) := (congr_rest.f (-2147483648) a0).bind fun t150 => (if a1 < t150 then (congr_of.j0 k a0 a1 (IntKind.u64.wrap (a1 + (IntKind.u64.wrap (a0 - t150))))) else (congr_of.j0 k a0 a1 (IntKind.u64.wrap (a1 - t150))))
set_option maxHeartbeats 8000000 in
set_option maxRecDepth 100000 in
theorem congr_of.calls (k : Nat) (a0 : Int) (a1 : Int) (r1 : Bool) (r2 : Int) (r3 : Int) (w : World) (h : congr_of.f k a0 a1 = some (r1, r2, r3)) :
  Calls Tryd.prog 51 #[.int .u64 a0, .int .u64 a1] w fun e w' => e = .returned (.agg #[.bool r1, .int .i64 r2, .int .i64 r3]) ∧ Below w.heap.size w w' := by
 have hu23 := Tryd.underlying23
 have HB := Aside0.mk (Below.refl w.heap.size w)
 have H : ((congr_rest.f (-2147483648) a0).bind fun t150 => (if a1 < t150 then (congr_of.j0 k a0 a1 (IntKind.u64.wrap (a1 + (IntKind.u64.wrap (a0 - t150))))) else (congr_of.j0 k a0 a1 (IntKind.u64.wrap (a1 - t150))))) = some (r1, r2, r3) := h
 clear h
 replace H := Option.bind_eq_some_iff.mp H
 obtain ⟨t150, A30, H⟩ := H
 replace H : (if a1 < t150 then (congr_of.j0 k a0 a1 (IntKind.u64.wrap (a1 + (IntKind.u64.wrap (a0 - t150))))) else (congr_of.j0 k a0 a1 (IntKind.u64.wrap (a1 - t150)))) = some (r1, r2, r3) := H
 have A3 := Aside0.mk A30
 clear A30
 have HC4 := Aside0.mk H
 clear H
 go_enter Tryd.func51, Tryd.ntmps51
 go_upto_if 15 with (first | ((with_reducible refine gate_dst (N := 4) rfl ?_); refine box_event ?hg (N := 4) ?hd (cs := #[.bool false, .int .i64 0, .int .i64 0]) (t := 23) ?hr ?_; (case hd => rfl); (case hg => rfl); (case hr => first | (go_simp; done) | (go_simp; rfl)); intro gb149 hg w5 hbox hb; have n0_ := kW HB hb; have n1_ := Aside0.mk (hbox); have n2_ := Aside0.mk ((by rw [hg]; exact (below_size (bS HB)) : w.heap.size ≤ gb149)); have n3_ := Aside0.mk ((by rw [hg]; exact (below_size (bS HB)) : w.heap.size ≤ gb149)); clear HB; have HB := n0_; have BK149 := n1_; have GW149 := n2_; have GE149 := n3_; clear n0_ n1_ n2_ n3_; clear hb hbox hg) | ((with_reducible refine gate_callee (f := 53) rfl ?_); refine goesL_ (some 9) rfl rfl Tryd.func53 (by kernel_rfl) rfl #[.int .i64 (-2147483648), .int .u64 a0] rfl mS ?_; (with_reducible refine (congr_rest.calls (-2147483648) a0 t150 _ A3.out).mono ?_); rintro e w' ⟨rfl, ⟨nd, rfl⟩⟩; refine ⟨_, rfl, ?_⟩))
 (try simp only [Act.put, lA, lB, lC])
 go_cut [6] (fun v6 wc => ∃ (kq : Nat) (x6_3 : Int), v6 = .int .u64 x6_3 ∧ Aside0 (congr_of.j0 kq a0 a1 x6_3 = some (r1, r2, r3)) ∧ Aside0 (kq ≤ k) ∧ Aside0 (wc.heap[gb149]? = some (.cells #[.bool false, .int .i64 0, .int .i64 0] 23 (0, 0))) ∧ Aside0 (Below w.heap.size w wc))
 case first =>
  have H := HC4.out
  clear HC4
  by_cases c6 : a1 < t150
  ·
   rw [if_pos c6] at H
   have c6b0 : decide (a1 < t150) = true := decide_eq_true c6
   clear c6
   (first | rw [c6b0] | (simp only [i64_w, i32_w]; rw [c6b0]) | skip)
   have H' := Aside0.mk H
   clear H
   go_wp2
   go_meet
   case rel => exact ⟨_, (IntKind.u64.wrap (a1 + (IntKind.u64.wrap (a0 - t150)))), (by first | rfl | (simp; done) | (simp [*]; done)), H', ⟨by first | omega | exact Nat.le_refl _⟩, ⟨bkS BK149⟩, ⟨bS HB⟩⟩
  ·
   rw [if_neg c6] at H
   have c6b0 : decide (a1 < t150) = false := decide_eq_false c6
   clear c6
   (first | rw [c6b0] | (simp only [i64_w, i32_w]; rw [c6b0]) | skip)
   have H' := Aside0.mk H
   clear H
   go_wp2
   go_meet
   case rel => exact ⟨_, (IntKind.u64.wrap (a1 - t150)), (by first | rfl | (simp; done) | (simp [*]; done)), H', ⟨by first | omega | exact Nat.le_refl _⟩, ⟨bkS BK149⟩, ⟨bS HB⟩⟩
 case rest =>
  clear HC4
  try clear p2
  try clear c5
  try clear c6
  try clear c6b0
  obtain ⟨kq, x6_3, rfl, HA, HJ3, BK149, HB⟩ := hcut
  cases kq with
  | zero => exact absurd HA.out (by simp [congr_of.j0])
  | succ kj3 =>
   have H := HA.out
   clear HA
   simp only [congr_of.j0] at H
   by_cases c7 : x6_3 > 4294967295
   ·
    rw [if_pos c7] at H
    have c7b0 : decide (4294967295 < x6_3) = true := decide_eq_true c7
    clear c7
    replace H := Option.bind_eq_some_iff.mp H
    obtain ⟨⟨t151, t152, t153⟩, A80, H⟩ := H
    replace H : (some (t151, t152, t153)) = some (r1, r2, r3) := H
    have A8 := Aside0.mk A80
    clear A80
    simp only [Option.some.injEq, Prod.mk.injEq] at H
    obtain ⟨rfl, rfl, rfl⟩ := H
    go_wp2_with (first | ((with_reducible refine gate_callee (f := 56) rfl ?_); refine goesL_ (some 23) rfl rfl Tryd.func56 (by kernel_rfl) rfl #[] rfl mS ?_; (with_reducible refine (congr_none.calls  t151 t152 t153 _ A8.out).mono ?_); rintro e w9 ⟨rfl, hb⟩; refine ⟨_, rfl, ?_⟩; replace BK149 := kB BK149 hb; replace HB := kW HB hb; (try clear hb); (try clear hb2); (try clear hk); (try clear hi); have hcz10_0 := cz0 BK149; have hcz10_1 := cz1 BK149; have hcz10_2 := cz2 BK149; have hfz10_0 := fz BK149 0; have hfz10_1 := fz BK149 1; have hfz10_2 := fz BK149 2))
    refine bodyPost_ret (results_cell_row rfl _ _ gb149 23 #[.bool t151, .int .i64 t152, .int .i64 t153] (0, 0) _ rfl (by (with_reducible repeat (first | refine b1 ?_ _ | refine b2 ?_ | refine b3 ?_ _)); refine blk_put (cs := #[.bool t151, .int .i64 t152, .int .i64 0]) ?_ 2 _ rfl; (with_reducible repeat (first | refine b1 ?_ _ | refine b2 ?_ | refine b3 ?_ _)); refine blk_put (cs := #[.bool t151, .int .i64 0, .int .i64 0]) ?_ 1 _ rfl; (with_reducible repeat (first | refine b1 ?_ _ | refine b2 ?_ | refine b3 ?_ _)); refine blk_put (cs := #[.bool false, .int .i64 0, .int .i64 0]) ?_ 0 _ rfl; (with_reducible repeat (first | refine b1 ?_ _ | refine b2 ?_ | refine b3 ?_ _)); exact BK149.out) Tryd.underlying23 rfl (by kernel_rfl)) rfl ?_
    exact ⟨eS, bS HB⟩
   ·
    rw [if_neg c7] at H
    have c7b0 : decide (4294967295 < x6_3) = false := decide_eq_false c7
    clear c7
    by_cases c11 : (IntKind.u64.wrap (wrap64 (2147483647 - (wrap64 ((-2147483648) + (wrap64 (x6_3))))))) < a0
    ·
     rw [if_pos c11] at H
     have c11b0 : decide ((IntKind.u64.wrap (wrap64 (2147483647 - (wrap64 ((-2147483648) + (wrap64 (x6_3))))))) < a0) = true := decide_eq_true c11
     clear c11
     simp only [Option.some.injEq, Prod.mk.injEq] at H
     obtain ⟨rfl, rfl, rfl⟩ := H
     have hcz12_0 : wc.cell? ⟨gb149, 0, none⟩ = some (.bool false) := cz0 BK149
     have hcz12_1 : wc.cell? ⟨gb149, 1, none⟩ = some (.int .i64 0) := cz1 BK149
     have hcz12_2 : wc.cell? ⟨gb149, 2, none⟩ = some (.int .i64 0) := cz2 BK149
     have hfz12_0 := fz BK149 0
     have hfz12_1 := fz BK149 1
     have hfz12_2 := fz BK149 2
     go_wp2
     refine bodyPost_ret (results_cell_row rfl _ _ gb149 23 #[.bool false, .int .i64 0, .int .i64 (wrap64 ((-2147483648) + (wrap64 (x6_3))))] (0, 0) _ rfl (by (with_reducible repeat (first | refine b1 ?_ _ | refine b2 ?_ | refine b3 ?_ _)); refine blk_put (cs := #[.bool false, .int .i64 0, .int .i64 0]) ?_ 2 _ rfl; (with_reducible repeat (first | refine b1 ?_ _ | refine b2 ?_ | refine b3 ?_ _)); refine blk_put (cs := #[.bool false, .int .i64 0, .int .i64 0]) ?_ 1 _ rfl; (with_reducible repeat (first | refine b1 ?_ _ | refine b2 ?_ | refine b3 ?_ _)); refine blk_put (cs := #[.bool false, .int .i64 0, .int .i64 0]) ?_ 0 _ rfl; (with_reducible repeat (first | refine b1 ?_ _ | refine b2 ?_ | refine b3 ?_ _)); exact BK149.out) Tryd.underlying23 rfl (by kernel_rfl)) rfl ?_
     exact ⟨eS, bS HB⟩
    ·
     rw [if_neg c11] at H
     have c11b0 : decide ((IntKind.u64.wrap (wrap64 (2147483647 - (wrap64 ((-2147483648) + (wrap64 (x6_3))))))) < a0) = false := decide_eq_false c11
     clear c11
     simp only [Option.some.injEq, Prod.mk.injEq] at H
     obtain ⟨rfl, rfl, rfl⟩ := H
     have hcz13_0 : wc.cell? ⟨gb149, 0, none⟩ = some (.bool false) := cz0 BK149
     have hcz13_1 : wc.cell? ⟨gb149, 1, none⟩ = some (.int .i64 0) := cz1 BK149
     have hcz13_2 : wc.cell? ⟨gb149, 2, none⟩ = some (.int .i64 0) := cz2 BK149
     have hfz13_0 := fz BK149 0
     have hfz13_1 := fz BK149 1
     have hfz13_2 := fz BK149 2
     go_wp2
     refine bodyPost_ret (results_cell_row rfl _ _ gb149 23 #[.bool false, .int .i64 (wrap64 (a0)), .int .i64 (wrap64 (a1))] (0, 0) _ rfl (by (with_reducible repeat (first | refine b1 ?_ _ | refine b2 ?_ | refine b3 ?_ _)); refine blk_put (cs := #[.bool false, .int .i64 (wrap64 (a0)), .int .i64 0]) ?_ 2 _ rfl; (with_reducible repeat (first | refine b1 ?_ _ | refine b2 ?_ | refine b3 ?_ _)); refine blk_put (cs := #[.bool false, .int .i64 0, .int .i64 0]) ?_ 1 _ rfl; (with_reducible repeat (first | refine b1 ?_ _ | refine b2 ?_ | refine b3 ?_ _)); refine blk_put (cs := #[.bool false, .int .i64 0, .int .i64 0]) ?_ 0 _ rfl; (with_reducible repeat (first | refine b1 ?_ _ | refine b2 ?_ | refine b3 ?_ _)); exact BK149.out) Tryd.underlying23 rfl (by kernel_rfl)) rfl ?_
     exact ⟨eS, bS HB⟩

def congr_Of.f (k : Nat) (a0 : Int) (a1 : Int) : Option (Bool × Int × Int) := if a0 = 0 then ((congr_constant.f a1).bind fun bt155 => (some (bt155.1, bt155.2.1, bt155.2.2))) else ((congr_size.f a0).bind fun t158 => ((congr_size.f a0).bind fun t159 => ((congr_rest.f a1 t159).bind fun t160 => ((congr_of.f k t158 t160).bind fun bt161 => (some (bt161.1, bt161.2.1, bt161.2.2))))))
set_option maxHeartbeats 8000000 in
set_option maxRecDepth 100000 in
theorem congr_Of.calls (k : Nat) (a0 : Int) (a1 : Int) (r1 : Bool) (r2 : Int) (r3 : Int) (w : World) (h : congr_Of.f k a0 a1 = some (r1, r2, r3)) :
  Calls Tryd.prog 10 #[.int .i64 a0, .int .i64 a1] w fun e w' => e = .returned (.agg #[.bool r1, .int .i64 r2, .int .i64 r3]) ∧ Below w.heap.size w w' := by
 have hu23 := Tryd.underlying23
 have HB := Aside0.mk (Below.refl w.heap.size w)
 have H : (if a0 = 0 then ((congr_constant.f a1).bind fun bt155 => (some (bt155.1, bt155.2.1, bt155.2.2))) else ((congr_size.f a0).bind fun t158 => ((congr_size.f a0).bind fun t159 => ((congr_rest.f a1 t159).bind fun t160 => ((congr_of.f k t158 t160).bind fun bt161 => (some (bt161.1, bt161.2.1, bt161.2.2))))))) = some (r1, r2, r3) := h
 clear h
 by_cases c3 : a0 = 0
 ·
  rw [if_pos c3] at H
  have c3b0 : (a0 == 0) = true := beq_iff_eq.mpr c3
  have c3b1 : (a0 != 0) = false := bne_eq_false_iff_eq.mpr c3
  clear c3
  replace H := Option.bind_eq_some_iff.mp H
  obtain ⟨⟨t155, t156, t157⟩, A40, H⟩ := H
  replace H : (some (t155, t156, t157)) = some (r1, r2, r3) := H
  have A4 := Aside0.mk A40
  clear A40
  simp only [Option.some.injEq, Prod.mk.injEq] at H
  obtain ⟨rfl, rfl, rfl⟩ := H
  go_enter Tryd.func10, Tryd.ntmps10
  go_wp2_with (first | ((with_reducible refine gate_dst (N := 4) rfl ?_); refine box_event ?hg (N := 4) ?hd (cs := #[.bool false, .int .i64 0, .int .i64 0]) (t := 23) ?hr ?_; (case hd => rfl); (case hg => rfl); (case hr => first | (go_simp; done) | (go_simp; rfl)); intro gb154 hg w5 hbox hb; have n0_ := kW HB hb; have n1_ := Aside0.mk (hbox); have n2_ := Aside0.mk ((by rw [hg]; exact (below_size (bS HB)) : w.heap.size ≤ gb154)); have n3_ := Aside0.mk ((by rw [hg]; exact (below_size (bS HB)) : w.heap.size ≤ gb154)); clear HB; have HB := n0_; have BK154 := n1_; have GW154 := n2_; have GE154 := n3_; clear n0_ n1_ n2_ n3_; clear hb hbox hg) | ((with_reducible refine gate_callee (f := 50) rfl ?_); refine goesL_ (some 8) rfl rfl Tryd.func50 (by kernel_rfl) rfl #[.int .i64 a1] rfl mS ?_; (with_reducible refine (congr_constant.calls a1 t155 t156 t157 _ A4.out).mono ?_); rintro e w6 ⟨rfl, hb⟩; refine ⟨_, rfl, ?_⟩; replace BK154 := kB BK154 hb; replace HB := kW HB hb; (try clear hb); (try clear hb2); (try clear hk); (try clear hi); have hcz7_0 := cz0 BK154; have hcz7_1 := cz1 BK154; have hcz7_2 := cz2 BK154; have hfz7_0 := fz BK154 0; have hfz7_1 := fz BK154 1; have hfz7_2 := fz BK154 2))
  refine bodyPost_ret (results_cell_row rfl _ _ gb154 23 #[.bool t155, .int .i64 t156, .int .i64 t157] (0, 0) _ rfl (by (with_reducible repeat (first | refine b1 ?_ _ | refine b2 ?_ | refine b3 ?_ _)); refine blk_put (cs := #[.bool t155, .int .i64 t156, .int .i64 0]) ?_ 2 _ rfl; (with_reducible repeat (first | refine b1 ?_ _ | refine b2 ?_ | refine b3 ?_ _)); refine blk_put (cs := #[.bool t155, .int .i64 0, .int .i64 0]) ?_ 1 _ rfl; (with_reducible repeat (first | refine b1 ?_ _ | refine b2 ?_ | refine b3 ?_ _)); refine blk_put (cs := #[.bool false, .int .i64 0, .int .i64 0]) ?_ 0 _ rfl; (with_reducible repeat (first | refine b1 ?_ _ | refine b2 ?_ | refine b3 ?_ _)); exact BK154.out) Tryd.underlying23 rfl (by kernel_rfl)) rfl ?_
  exact ⟨eS, bS HB⟩
 ·
  rw [if_neg c3] at H
  have c3b0 : (a0 == 0) = false := beq_eq_false_iff_ne.mpr c3
  have c3b1 : (a0 != 0) = true := bne_iff_ne.mpr c3
  replace H := Option.bind_eq_some_iff.mp H
  obtain ⟨t158, A80, H⟩ := H
  replace H : ((congr_size.f a0).bind fun t159 => ((congr_rest.f a1 t159).bind fun t160 => ((congr_of.f k t158 t160).bind fun bt161 => (some (bt161.1, bt161.2.1, bt161.2.2))))) = some (r1, r2, r3) := H
  have A8 := Aside0.mk A80
  clear A80
  replace H := Option.bind_eq_some_iff.mp H
  obtain ⟨t159, A90, H⟩ := H
  replace H : ((congr_rest.f a1 t159).bind fun t160 => ((congr_of.f k t158 t160).bind fun bt161 => (some (bt161.1, bt161.2.1, bt161.2.2)))) = some (r1, r2, r3) := H
  have A9 := Aside0.mk A90
  clear A90
  replace H := Option.bind_eq_some_iff.mp H
  obtain ⟨t160, A100, H⟩ := H
  replace H : ((congr_of.f k t158 t160).bind fun bt161 => (some (bt161.1, bt161.2.1, bt161.2.2))) = some (r1, r2, r3) := H
  have A10 := Aside0.mk A100
  clear A100
  replace H := Option.bind_eq_some_iff.mp H
  obtain ⟨⟨t161, t162, t163⟩, A110, H⟩ := H
  replace H : (some (t161, t162, t163)) = some (r1, r2, r3) := H
  have A11 := Aside0.mk A110
  clear A110
  simp only [Option.some.injEq, Prod.mk.injEq] at H
  obtain ⟨rfl, rfl, rfl⟩ := H
  go_enter Tryd.func10, Tryd.ntmps10
  go_wp2_with (first | ((with_reducible refine gate_dst (N := 4) rfl ?_); refine box_event ?hg (N := 4) ?hd (cs := #[.bool false, .int .i64 0, .int .i64 0]) (t := 23) ?hr ?_; (case hd => rfl); (case hg => rfl); (case hr => first | (go_simp; done) | (go_simp; rfl)); intro gb154 hg w12 hbox hb; have n0_ := kW HB hb; have n1_ := Aside0.mk (hbox); have n2_ := Aside0.mk ((by rw [hg]; exact (below_size (bS HB)) : w.heap.size ≤ gb154)); have n3_ := Aside0.mk ((by rw [hg]; exact (below_size (bS HB)) : w.heap.size ≤ gb154)); clear HB; have HB := n0_; have BK154 := n1_; have GW154 := n2_; have GE154 := n3_; clear n0_ n1_ n2_ n3_; clear hb hbox hg) | ((with_reducible refine gate_callee (f := 52) rfl ?_); refine goesL_ (some 10) rfl rfl Tryd.func52 (by kernel_rfl) rfl #[.int .i64 a0] rfl mS ?_; (with_reducible refine (congr_size.calls a0 t158 _ A8.out).mono ?_); rintro e w' ⟨rfl, ⟨nd, rfl⟩⟩; refine ⟨_, rfl, ?_⟩; (try (rw [drewN_self w12]; generalize hq_ : World.drewN w12 _ = w12; have n0_ : Aside0 (w12.heap[gb154]? = some (.cells #[.bool false, .int .i64 0, .int .i64 0] 23 (0, 0))) := ⟨by rw [← hq_]; exact (bkS BK154)⟩; have n1_ : Aside0 (Below w.heap.size w w12) := ⟨by rw [← hq_]; exact (bS HB)⟩; clear BK154 HB hq_; have BK154 := n0_; have HB := n1_; clear n0_ n1_))) | ((with_reducible refine gate_callee (f := 52) rfl ?_); refine goesL_ (some 13) rfl rfl Tryd.func52 (by kernel_rfl) rfl #[.int .i64 a0] rfl mS ?_; (with_reducible refine (congr_size.calls a0 t159 _ A9.out).mono ?_); rintro e w' ⟨rfl, ⟨nd, rfl⟩⟩; refine ⟨_, rfl, ?_⟩; (try (rw [drewN_self w12]; generalize hq_ : World.drewN w12 _ = w12; have n0_ : Aside0 (w12.heap[gb154]? = some (.cells #[.bool false, .int .i64 0, .int .i64 0] 23 (0, 0))) := ⟨by rw [← hq_]; exact (bkS BK154)⟩; have n1_ : Aside0 (Below w.heap.size w w12) := ⟨by rw [← hq_]; exact (bS HB)⟩; clear BK154 HB hq_; have BK154 := n0_; have HB := n1_; clear n0_ n1_))) | ((with_reducible refine gate_callee (f := 53) rfl ?_); refine goesL_ (some 14) rfl rfl Tryd.func53 (by kernel_rfl) rfl #[.int .i64 a1, .int .u64 t159] rfl mS ?_; (with_reducible refine (congr_rest.calls a1 t159 t160 _ A10.out).mono ?_); rintro e w' ⟨rfl, ⟨nd, rfl⟩⟩; refine ⟨_, rfl, ?_⟩; (try (rw [drewN_self w12]; generalize hq_ : World.drewN w12 _ = w12; have n0_ : Aside0 (w12.heap[gb154]? = some (.cells #[.bool false, .int .i64 0, .int .i64 0] 23 (0, 0))) := ⟨by rw [← hq_]; exact (bkS BK154)⟩; have n1_ : Aside0 (Below w.heap.size w w12) := ⟨by rw [← hq_]; exact (bS HB)⟩; clear BK154 HB hq_; have BK154 := n0_; have HB := n1_; clear n0_ n1_))) | ((with_reducible refine gate_callee (f := 51) rfl ?_); refine goesL_ (some 15) rfl rfl Tryd.func51 (by kernel_rfl) rfl #[.int .u64 t158, .int .u64 t160] rfl mS ?_; (with_reducible refine (congr_of.calls k t158 t160 t161 t162 t163 _ A11.out).mono ?_); rintro e w13 ⟨rfl, hb⟩; refine ⟨_, rfl, ?_⟩; replace BK154 := kB BK154 hb; replace HB := kW HB hb; (try clear hb); (try clear hb2); (try clear hk); (try clear hi); have hcz14_0 := cz0 BK154; have hcz14_1 := cz1 BK154; have hcz14_2 := cz2 BK154; have hfz14_0 := fz BK154 0; have hfz14_1 := fz BK154 1; have hfz14_2 := fz BK154 2))
  refine bodyPost_ret (results_cell_row rfl _ _ gb154 23 #[.bool t161, .int .i64 t162, .int .i64 t163] (0, 0) _ rfl (by (with_reducible repeat (first | refine b1 ?_ _ | refine b2 ?_ | refine b3 ?_ _)); refine blk_put (cs := #[.bool t161, .int .i64 t162, .int .i64 0]) ?_ 2 _ rfl; (with_reducible repeat (first | refine b1 ?_ _ | refine b2 ?_ | refine b3 ?_ _)); refine blk_put (cs := #[.bool t161, .int .i64 0, .int .i64 0]) ?_ 1 _ rfl; (with_reducible repeat (first | refine b1 ?_ _ | refine b2 ?_ | refine b3 ?_ _)); refine blk_put (cs := #[.bool false, .int .i64 0, .int .i64 0]) ?_ 0 _ rfl; (with_reducible repeat (first | refine b1 ?_ _ | refine b2 ?_ | refine b3 ?_ _)); exact BK154.out) Tryd.underlying23 rfl (by kernel_rfl)) rfl ?_
  exact ⟨eS, bS HB⟩

def congr_Has.j0 : Nat → Int → Bool → Bool → Int → Int → Option (Bool)
 | 0, _, _, _, _, _ => none
 | k + 1, x1, x5, x165000, x165001, x165002 => if x5 = true then (some false) else (if x165001 = 0 then (some (x1 == x165002)) else ((congr_rest.f x1 (IntKind.u64.wrap (x165001))).bind fun t165 => (some (t165 == (IntKind.u64.wrap (x165002))))))
def congr_Has.f (k : Nat) (a0_0 : Bool) (a0_1 : Int) (a0_2 : Int) (a1 : Int) : Option (Bool) := if a0_0 = true then (congr_Has.j0 k a1 true a0_0 a0_1 a0_2) else (if a1 < (-2147483648) then (congr_Has.j0 k a1 true a0_0 a0_1 a0_2) else (congr_Has.j0 k a1 (decide (a1 > 2147483647)) a0_0 a0_1 a0_2))
set_option maxHeartbeats 8000000 in
set_option maxRecDepth 100000 in
theorem congr_Has.calls (k : Nat) (a0_0 : Bool) (a0_1 : Int) (a0_2 : Int) (a1 : Int) (r : Bool) (w : World) (h : congr_Has.f k a0_0 a0_1 a0_2 a1 = some r) :
  Calls Tryd.prog 14 #[.agg #[.bool a0_0, .int .i64 a0_1, .int .i64 a0_2], .int .i64 a1] w fun e w' => e = .returned (.bool r) ∧ Below w.heap.size w w' := by
 have hu23 := Tryd.underlying23
 have HB := Aside0.mk (Below.refl w.heap.size w)
 have H : (if a0_0 = true then (congr_Has.j0 k a1 true a0_0 a0_1 a0_2) else (if a1 < (-2147483648) then (congr_Has.j0 k a1 true a0_0 a0_1 a0_2) else (congr_Has.j0 k a1 (decide (a1 > 2147483647)) a0_0 a0_1 a0_2))) = some r := h
 clear h
 have HC3 := Aside0.mk H
 clear H
 go_enter Tryd.func14, Tryd.ntmps14
 go_upto_region 1 with (first | ((with_reducible refine gate_dst (N := 2) rfl ?_); refine box_event ?hg (N := 2) ?hd (cs := #[.bool a0_0, .int .i64 a0_1, .int .i64 a0_2]) (t := 23) ?hr ?_; (case hd => rfl); (case hg => rfl); (case hr => first | (go_simp; done) | (go_simp; rfl)); intro gb164 hg w4 hbox hb; have n0_ := kW HB hb; have n1_ := Aside0.mk (hbox); have n2_ := Aside0.mk ((by rw [hg]; exact (below_size (bS HB)) : w.heap.size ≤ gb164)); have n3_ := Aside0.mk ((by rw [hg]; exact (below_size (bS HB)) : w.heap.size ≤ gb164)); clear HB; have HB := n0_; have BK164 := n1_; have GW164 := n2_; have GE164 := n3_; clear n0_ n1_ n2_ n3_; clear hb hbox hg))
 repeat (go_quiet (first | ((with_reducible refine gate_dst (N := 2) rfl ?_); refine box_event ?hg (N := 2) ?hd (cs := #[.bool a0_0, .int .i64 a0_1, .int .i64 a0_2]) (t := 23) ?hr ?_; (case hd => rfl); (case hg => rfl); (case hr => first | (go_simp; done) | (go_simp; rfl)); intro gb164 hg w4 hbox hb; have n0_ := kW HB hb; have n1_ := Aside0.mk (hbox); have n2_ := Aside0.mk ((by rw [hg]; exact (below_size (bS HB)) : w.heap.size ≤ gb164)); have n3_ := Aside0.mk ((by rw [hg]; exact (below_size (bS HB)) : w.heap.size ≤ gb164)); clear HB; have HB := n0_; have BK164 := n1_; have GW164 := n2_; have GE164 := n3_; clear n0_ n1_ n2_ n3_; clear hb hbox hg)); go_upto_region 1 with (first | ((with_reducible refine gate_dst (N := 2) rfl ?_); refine box_event ?hg (N := 2) ?hd (cs := #[.bool a0_0, .int .i64 a0_1, .int .i64 a0_2]) (t := 23) ?hr ?_; (case hd => rfl); (case hg => rfl); (case hr => first | (go_simp; done) | (go_simp; rfl)); intro gb164 hg w4 hbox hb; have n0_ := kW HB hb; have n1_ := Aside0.mk (hbox); have n2_ := Aside0.mk ((by rw [hg]; exact (below_size (bS HB)) : w.heap.size ≤ gb164)); have n3_ := Aside0.mk ((by rw [hg]; exact (below_size (bS HB)) : w.heap.size ≤ gb164)); clear HB; have HB := n0_; have BK164 := n1_; have GW164 := n2_; have GE164 := n3_; clear n0_ n1_ n2_ n3_; clear hb hbox hg)))
 (try simp only [Act.put, lA, lB, lC])
 go_cut [5] (fun v5 wc => ∃ (kq : Nat) (x5_2 : Bool), v5 = .bool x5_2 ∧ Aside0 (congr_Has.j0 kq a1 x5_2 a0_0 a0_1 a0_2 = some r) ∧ Aside0 (kq ≤ k) ∧ Aside0 (wc.heap[gb164]? = some (.cells #[.bool a0_0, .int .i64 a0_1, .int .i64 a0_2] 23 (0, 0))) ∧ Aside0 (Below w.heap.size w wc))
 case first =>
  have H := HC3.out
  clear HC3
  by_cases c5 : a0_0 = true
  ·
   subst c5
   have H1 : (congr_Has.j0 k a1 true true a0_1 a0_2) = some r := by rw [if_pos rfl] at H; exact H
   clear H
   have H := H1
   clear H1
   have H' := Aside0.mk H
   clear H
   have hcz6_0 := cz0 BK164
   have hcz6_1 := cz1 BK164
   have hcz6_2 := cz2 BK164
   have hfz6_0 := fz BK164 0
   have hfz6_1 := fz BK164 1
   have hfz6_2 := fz BK164 2
   go_wp2
   repeat (go_quiet (fail); try go_wp2)
   go_meet
   case rel => exact ⟨_, (true), (by first | rfl | (simp; done) | (simp [*]; done)), H', ⟨by first | omega | exact Nat.le_refl _⟩, ⟨bkS BK164⟩, ⟨bS HB⟩⟩
  ·
   replace c5 := Bool.eq_false_iff.mpr c5
   subst c5
   have H1 : (if a1 < (-2147483648) then (congr_Has.j0 k a1 true false a0_1 a0_2) else (congr_Has.j0 k a1 (decide (a1 > 2147483647)) false a0_1 a0_2)) = some r := by rw [if_neg (show ¬ (false = true) by decide)] at H; exact H
   clear H
   have H := H1
   clear H1
   by_cases c7 : a1 < (-2147483648)
   ·
    rw [if_pos c7] at H
    have c7b0 : decide (a1 < (-2147483648)) = true := decide_eq_true c7
    clear c7
    (first | rw [c7b0] | (simp only [i64_w, i32_w]; rw [c7b0]) | skip)
    have H' := Aside0.mk H
    clear H
    have hcz8_0 := cz0 BK164
    have hcz8_1 := cz1 BK164
    have hcz8_2 := cz2 BK164
    have hfz8_0 := fz BK164 0
    have hfz8_1 := fz BK164 1
    have hfz8_2 := fz BK164 2
    go_wp2
    repeat (go_quiet (fail); try go_wp2)
    go_meet
    case rel => exact ⟨_, (true), (by first | rfl | (simp; done) | (simp [*]; done)), H', ⟨by first | omega | exact Nat.le_refl _⟩, ⟨bkS BK164⟩, ⟨bS HB⟩⟩
   ·
    rw [if_neg c7] at H
    have c7b0 : decide (a1 < (-2147483648)) = false := decide_eq_false c7
    clear c7
    (first | rw [c7b0] | (simp only [i64_w, i32_w]; rw [c7b0]) | skip)
    have H' := Aside0.mk H
    clear H
    have hcz9_0 := cz0 BK164
    have hcz9_1 := cz1 BK164
    have hcz9_2 := cz2 BK164
    have hfz9_0 := fz BK164 0
    have hfz9_1 := fz BK164 1
    have hfz9_2 := fz BK164 2
    go_wp2
    repeat (go_quiet (fail); try go_wp2)
    go_meet
    case rel => exact ⟨_, (decide (a1 > 2147483647)), (by first | rfl | (simp; done) | (simp [*]; done)), H', ⟨by first | omega | exact Nat.le_refl _⟩, ⟨bkS BK164⟩, ⟨bS HB⟩⟩
 case rest =>
  clear HC3
  try clear c1
  try clear p2
  try clear c5
  try clear c7
  try clear c7b0
  try clear hcz6_0
  try clear hcz6_1
  try clear hcz6_2
  try clear hcz8_0
  try clear hcz8_1
  try clear hcz8_2
  try clear hcz9_0
  try clear hcz9_1
  try clear hcz9_2
  try clear hfz6_0
  try clear hfz6_1
  try clear hfz6_2
  try clear hfz8_0
  try clear hfz8_1
  try clear hfz8_2
  try clear hfz9_0
  try clear hfz9_1
  try clear hfz9_2
  obtain ⟨kq, x5_2, rfl, HA, HJ2, BK164, HB⟩ := hcut
  cases kq with
  | zero => exact absurd HA.out (by simp [congr_Has.j0])
  | succ kj2 =>
   have H := HA.out
   clear HA
   simp only [congr_Has.j0] at H
   by_cases c10 : x5_2 = true
   ·
    subst c10
    have H1 : (some false) = some r := by rw [if_pos rfl] at H; exact H
    clear H
    have H := H1
    clear H1
    obtain rfl := Option.some.inj H
    go_wp2
    repeat (go_quiet (fail); try go_wp2)
    go_ret
    exact ⟨eS, bS HB⟩
   ·
    replace c10 := Bool.eq_false_iff.mpr c10
    subst c10
    have H1 : (if a0_1 = 0 then (some (a1 == a0_2)) else ((congr_rest.f a1 (IntKind.u64.wrap (a0_1))).bind fun t165 => (some (t165 == (IntKind.u64.wrap (a0_2)))))) = some r := by rw [if_neg (show ¬ (false = true) by decide)] at H; exact H
    clear H
    have H := H1
    clear H1
    by_cases c11 : a0_1 = 0
    ·
     rw [if_pos c11] at H
     have c11b0 : (a0_1 == 0) = true := beq_iff_eq.mpr c11
     have c11b1 : (a0_1 != 0) = false := bne_eq_false_iff_eq.mpr c11
     clear c11
     obtain rfl := Option.some.inj H
     have hcz12_0 : wc.cell? ⟨gb164, 0, none⟩ = some (.bool a0_0) := cz0 BK164
     have hcz12_1 : wc.cell? ⟨gb164, 1, none⟩ = some (.int .i64 a0_1) := cz1 BK164
     have hcz12_2 : wc.cell? ⟨gb164, 2, none⟩ = some (.int .i64 a0_2) := cz2 BK164
     have hfz12_0 := fz BK164 0
     have hfz12_1 := fz BK164 1
     have hfz12_2 := fz BK164 2
     go_wp2
     repeat (go_quiet (fail); try go_wp2)
     go_ret
     exact ⟨eS, bS HB⟩
    ·
     rw [if_neg c11] at H
     have c11b0 : (a0_1 == 0) = false := beq_eq_false_iff_ne.mpr c11
     have c11b1 : (a0_1 != 0) = true := bne_iff_ne.mpr c11
     replace H := Option.bind_eq_some_iff.mp H
     obtain ⟨t165, A130, H⟩ := H
     replace H : (some (t165 == (IntKind.u64.wrap (a0_2)))) = some r := H
     have A13 := Aside0.mk A130
     clear A130
     obtain rfl := Option.some.inj H
     have hcz14_0 : wc.cell? ⟨gb164, 0, none⟩ = some (.bool a0_0) := cz0 BK164
     have hcz14_1 : wc.cell? ⟨gb164, 1, none⟩ = some (.int .i64 a0_1) := cz1 BK164
     have hcz14_2 : wc.cell? ⟨gb164, 2, none⟩ = some (.int .i64 a0_2) := cz2 BK164
     have hfz14_0 := fz BK164 0
     have hfz14_1 := fz BK164 1
     have hfz14_2 := fz BK164 2
     go_wp2_with (first | (go_at_call 53; (with_reducible refine (congr_rest.calls a1 (IntKind.u64.wrap (a0_1)) t165 _ A13.out).mono ?_); rintro e w' ⟨rfl, ⟨nd, rfl⟩⟩; (try first | exact ⟨rfl, _, World.drewN_drewN _ _ _⟩ | exact ⟨rfl, _, Eq.trans (World.drewN_drewN _ _ _) (congrArg (World.drewN _) (Nat.add_assoc _ _ _))⟩)))
     repeat (go_quiet (first | (go_at_call 53; (with_reducible refine (congr_rest.calls a1 (IntKind.u64.wrap (a0_1)) t165 _ A13.out).mono ?_); rintro e w' ⟨rfl, ⟨nd, rfl⟩⟩; (try first | exact ⟨rfl, _, World.drewN_drewN _ _ _⟩ | exact ⟨rfl, _, Eq.trans (World.drewN_drewN _ _ _) (congrArg (World.drewN _) (Nat.add_assoc _ _ _))⟩))); try go_wp2_with (first | (go_at_call 53; (with_reducible refine (congr_rest.calls a1 (IntKind.u64.wrap (a0_1)) t165 _ A13.out).mono ?_); rintro e w' ⟨rfl, ⟨nd, rfl⟩⟩; (try first | exact ⟨rfl, _, World.drewN_drewN _ _ _⟩ | exact ⟨rfl, _, Eq.trans (World.drewN_drewN _ _ _) (congrArg (World.drewN _) (Nat.add_assoc _ _ _))⟩))))
     go_ret
     exact ⟨eS, bS HB⟩

def congr_by.f (k : Nat) (a0 : Int) (a1 : Int) : Option (Bool × Int × Int) := if a0 = 0 then ((congr_constant.f a1).bind fun bt167 => (some (bt167.1, bt167.2.1, bt167.2.2))) else ((congr_rest.f a1 a0).bind fun t170 => ((congr_of.f k a0 t170).bind fun bt171 => (some (bt171.1, bt171.2.1, bt171.2.2))))
set_option maxHeartbeats 8000000 in
set_option maxRecDepth 100000 in
theorem congr_by.calls (k : Nat) (a0 : Int) (a1 : Int) (r1 : Bool) (r2 : Int) (r3 : Int) (w : World) (h : congr_by.f k a0 a1 = some (r1, r2, r3)) :
  Calls Tryd.prog 60 #[.int .u64 a0, .int .i64 a1] w fun e w' => e = .returned (.agg #[.bool r1, .int .i64 r2, .int .i64 r3]) ∧ Below w.heap.size w w' := by
 have hu23 := Tryd.underlying23
 have HB := Aside0.mk (Below.refl w.heap.size w)
 have H : (if a0 = 0 then ((congr_constant.f a1).bind fun bt167 => (some (bt167.1, bt167.2.1, bt167.2.2))) else ((congr_rest.f a1 a0).bind fun t170 => ((congr_of.f k a0 t170).bind fun bt171 => (some (bt171.1, bt171.2.1, bt171.2.2))))) = some (r1, r2, r3) := h
 clear h
 by_cases c3 : a0 = 0
 ·
  rw [if_pos c3] at H
  have c3b0 : (a0 == 0) = true := beq_iff_eq.mpr c3
  have c3b1 : (a0 != 0) = false := bne_eq_false_iff_eq.mpr c3
  clear c3
  replace H := Option.bind_eq_some_iff.mp H
  obtain ⟨⟨t167, t168, t169⟩, A40, H⟩ := H
  replace H : (some (t167, t168, t169)) = some (r1, r2, r3) := H
  have A4 := Aside0.mk A40
  clear A40
  simp only [Option.some.injEq, Prod.mk.injEq] at H
  obtain ⟨rfl, rfl, rfl⟩ := H
  go_enter Tryd.func60, Tryd.ntmps60
  go_wp2_with (first | ((with_reducible refine gate_dst (N := 4) rfl ?_); refine box_event ?hg (N := 4) ?hd (cs := #[.bool false, .int .i64 0, .int .i64 0]) (t := 23) ?hr ?_; (case hd => rfl); (case hg => rfl); (case hr => first | (go_simp; done) | (go_simp; rfl)); intro gb166 hg w5 hbox hb; have n0_ := kW HB hb; have n1_ := Aside0.mk (hbox); have n2_ := Aside0.mk ((by rw [hg]; exact (below_size (bS HB)) : w.heap.size ≤ gb166)); have n3_ := Aside0.mk ((by rw [hg]; exact (below_size (bS HB)) : w.heap.size ≤ gb166)); clear HB; have HB := n0_; have BK166 := n1_; have GW166 := n2_; have GE166 := n3_; clear n0_ n1_ n2_ n3_; clear hb hbox hg) | ((with_reducible refine gate_callee (f := 50) rfl ?_); refine goesL_ (some 8) rfl rfl Tryd.func50 (by kernel_rfl) rfl #[.int .i64 a1] rfl mS ?_; (with_reducible refine (congr_constant.calls a1 t167 t168 t169 _ A4.out).mono ?_); rintro e w6 ⟨rfl, hb⟩; refine ⟨_, rfl, ?_⟩; replace BK166 := kB BK166 hb; replace HB := kW HB hb; (try clear hb); (try clear hb2); (try clear hk); (try clear hi); have hcz7_0 := cz0 BK166; have hcz7_1 := cz1 BK166; have hcz7_2 := cz2 BK166; have hfz7_0 := fz BK166 0; have hfz7_1 := fz BK166 1; have hfz7_2 := fz BK166 2))
  refine bodyPost_ret (results_cell_row rfl _ _ gb166 23 #[.bool t167, .int .i64 t168, .int .i64 t169] (0, 0) _ rfl (by (with_reducible repeat (first | refine b1 ?_ _ | refine b2 ?_ | refine b3 ?_ _)); refine blk_put (cs := #[.bool t167, .int .i64 t168, .int .i64 0]) ?_ 2 _ rfl; (with_reducible repeat (first | refine b1 ?_ _ | refine b2 ?_ | refine b3 ?_ _)); refine blk_put (cs := #[.bool t167, .int .i64 0, .int .i64 0]) ?_ 1 _ rfl; (with_reducible repeat (first | refine b1 ?_ _ | refine b2 ?_ | refine b3 ?_ _)); refine blk_put (cs := #[.bool false, .int .i64 0, .int .i64 0]) ?_ 0 _ rfl; (with_reducible repeat (first | refine b1 ?_ _ | refine b2 ?_ | refine b3 ?_ _)); exact BK166.out) Tryd.underlying23 rfl (by kernel_rfl)) rfl ?_
  exact ⟨eS, bS HB⟩
 ·
  rw [if_neg c3] at H
  have c3b0 : (a0 == 0) = false := beq_eq_false_iff_ne.mpr c3
  have c3b1 : (a0 != 0) = true := bne_iff_ne.mpr c3
  replace H := Option.bind_eq_some_iff.mp H
  obtain ⟨t170, A80, H⟩ := H
  replace H : ((congr_of.f k a0 t170).bind fun bt171 => (some (bt171.1, bt171.2.1, bt171.2.2))) = some (r1, r2, r3) := H
  have A8 := Aside0.mk A80
  clear A80
  replace H := Option.bind_eq_some_iff.mp H
  obtain ⟨⟨t171, t172, t173⟩, A90, H⟩ := H
  replace H : (some (t171, t172, t173)) = some (r1, r2, r3) := H
  have A9 := Aside0.mk A90
  clear A90
  simp only [Option.some.injEq, Prod.mk.injEq] at H
  obtain ⟨rfl, rfl, rfl⟩ := H
  go_enter Tryd.func60, Tryd.ntmps60
  go_wp2_with (first | ((with_reducible refine gate_dst (N := 4) rfl ?_); refine box_event ?hg (N := 4) ?hd (cs := #[.bool false, .int .i64 0, .int .i64 0]) (t := 23) ?hr ?_; (case hd => rfl); (case hg => rfl); (case hr => first | (go_simp; done) | (go_simp; rfl)); intro gb166 hg w10 hbox hb; have n0_ := kW HB hb; have n1_ := Aside0.mk (hbox); have n2_ := Aside0.mk ((by rw [hg]; exact (below_size (bS HB)) : w.heap.size ≤ gb166)); have n3_ := Aside0.mk ((by rw [hg]; exact (below_size (bS HB)) : w.heap.size ≤ gb166)); clear HB; have HB := n0_; have BK166 := n1_; have GW166 := n2_; have GE166 := n3_; clear n0_ n1_ n2_ n3_; clear hb hbox hg) | ((with_reducible refine gate_callee (f := 53) rfl ?_); refine goesL_ (some 12) rfl rfl Tryd.func53 (by kernel_rfl) rfl #[.int .i64 a1, .int .u64 a0] rfl mS ?_; (with_reducible refine (congr_rest.calls a1 a0 t170 _ A8.out).mono ?_); rintro e w' ⟨rfl, ⟨nd, rfl⟩⟩; refine ⟨_, rfl, ?_⟩; (try (rw [drewN_self w10]; generalize hq_ : World.drewN w10 _ = w10; have n0_ : Aside0 (w10.heap[gb166]? = some (.cells #[.bool false, .int .i64 0, .int .i64 0] 23 (0, 0))) := ⟨by rw [← hq_]; exact (bkS BK166)⟩; have n1_ : Aside0 (Below w.heap.size w w10) := ⟨by rw [← hq_]; exact (bS HB)⟩; clear BK166 HB hq_; have BK166 := n0_; have HB := n1_; clear n0_ n1_))) | ((with_reducible refine gate_callee (f := 51) rfl ?_); refine goesL_ (some 13) rfl rfl Tryd.func51 (by kernel_rfl) rfl #[.int .u64 a0, .int .u64 t170] rfl mS ?_; (with_reducible refine (congr_of.calls k a0 t170 t171 t172 t173 _ A9.out).mono ?_); rintro e w11 ⟨rfl, hb⟩; refine ⟨_, rfl, ?_⟩; replace BK166 := kB BK166 hb; replace HB := kW HB hb; (try clear hb); (try clear hb2); (try clear hk); (try clear hi); have hcz12_0 := cz0 BK166; have hcz12_1 := cz1 BK166; have hcz12_2 := cz2 BK166; have hfz12_0 := fz BK166 0; have hfz12_1 := fz BK166 1; have hfz12_2 := fz BK166 2))
  refine bodyPost_ret (results_cell_row rfl _ _ gb166 23 #[.bool t171, .int .i64 t172, .int .i64 t173] (0, 0) _ rfl (by (with_reducible repeat (first | refine b1 ?_ _ | refine b2 ?_ | refine b3 ?_ _)); refine blk_put (cs := #[.bool t171, .int .i64 t172, .int .i64 0]) ?_ 2 _ rfl; (with_reducible repeat (first | refine b1 ?_ _ | refine b2 ?_ | refine b3 ?_ _)); refine blk_put (cs := #[.bool t171, .int .i64 0, .int .i64 0]) ?_ 1 _ rfl; (with_reducible repeat (first | refine b1 ?_ _ | refine b2 ?_ | refine b3 ?_ _)); refine blk_put (cs := #[.bool false, .int .i64 0, .int .i64 0]) ?_ 0 _ rfl; (with_reducible repeat (first | refine b1 ?_ _ | refine b2 ?_ | refine b3 ?_ _)); exact BK166.out) Tryd.underlying23 rfl (by kernel_rfl)) rfl ?_
  exact ⟨eS, bS HB⟩

def congr_gcd_uint64.l0 : Nat → Int → Int → Option (Int)
 | 0, _, _ => none
 | k + 1, x0, x1 => if x1 = 0 then (some x0) else (congr_gcd_uint64.l0 k x1 (Int.tmod x0 x1))
def congr_gcd_uint64.f (k : Nat) (a0 : Int) (a1 : Int) : Option (Int) := congr_gcd_uint64.l0 k a0 a1
set_option maxHeartbeats 8000000 in
set_option maxRecDepth 100000 in
theorem congr_gcd_uint64.calls (k : Nat) (a0 : Int) (a1 : Int) (r : Int) (w : World) (h : congr_gcd_uint64.f k a0 a1 = some r) :
  Calls Tryd.prog 62 #[.int .u64 a0, .int .u64 a1] w fun e w' => e = .returned (.int .u64 r) ∧ Drawn0 w w' := by
 have H : (congr_gcd_uint64.l0 k a0 a1) = some r := h
 clear h
 have H' := Aside0.mk H
 clear H
 go_enter Tryd.func62, Tryd.ntmps62
 go_wp2
 repeat (go_quiet (fail); try go_wp2)
 go_loopg [0, 1] k (fun kq v0 v1 w' => ∃ (x0_1 : Int) (x1_1 : Int), v0 = .int .u64 x0_1 ∧ v1 = .int .u64 x1_1 ∧ Aside0 (congr_gcd_uint64.l0 kq x0_1 x1_1 = some r) ∧ Aside0 (kq ≤ k) ∧ Drawn0 w w')
 case atStart => exact ⟨(a0), (a1), (by first | rfl | (simp; done) | (simp [*]; done)), (by first | rfl | (simp; done) | (simp [*]; done)), H', ⟨Nat.le_refl _⟩, by repeat (first | exact Drawn0.refl _ | apply Drawn0.step)⟩
 case round =>
  clear H'
  try clear p2
  obtain ⟨x0_1, x1_1, rfl, rfl, HA, HK1, ⟨m1, rfl⟩⟩ := hrel
  cases gk with
  | zero => exact absurd HA.out (by simp [congr_gcd_uint64.l0])
  | succ k1 =>
   have H := HA.out
   clear HA
   simp only [congr_gcd_uint64.l0] at H
   by_cases c3 : x1_1 = 0
   ·
    rw [if_pos c3] at H
    have c3b0 : (x1_1 == 0) = true := beq_iff_eq.mpr c3
    have c3b1 : (x1_1 != 0) = false := bne_eq_false_iff_eq.mpr c3
    clear c3
    obtain rfl := Option.some.inj H
    go_wp2
    repeat (go_quiet (fail); try go_wp2)
    go_ret
    exact ⟨by first | rfl | (simp; done) | (simp [*]; done), by repeat (first | exact Drawn0.refl _ | apply Drawn0.step)⟩
   ·
    rw [if_neg c3] at H
    have c3b0 : (x1_1 == 0) = false := beq_eq_false_iff_ne.mpr c3
    have c3b1 : (x1_1 != 0) = true := bne_iff_ne.mpr c3
    have H' := Aside0.mk H
    clear H
    go_wp2
    repeat (go_quiet (fail); try go_wp2)
    go_roundg k1
    case measure => have := HK1.out; omega
    case rel => exact ⟨(x1_1), (Int.tmod x0_1 x1_1), (by first | rfl | (simp; done) | (simp [*]; done)), (by first | rfl | (simp; done) | (simp [*]; done)), H', ⟨by have := HK1.out; omega⟩, by repeat (first | exact Drawn0.refl _ | apply Drawn0.step)⟩

def gimbalref31_gcd.l0 : Nat → Int → Int → Option (Int)
 | 0, _, _ => none
 | k + 1, x0, x1 => if x1 = 0 then (some x0) else (gimbalref31_gcd.l0 k x1 (Int.tmod x0 x1))
def gimbalref31_gcd.f (k : Nat) (a0 : Int) (a1 : Int) : Option (Int) := gimbalref31_gcd.l0 k a0 a1
set_option maxHeartbeats 8000000 in
set_option maxRecDepth 100000 in
theorem gimbalref31_gcd.calls (k : Nat) (a0 : Int) (a1 : Int) (r : Int) (w : World) (h : gimbalref31_gcd.f k a0 a1 = some r) :
  Calls Tryd.prog 80 #[.int .u64 a0, .int .u64 a1] w fun e w' => e = .returned (.int .u64 r) ∧ Drawn0 w w' := by
 have H : (gimbalref31_gcd.l0 k a0 a1) = some r := h
 clear h
 have H' := Aside0.mk H
 clear H
 go_enter Tryd.func80, Tryd.ntmps80
 go_wp2
 repeat (go_quiet (fail); try go_wp2)
 go_loopg [0, 1] k (fun kq v0 v1 w' => ∃ (x0_1 : Int) (x1_1 : Int), v0 = .int .u64 x0_1 ∧ v1 = .int .u64 x1_1 ∧ Aside0 (gimbalref31_gcd.l0 kq x0_1 x1_1 = some r) ∧ Aside0 (kq ≤ k) ∧ Drawn0 w w')
 case atStart => exact ⟨(a0), (a1), (by first | rfl | (simp; done) | (simp [*]; done)), (by first | rfl | (simp; done) | (simp [*]; done)), H', ⟨Nat.le_refl _⟩, by repeat (first | exact Drawn0.refl _ | apply Drawn0.step)⟩
 case round =>
  clear H'
  try clear p2
  obtain ⟨x0_1, x1_1, rfl, rfl, HA, HK1, ⟨m1, rfl⟩⟩ := hrel
  cases gk with
  | zero => exact absurd HA.out (by simp [gimbalref31_gcd.l0])
  | succ k1 =>
   have H := HA.out
   clear HA
   simp only [gimbalref31_gcd.l0] at H
   by_cases c3 : x1_1 = 0
   ·
    rw [if_pos c3] at H
    have c3b0 : (x1_1 == 0) = true := beq_iff_eq.mpr c3
    have c3b1 : (x1_1 != 0) = false := bne_eq_false_iff_eq.mpr c3
    clear c3
    obtain rfl := Option.some.inj H
    go_wp2
    repeat (go_quiet (fail); try go_wp2)
    go_ret
    exact ⟨by first | rfl | (simp; done) | (simp [*]; done), by repeat (first | exact Drawn0.refl _ | apply Drawn0.step)⟩
   ·
    rw [if_neg c3] at H
    have c3b0 : (x1_1 == 0) = false := beq_eq_false_iff_ne.mpr c3
    have c3b1 : (x1_1 != 0) = true := bne_iff_ne.mpr c3
    have H' := Aside0.mk H
    clear H
    go_wp2
    repeat (go_quiet (fail); try go_wp2)
    go_roundg k1
    case measure => have := HK1.out; omega
    case rel => exact ⟨(x1_1), (Int.tmod x0_1 x1_1), (by first | rfl | (simp; done) | (simp [*]; done)), (by first | rfl | (simp; done) | (simp [*]; done)), H', ⟨by have := HK1.out; omega⟩, by repeat (first | exact Drawn0.refl _ | apply Drawn0.step)⟩

end Go.Proofs.YtfmmjekhknaniaaDoor.Pr

namespace Go.Proofs.YtfmmjekhknaniaaDoor.Core
open Go.RowKit Go.Proofs.YtfmmjekhknaniaaDoor.Pr Go.Proofs.YtfmmjekhknaniaaDoorW.PrintWords

theorem w64_id {n : Int} (h : -9223372036854775808 ≤ n) (h' : n ≤ 9223372036854775807) : wrap64 n = n := by unfold wrap64; omega
theorem u64_id {n : Int} (h : 0 ≤ n) (h' : n ≤ 18446744073709551615) : IntKind.u64.wrap n = n := by rw [IntKind.wrap_u64]; omega

/-- a number without its sign. -/
def ab (x : Int) : Int := if x < 0 then -x else x
theorem ab_nonneg (x : Int) : 0 ≤ ab x := by unfold ab; split <;> omega
theorem dvd_ab {g x : Int} : g ∣ ab x ↔ g ∣ x := by unfold ab; split <;> simp
theorem ab_of_nonneg {x : Int} (h : 0 ≤ x) : ab x = x := by unfold ab; rw [if_neg (by omega)]

theorem size_f {x : Int} (h1 : -9223372036854775808 ≤ x) (h2 : x ≤ 9223372036854775807) : congr_size.f x = some (ab x) := by
  unfold congr_size.f ab
  split
  · rw [IntKind.wrap_u64, IntKind.wrap_u64]; congr 1; omega
  · rw [IntKind.wrap_u64]; congr 1; omega

theorem rsize_f {x : Int} (h1 : -9223372036854775808 ≤ x) (h2 : x ≤ 9223372036854775807) : gimbalref31_size.f x = some (ab x) := by
  unfold gimbalref31_size.f ab
  split
  · rw [IntKind.wrap_u64, IntKind.wrap_u64]; unfold wrap64; congr 1; omega
  · rw [IntKind.wrap_u64]; congr 1; omega

theorem emod_unique {x m r : Int} (h0 : 0 ≤ r) (h1 : r < m) (h : m ∣ x - r) : x % m = r := by
  have h2 := (Int.emod_eq_emod_iff_emod_sub_eq_zero (m := x) (n := m) (k := r)).mpr (Int.emod_eq_zero_of_dvd h)
  rw [h2, Int.emod_eq_of_lt h0 h1]

theorem rest_f {x m : Int} (h1 : -9223372036854775808 ≤ x) (h2 : x ≤ 9223372036854775807) (h3 : 0 < m) (h4 : m ≤ 18446744073709551615) : congr_rest.f x m = some (x % m) := by
  unfold congr_rest.f
  rw [size_f h1 h2]
  simp only [Option.bind_some]
  rw [if_neg (by omega), Int.tmod_eq_emod_of_nonneg (ab_nonneg x)]
  have e0 := Int.emod_nonneg (ab x) (show m ≠ 0 by omega)
  have e1 := Int.emod_lt_of_pos (ab x) h3
  have e2 := emod_dvd_sub m (ab x)
  by_cases hx : x < 0
  · have ha : ab x = -x := by unfold ab; rw [if_pos hx]
    rw [if_pos hx]
    by_cases hp : ab x % m > 0
    · rw [if_pos hp, u64_id (by omega) (by omega)]
      congr 1
      refine (emod_unique (by omega) (by omega) ?_).symm
      have := Int.dvd_add (Int.dvd_neg.mpr e2) (Int.dvd_neg.mpr (Int.dvd_refl m))
      rwa [show -(ab x - ab x % m) + -m = x - (m - ab x % m) by omega] at this
    · rw [if_neg hp]
      congr 1
      have hz : ab x % m = 0 := by omega
      rw [hz] at e2 ⊢
      refine (emod_unique (by omega) (by omega) ?_).symm
      have := Int.dvd_neg.mpr e2
      rwa [show -(ab x - 0) = x - 0 by omega] at this
  · rw [if_neg hx, ab_of_nonneg (by omega)]

theorem constant_f (x : Int) : congr_constant.f x = some (norm 0 x) := by
  unfold congr_constant.f congr_none.f norm
  rw [if_pos rfl]
  by_cases h : x < -2147483648
  · rw [if_pos h, if_neg (show ¬ In32 x by unfold In32; omega)]; rfl
  · rw [if_neg h]
    by_cases h' : x > 2147483647
    · rw [if_pos h', if_neg (show ¬ In32 x by unfold In32; omega)]; rfl
    · rw [if_neg h', if_pos (show In32 x by unfold In32; omega)]

theorem of_j0 {m r g : Int} (k : Nat) (h3 : 0 < m) (h4 : m ≤ 18446744073709551615) (h5 : 0 ≤ r) (h6 : r < m) (hg : g = (r + 2147483648) % m) :
    congr_of.j0 (k + 1) m r g = some (norm m r) := by
  have e0 := Int.emod_nonneg (r + 2147483648) (show m ≠ 0 by omega)
  have e1 := Int.emod_lt_of_pos (r + 2147483648) h3
  simp only [congr_of.j0, congr_none.f, norm]
  rw [if_neg (show ¬ m = 0 by omega), ← hg]
  rw [← hg] at e0 e1
  by_cases c1 : g > 4294967295
  · rw [if_pos c1, if_pos (by omega)]; rfl
  · rw [if_neg c1, if_neg (show ¬ (-2147483648 + g > 2147483647) by omega), w64_id (n := g) (by omega) (by omega), w64_id (n := -2147483648 + g) (by omega) (by omega), w64_id (n := 2147483647 - (-2147483648 + g)) (by omega) (by omega), u64_id (by omega) (by omega)]
    by_cases c2 : 2147483647 - (-2147483648 + g) < m
    · rw [if_pos c2, if_pos (by omega)]
    · rw [if_neg c2, if_neg (by omega), w64_id (by omega) (by omega), w64_id (by omega) (by omega), Int.emod_eq_of_lt h5 h6]

theorem of_f {m r : Int} (h3 : 0 < m) (h4 : m ≤ 18446744073709551615) (h5 : 0 ≤ r) (h6 : r < m) (k : Nat) : congr_of.f (k + 1) m r = some (norm m r) := by
  unfold congr_of.f
  rw [rest_f (by omega) (by omega) h3 h4]
  simp only [Option.bind_some]
  have e0 := Int.emod_nonneg (-2147483648) (show m ≠ 0 by omega)
  have e1 := Int.emod_lt_of_pos (-2147483648) h3
  have e2 := emod_dvd_sub m (-2147483648)
  generalize (-2147483648) % m = low at *
  by_cases c : r < low
  · rw [if_pos c, u64_id (n := m - low) (by omega) (by omega), u64_id (n := r + (m - low)) (by omega) (by omega)]
    refine of_j0 k h3 h4 h5 h6 (emod_unique (by omega) (by omega) ?_).symm
    have := Int.dvd_neg.mpr (Int.dvd_add e2 (Int.dvd_refl m))
    rwa [show -(-2147483648 - low + m) = r + 2147483648 - (r + (m - low)) by omega] at this
  · rw [if_neg c, u64_id (by omega) (by omega)]
    refine of_j0 k h3 h4 h5 h6 (emod_unique (by omega) (by omega) ?_).symm
    have := Int.dvd_neg.mpr e2
    rwa [show -(-2147483648 - low) = r + 2147483648 - (r - low) by omega] at this

theorem norm_emod {m r : Int} (h : 0 < m) : norm m (r % m) = norm m r :=
  norm_congr (by omega) (dvd_sub_comm' (emod_dvd_sub m r))

theorem by_f {m r : Int} (h3 : 0 ≤ m) (h4 : m ≤ 18446744073709551615) (h1 : -9223372036854775808 ≤ r) (h2 : r ≤ 9223372036854775807) (k : Nat) : congr_by.f (k + 1) m r = some (norm m r) := by
  unfold congr_by.f
  by_cases c : m = 0
  · rw [if_pos c, constant_f, c]; rfl
  · have h0 : 0 < m := by omega
    rw [if_neg c, rest_f h1 h2 h0 h4]
    simp only [Option.bind_some]
    rw [of_f h0 h4 (Int.emod_nonneg _ c) (Int.emod_lt_of_pos _ h0), norm_emod h0]; rfl

theorem Of_f {m r : Int} (h3 : -9223372036854775808 ≤ m) (h4 : m ≤ 9223372036854775807) (h1 : -9223372036854775808 ≤ r) (h2 : r ≤ 9223372036854775807) (k : Nat) : congr_Of.f (k + 1) m r = some (norm (ab m) r) := by
  unfold congr_Of.f
  by_cases c : m = 0
  · subst c
    rw [if_pos rfl, constant_f]; rfl
  · have h0 : 0 < ab m := by unfold ab; split <;> omega
    have h5 : ab m ≤ 9223372036854775808 := by unfold ab; split <;> omega
    rw [if_neg c, size_f h3 h4]
    simp only [Option.bind_some]
    rw [rest_f h1 h2 h0 (by omega)]
    simp only [Option.bind_some]
    rw [of_f h0 (by omega) (Int.emod_nonneg _ (by omega)) (Int.emod_lt_of_pos _ h0), norm_emod h0]; rfl

end Go.Proofs.YtfmmjekhknaniaaDoor.Core

namespace Go.Proofs.YtfmmjekhknaniaaDoor.Core
open Go.RowKit Go.Proofs.YtfmmjekhknaniaaDoor.Pr Go.Proofs.YtfmmjekhknaniaaDoorW.PrintWords
set_option linter.unusedSimpArgs false

theorem first_of {g v : Int} (h0 : 0 ≤ v) (h1 : v < g) :
    (v ≤ 2147483647 → g - v ≤ 2147483648 → -2147483648 + (v + 2147483648) % g ≤ v - g) ∧
    (v ≤ 2147483647 → ¬ g - v ≤ 2147483648 → -2147483648 + (v + 2147483648) % g = v) ∧
    (¬ v ≤ 2147483647 → g - v ≤ 2147483648 → -2147483648 + (v + 2147483648) % g = v - g ∨ (-2147483648 + (v + 2147483648) % g ≤ v - g - g)) ∧
    (¬ v ≤ 2147483647 → ¬ g - v ≤ 2147483648 → -2147483648 + (v + 2147483648) % g = v) := by
  have hg : 0 < g := by omega
  have e0 := Int.emod_nonneg (v + 2147483648) (show g ≠ 0 by omega)
  have e1 := Int.emod_lt_of_pos (v + 2147483648) hg
  have hd := first_dvd g v
  have fl : -2147483648 ≤ -2147483648 + (v + 2147483648) % g := by omega
  have fu : -2147483648 + (v + 2147483648) % g < -2147483648 + g := by omega
  generalize -2147483648 + (v + 2147483648) % g = f at *
  have hd' := dvd_sub_comm' hd
  have hm : g ∣ v - g - f := by
    have := Int.dvd_sub hd' (Int.dvd_refl g)
    rwa [show v - f - g = v - g - f by omega] at this
  have key1 : ¬ (g - v ≤ 2147483648) → f = v := fun h => by
    have a := ge_of_dvd hg hd (by omega)
    rcases eq_or_step hg hd a with h' | h' <;> omega
  have key2 : g - v ≤ 2147483648 → f = v - g ∨ f ≤ v - g - g := fun h => by
    have a : f ≤ v - g := ge_of_dvd hg hm (by omega)
    rcases eq_or_step hg hm a with h' | h' <;> omega
  refine ⟨fun _ h => ?_, fun _ h => key1 h, fun _ h => key2 h, fun _ h => key1 h⟩
  rcases key2 h with h' | h' <;> omega

theorem class_j2 {g v : Int} (h0 : 0 ≤ v) (h1 : v < g) (h2 : g ≤ 18446744073709551615) (k : Nat) :
    gimbalref31_class.j2 (k + 7) g v = some (norm g v) := by
  obtain ⟨fa, fb, fc, fd⟩ := first_of h0 h1
  have hr : v % g = v := Int.emod_eq_of_lt h0 h1
  unfold norm
  rw [if_neg (show ¬ g = 0 by omega), hr]
  by_cases c1 : v ≤ 2147483647
  · have w1 : wrap64 v = v := w64_id (by omega) (by omega)
    by_cases c2 : g - v ≤ 2147483648
    · have f1 := fa c1 c2
      have w2 : IntKind.u64.wrap (g - v) = g - v := u64_id (by omega) (by omega)
      have w3 : wrap64 (g - v) = g - v := w64_id (by omega) (by omega)
      have w4 : wrap64 (-(g - v)) = -(g - v) := w64_id (by omega) (by omega)
      have w5 : wrap64 g = g := w64_id (by omega) (by omega)
      rw [if_neg (by omega), if_neg (by omega)]
      simp [gimbalref31_class.j2, gimbalref31_class.j3, gimbalref31_class.j4, gimbalref31_class.j5, gimbalref31_class.j6, gimbalref31_class.j7, gimbalref31_class.j8, c1, c2, w1, w2, w3, w4, w5]
    · have f1 := fb c1 c2
      have w2 : IntKind.u64.wrap (g - v) = g - v := u64_id (by omega) (by omega)
      have w3 : IntKind.u64.wrap v = v := u64_id (by omega) (by omega)
      have w4 : IntKind.u64.wrap (2147483647 - v) = 2147483647 - v := u64_id (by omega) (by omega)
      have n1 : ¬ v < 0 := by omega
      rw [f1, if_neg (by omega)]
      by_cases c3 : g ≤ 2147483647 - v
      · have w5 : wrap64 g = g := w64_id (by omega) (by omega)
        rw [if_neg (by omega)]
        simp [gimbalref31_class.j2, gimbalref31_class.j3, gimbalref31_class.j4, gimbalref31_class.j5, gimbalref31_class.j6, gimbalref31_class.j7, gimbalref31_class.j8, rd, c1, c2, c3, w1, w2, w3, w4, w5, h0]
      · rw [if_pos (by omega)]
        simp [gimbalref31_class.j2, gimbalref31_class.j3, gimbalref31_class.j4, gimbalref31_class.j5, gimbalref31_class.j6, gimbalref31_class.j7, gimbalref31_class.j8, rd, c1, c2, c3, w1, w2, w3, w4, h0, n1]
  · by_cases c2 : g - v ≤ 2147483648
    · have f1 := fc c1 c2
      have w2 : IntKind.u64.wrap (g - v) = g - v := u64_id (by omega) (by omega)
      have w3 : wrap64 (g - v) = g - v := w64_id (by omega) (by omega)
      have w4 : wrap64 (-(g - v)) = -(g - v) := w64_id (by omega) (by omega)
      have w6 : gimbalref31_size.f (-(g - v)) = some (g - v) := by
        rw [rsize_f (by omega) (by omega)]; unfold ab; rw [if_pos (by omega)]; congr 1; omega
      have w7 : IntKind.u64.wrap (2147483648 - (g - v)) = 2147483648 - (g - v) := u64_id (by omega) (by omega)
      have n1 : ¬ 0 ≤ -(g - v) := by omega
      have n2 : -(g - v) < 0 := by omega
      by_cases c3 : g ≤ 2147483648 - (g - v)
      · have hf : -2147483648 + (v + 2147483648) % g ≤ v - g - g := by
          have e1 := Int.emod_lt_of_pos (v + 2147483648) (show 0 < g by omega)
          rcases f1 with f1 | f1 <;> omega
        have w5 : wrap64 g = g := w64_id (by omega) (by omega)
        have w8 : wrap64 v = v := w64_id (by omega) (by omega)
        rw [if_neg (by omega), if_neg (by omega)]
        simp only [gimbalref31_class.j2, gimbalref31_class.j3, gimbalref31_class.j4, gimbalref31_class.j5, gimbalref31_class.j6, gimbalref31_class.j7, gimbalref31_class.j8]
        rw [if_neg c1, w2, if_pos c2, w3, w4]
        simp [rd, n1, n2, w6, w7, c3, w5, w8]
        rw [if_neg (by omega), if_pos h1]
      · have hf : -2147483648 + (v + 2147483648) % g = v - g := by
          have e0 := Int.emod_nonneg (v + 2147483648) (show g ≠ 0 by omega)
          rcases f1 with f1 | f1 <;> omega
        rw [hf, if_neg (by omega), if_pos (by omega)]
        simp only [gimbalref31_class.j2, gimbalref31_class.j3, gimbalref31_class.j4, gimbalref31_class.j5, gimbalref31_class.j6, gimbalref31_class.j7, gimbalref31_class.j8]
        rw [if_neg c1, w2, if_pos c2, w3, w4]
        simp [rd, n1, n2, w6, w7, c3]
        rw [if_neg (by omega), show -(g - v) = v - g by omega]
    · have f1 := fd c1 c2
      have w2 : IntKind.u64.wrap (g - v) = g - v := u64_id (by omega) (by omega)
      rw [f1, if_pos (by omega)]
      simp [gimbalref31_class.j2, gimbalref31_class.j3, gimbalref31_class.j4, gimbalref31_class.j5, gimbalref31_class.j6, gimbalref31_class.j7, gimbalref31_class.j8, gimbalref31_None.f, c1, c2, w2]

theorem class_f {g r : Int} (below : Bool) (h0 : 0 ≤ g) (h1 : g ≤ 18446744073709551615) (h2 : 0 ≤ r) (h3 : r ≤ 18446744073709551615) (k : Nat) :
    gimbalref31_class.f (k + 8) g r below = some (norm g (if below = true then -r else r)) := by
  unfold gimbalref31_class.f
  by_cases c : g = 0
  · subst c
    rw [if_pos rfl]
    have hz : norm 0 (if below = true then -r else r) = if In32 (if below = true then -r else r) then (false, 0, if below = true then -r else r) else (true, 0, 0) := by unfold norm; rw [if_pos rfl]
    rw [hz]
    cases below
    · simp only [Bool.false_eq_true, if_false]
      by_cases d : r ≤ 2147483647
      · rw [if_pos (show In32 r by unfold In32; omega)]
        simp [gimbalref31_class.j0, d, w64_id (n := r) (by omega) (by omega)]
      · rw [if_neg (show ¬ In32 r by unfold In32; omega)]
        simp [gimbalref31_class.j0, gimbalref31_None.f, d]
    · simp only [if_true]
      by_cases d : r ≤ 2147483648
      · rw [if_pos (show In32 (-r) by unfold In32; omega)]
        simp [gimbalref31_class.j0, d, w64_id (n := r) (by omega) (by omega), w64_id (n := -r) (by omega) (by omega)]
      · rw [if_neg (show ¬ In32 (-r) by unfold In32; omega)]
        simp [gimbalref31_class.j0, gimbalref31_None.f, d]
  · rw [if_neg c, Int.tmod_eq_emod_of_nonneg h2]
    have e0 := Int.emod_nonneg r c
    have e1 := Int.emod_lt_of_pos r (show 0 < g by omega)
    cases below
    · simp only [Bool.false_eq_true, if_false]
      simp only [gimbalref31_class.j1, Bool.false_eq_true, if_false]
      rw [class_j2 e0 e1 h1, norm_emod (by omega)]
    · simp only [if_true]
      by_cases d : r % g = 0
      · simp only [gimbalref31_class.j1, d, bne_self_eq_false, Bool.false_eq_true, if_false]
        rw [class_j2 (by omega) (by omega) h1]
        congr 1
        refine norm_congr h0 ?_
        have := Int.dvd_of_emod_eq_zero d
        rwa [show 0 - -r = r by omega]
      · have hb : (r % g != 0) = true := by simp [d]
        simp only [gimbalref31_class.j1, hb, if_true]
        rw [u64_id (by omega) (by omega), class_j2 (by omega) (by omega) h1]
        congr 1
        refine norm_congr h0 ?_
        have := Int.dvd_add (Int.dvd_refl g) (emod_dvd_sub g r)
        rwa [show g + (r - r % g) = g - r % g - -r by omega] at this

theorem ab_sign (r : Int) : (if decide (r < 0) = true then -ab r else ab r) = r := by
  unfold ab
  by_cases h : r < 0
  · simp [h]
  · simp [h]

/-- the class of a number with its sign. -/
theorem class_ab {g r : Int} (h0 : 0 ≤ g) (h1 : g ≤ 18446744073709551615) (h2 : -9223372036854775808 ≤ r) (h3 : r ≤ 9223372036854775807) (k : Nat) :
    gimbalref31_class.f (k + 8) g (ab r) (decide (r < 0)) = some (norm g r) := by
  rw [class_f _ h0 h1 (ab_nonneg r) (by unfold ab; split <;> omega), ab_sign]

theorem rOf_f {m r : Int} (h3 : -9223372036854775808 ≤ m) (h4 : m ≤ 9223372036854775807) (h1 : -9223372036854775808 ≤ r) (h2 : r ≤ 9223372036854775807) (k : Nat) :
    gimbalref31_Of.f (k + 8) m r = some (norm (ab m) r) := by
  unfold gimbalref31_Of.f
  rw [rsize_f h3 h4]
  simp only [Option.bind_some]
  rw [rsize_f h1 h2]
  simp only [Option.bind_some]
  rw [class_ab (ab_nonneg m) (by unfold ab; split <;> omega) h1 h2]; rfl

open Classical in
/-- is it in its one form? -/
noncomputable def fitB (c : Cg) : Bool := decide (Fit c)
open Classical in
noncomputable def memB (c : Cg) (x : Int) : Bool := decide (Mem c x)
theorem fitB_iff {c : Cg} : fitB c = true ↔ Fit c := by unfold fitB; simp
theorem memB_iff {c : Cg} {x : Int} : memB c x = true ↔ Mem c x := by unfold memB; simp

/-- a congruence's parts are int64. -/
def I64 (x : Int) : Prop := -9223372036854775808 ≤ x ∧ x ≤ 9223372036854775807

theorem fit_iff_norm {c : Cg} (hn : c.1 = false) (hm : 0 ≤ c.2.1) : Fit c ↔ norm c.2.1 c.2.2 = c :=
  ⟨fun h => norm_self h hn, fun h => h ▸ fit_norm hm⟩

theorem beq_bool {a b : Bool} (h : a = true ↔ b = true) : a = b := by cases a <;> cases b <;> simp_all

theorem eq3 (c d : Cg) : (c.1 == d.1 && (c.2.1 == d.2.1 && (c.2.2 == d.2.2))) = true ↔ c = d := by
  obtain ⟨c1, c2, c3⟩ := c
  obtain ⟨d1, d2, d3⟩ := d
  simp

theorem rFit_f (c : Cg) (h1 : I64 c.2.1) (h2 : I64 c.2.2) (k : Nat) : gimbalref31_Fit.f (k + 8) c.1 c.2.1 c.2.2 = some (fitB c) := by
  unfold I64 at h1 h2
  unfold gimbalref31_Fit.f
  by_cases hn : c.1 = true
  · rw [if_pos hn]
    by_cases hm : c.2.1 = 0
    · rw [if_pos hm]
      congr 1
      refine beq_bool ?_
      rw [fitB_iff, beq_iff_eq]
      constructor
      · intro h
        have : c = (true, 0, 0) := by obtain ⟨a, b, d⟩ := c; simp only at *; subst hn hm h; rfl
        rw [this]; exact fit_none
      · intro h
        rw [fit_of_none h hn]
    · rw [if_neg hm]
      congr 1
      refine beq_bool ?_
      rw [fitB_iff]
      simp only [Bool.false_eq_true, false_iff]
      intro h
      rw [fit_of_none h hn] at hm
      exact hm rfl
  · have hn' : c.1 = false := by simpa using hn
    rw [if_neg hn]
    by_cases hm : c.2.1 ≥ 0
    · rw [if_pos hm, rOf_f h1.1 h1.2 h2.1 h2.2]
      simp only [Option.bind_some]
      congr 1
      refine beq_bool ?_
      rw [fitB_iff, fit_iff_norm hn' hm, ab_of_nonneg hm, eq3]
      exact ⟨fun h => h.symm, fun h => h.symm⟩
    · rw [if_neg hm]
      congr 1
      refine beq_bool ?_
      rw [fitB_iff]
      simp only [Bool.false_eq_true, false_iff]
      intro h
      have := fit_mod h
      omega

theorem emod_zero_iff {m x : Int} : x % m = 0 ↔ m ∣ x := ⟨Int.dvd_of_emod_eq_zero, Int.emod_eq_zero_of_dvd⟩
theorem tmod_zero_iff {m x : Int} : Int.tmod x m = 0 ↔ m ∣ x := ⟨Int.dvd_of_tmod_eq_zero, Int.tmod_eq_zero_of_dvd⟩

theorem Has_f {c : Cg} (h : Fit c) {x : Int} (hx : I64 x) (k : Nat) : congr_Has.f (k + 8) c.1 c.2.1 c.2.2 x = some (memB c x) := by
  have hr := fit_rem h
  unfold I64 at hx
  have no : ¬ Mem c x → memB c x = false := fun hn => by
    cases hb : memB c x
    · rfl
    · exact absurd (memB_iff.mp hb) hn
  unfold congr_Has.f
  by_cases hn : c.1 = true
  · rw [if_pos hn, no (fun hm => by rw [hm.1] at hn; cases hn)]
    simp [congr_Has.j0]
  · have hn' : c.1 = false := by simpa using hn
    rw [if_neg hn]
    by_cases h1 : x < -2147483648
    · rw [if_pos h1, no (fun hm => by have := hm.2.1; unfold In32 at this; omega)]
      simp [congr_Has.j0]
    · rw [if_neg h1]
      by_cases h2 : x > 2147483647
      · rw [no (fun hm => by have := hm.2.1; unfold In32 at this; omega)]
        simp [congr_Has.j0, h2]
      · have hd : decide (x > 2147483647) = false := by simpa using h2
        rw [hd]
        simp only [congr_Has.j0, Bool.false_eq_true, if_false]
        by_cases h0 : c.2.1 = 0
        · rw [if_pos h0]
          congr 1
          refine beq_bool ?_
          rw [memB_iff, beq_iff_eq]
          unfold Mem
          rw [h0, Int.zero_dvd]
          exact ⟨fun e => ⟨hn', by unfold In32; omega, by omega⟩, fun e => by omega⟩
        · rw [if_neg h0, u64_id (n := c.2.1) (by omega) (by omega), rest_f hx.1 hx.2 (by omega) (by omega)]
          simp only [Option.bind_some]
          rw [u64_id (by omega) (by omega)]
          congr 1
          refine beq_bool ?_
          rw [memB_iff, beq_iff_eq]
          unfold Mem
          constructor
          · intro e
            refine ⟨hn', by unfold In32; omega, ?_⟩
            have := emod_dvd_sub c.2.1 x
            rwa [e] at this
          · rintro ⟨_, _, hd⟩
            exact emod_unique (by omega) (by omega) hd

/-- the gcd, as a number. -/
def G (a b : Int) : Int := (Int.gcd a b : Int)
theorem G_nonneg (a b : Int) : 0 ≤ G a b := Int.natCast_nonneg _
theorem dvd_G {d a b : Int} : d ∣ G a b ↔ d ∣ a ∧ d ∣ b := by unfold G; exact Int.dvd_coe_gcd_iff
theorem G_dvd_l (a b : Int) : G a b ∣ a := Int.gcd_dvd_left ..
theorem G_dvd_r (a b : Int) : G a b ∣ b := Int.gcd_dvd_right ..
theorem G_le {a b m : Int} (ha : 0 ≤ a) (hb : 0 ≤ b) (hm : a ≤ m) (hm' : b ≤ m) : G a b ≤ m := by
  by_cases h : a = 0
  · by_cases h' : b = 0
    · subst h h'; simp [G]; omega
    · exact Int.le_trans (Int.le_of_dvd (by omega) (G_dvd_r a b)) hm'
  · exact Int.le_trans (Int.le_of_dvd (by omega) (G_dvd_l a b)) hm
theorem G_zero (a : Int) (h : 0 ≤ a) : G a 0 = a := by unfold G; rw [Int.gcd_zero]; omega
theorem G_step (a b : Int) : G b (a % b) = G a b := by
  refine Int.dvd_antisymm (G_nonneg _ _) (G_nonneg _ _) ?_ ?_
  · rw [dvd_G]
    have h := G_dvd_r b (a % b)
    have h' := G_dvd_l b (a % b)
    refine ⟨?_, h'⟩
    have := Int.dvd_add (Int.dvd_trans h' (emod_dvd_sub b a)) h
    rwa [show a - a % b + a % b = a by omega] at this
  · rw [dvd_G]
    have h := G_dvd_l a b
    have h' := G_dvd_r a b
    refine ⟨h', ?_⟩
    have := Int.dvd_sub h (Int.dvd_trans h' (emod_dvd_sub b a))
    rwa [show a - (a - a % b) = a % b by omega] at this

theorem gcd_l0 : ∀ (n : Nat) (a b : Int), 0 ≤ a → 0 ≤ b → b ≤ n → ∀ k, congr_gcd_uint64.l0 (k + n + 1) a b = some (G a b)
  | 0, a, b, ha, hb, hn, k => by
    obtain rfl : b = 0 := by omega
    simp only [Nat.add_zero, congr_gcd_uint64.l0, if_true]
    rw [G_zero a ha]
  | n + 1, a, b, ha, hb, hn, k => by
    by_cases h : b = 0
    · subst h
      rw [show k + (n + 1) + 1 = (k + n + 1) + 1 by omega]
      simp only [congr_gcd_uint64.l0, if_true]
      rw [G_zero a ha]
    · rw [show k + (n + 1) + 1 = (k + n + 1) + 1 by omega]
      have e0 : congr_gcd_uint64.l0 (k + n + 1 + 1) a b = if b = 0 then some a else congr_gcd_uint64.l0 (k + n + 1) b (Int.tmod a b) := rfl
      rw [e0]
      have e1 := Int.emod_lt_of_pos a (show 0 < b by omega)
      rw [if_neg h, Int.tmod_eq_emod_of_nonneg ha, gcd_l0 n b (a % b) hb (Int.emod_nonneg a h) (by omega) k, G_step]

theorem rgcd_l0 : ∀ (n : Nat) (a b : Int), 0 ≤ a → 0 ≤ b → b ≤ n → ∀ k, gimbalref31_gcd.l0 (k + n + 1) a b = some (G a b)
  | 0, a, b, ha, hb, hn, k => by
    obtain rfl : b = 0 := by omega
    simp only [Nat.add_zero, gimbalref31_gcd.l0, if_true]
    rw [G_zero a ha]
  | n + 1, a, b, ha, hb, hn, k => by
    by_cases h : b = 0
    · subst h
      rw [show k + (n + 1) + 1 = (k + n + 1) + 1 by omega]
      simp only [gimbalref31_gcd.l0, if_true]
      rw [G_zero a ha]
    · rw [show k + (n + 1) + 1 = (k + n + 1) + 1 by omega]
      have e0 : gimbalref31_gcd.l0 (k + n + 1 + 1) a b = if b = 0 then some a else gimbalref31_gcd.l0 (k + n + 1) b (Int.tmod a b) := rfl
      rw [e0]
      have e1 := Int.emod_lt_of_pos a (show 0 < b by omega)
      rw [if_neg h, Int.tmod_eq_emod_of_nonneg ha, rgcd_l0 n b (a % b) hb (Int.emod_nonneg a h) (by omega) k, G_step]

theorem gcd_f {a b : Int} (ha : 0 ≤ a) (hb : 0 ≤ b) : Ev (fun k => congr_gcd_uint64.f k a b) (G a b) :=
  ⟨b.toNat + 1, fun k hk => by
    obtain ⟨j, rfl⟩ : ∃ j, k = j + b.toNat + 1 := ⟨k - b.toNat - 1, by omega⟩
    exact gcd_l0 b.toNat a b ha hb (by omega) j⟩
theorem rgcd_f {a b : Int} (ha : 0 ≤ a) (hb : 0 ≤ b) : Ev (fun k => gimbalref31_gcd.f k a b) (G a b) :=
  ⟨b.toNat + 1, fun k hk => by
    obtain ⟨j, rfl⟩ : ∃ j, k = j + b.toNat + 1 := ⟨k - b.toNat - 1, by omega⟩
    exact rgcd_l0 b.toNat a b ha hb (by omega) j⟩

end Go.Proofs.YtfmmjekhknaniaaDoor.Core

namespace Go.Proofs.YtfmmjekhknaniaaDoor.Core
open Go.ChangeShapes Go.WideShapes Go.ChangeAt Go.RowKit Go.Deep Pr Go.Proofs.YtfmmjekhknaniaaDoorW.PrintWords
set_option maxRecDepth 100000
instance : Inhabited S23 := ⟨z23⟩

theorem own : ownKnob Tryd.prog.godebug = none := by kernel_rfl
theorem laidOut : laidOutB Tryd.prog = true := by kernel_rfl
theorem cells23 : Tryd.prog.cellsOf 23 = 3 := by kernel_rfl
theorem read23 : Tryd.prog.readableRec 23 = true := by kernel_rfl
theorem size23 : 23 < Tryd.prog.types.size := of_decide_eq_true (by kernel_rfl)
theorem i64_of {n : Int} (wi : (Lit.int .i64 n).wf = true) : I64 n := by
  simp only [Lit.wf, Bool.and_eq_true, decide_eq_true_eq] at wi
  have hmin : IntKind.i64.min = -9223372036854775808 := by decide +kernel
  have hmax : IntKind.i64.max = 9223372036854775807 := by decide +kernel
  unfold I64
  omega

theorem one23 : oneCellFields Tryd.prog #[⟨"None", 4, 0, false, "", "", 0⟩, ⟨"Mod", 2, 1, false, "", "", 8⟩, ⟨"Rem", 2, 2, false, "", "", 16⟩] = true := by kernel_rfl
/-- A congruence handed over by value, opened. -/
theorem open_cg {H : Type} {enc : TypeId × Value → H} {W : World} {base : Nat} {v : Value} {d : DataW H} {p : List MemPlace}
    (hval : Value.okWide Tryd.prog W .any base 23 v) (h : DataW.Trod enc Tryd.prog W 0 (fun _ => true) true 23 v d p) :
    ∃ c : Cg, v = .agg #[.bool c.1, .int .i64 c.2.1, .int .i64 c.2.2] ∧ I64 c.2.1 ∧ I64 c.2.2 := by
  obtain ⟨v0, v1, v2, y0, y1, y2, n, rfl, _, _, h0, h1, h2⟩ := Go.Joins.open_agg3 Tryd.underlying23 one23 cells23 hval h
  obtain ⟨b, hb, _⟩ := DataW.trod_bool Tryd.underlying4 h0
  obtain ⟨m1, hm1, _, w1⟩ := DataW.trod_int Tryd.underlying2 h1
  obtain ⟨m2, hm2, _, w2⟩ := DataW.trod_int Tryd.underlying2 h2
  simp only [List.cons.injEq, and_true] at hb hm1 hm2
  exact ⟨(b, m1, m2), by rw [hb, hm1, hm2], i64_of w1, i64_of w2⟩
end Go.Proofs.YtfmmjekhknaniaaDoor.Core

namespace Go.Proofs.YtfmmjekhknaniaaDoor.Core

def Sub (a b : Cg) : Prop := ∀ x, Mem a x → Mem b x
open Classical in
noncomputable def leqB (a b : Cg) : Bool := decide (Sub a b)
theorem leqB_iff {a b : Cg} : leqB a b = true ↔ Sub a b := by unfold leqB; simp
theorem Sub.refl (a : Cg) : Sub a a := fun _ h => h
theorem Sub.trans {a b c : Cg} (h : Sub a b) (k : Sub b c) : Sub a c := fun x hx => k x (h x hx)
theorem Sub.none {a : Cg} (b : Cg) (h : a.1 = true) : Sub a b := fun x hx => by rw [hx.1] at h; cases h
theorem sub_antisymm {a b : Cg} (ha : Fit a) (hb : Fit b) (h : Sub a b) (k : Sub b a) : a = b := fit_ext ha hb fun x => ⟨h x, k x⟩
theorem none_of_sub {a b : Cg} (ha : Fit a) (h : Sub a b) (hb : b.1 = true) : a = (true, 0, 0) := by
  by_cases hn : a.1 = true
  · exact fit_of_none ha hn
  · obtain ⟨x, hx⟩ := fit_some ha (by simpa using hn)
    have := (h x hx).1
    rw [hb] at this; cases this

theorem bfalse {b : Bool} (h : ¬ b = true) : b = false := by simpa using h

def joinS (a b : Cg) : Cg := if a.1 = true then b else if b.1 = true then a else norm (G (G a.2.1 b.2.1) (a.2.2 - b.2.2)) a.2.2
def negS (a : Cg) : Cg := if a.1 = true then (true, 0, 0) else norm a.2.1 (-a.2.2)
def addS (a b : Cg) : Cg := if a.1 = true then (true, 0, 0) else if b.1 = true then (true, 0, 0) else norm (G a.2.1 b.2.1) (a.2.2 + b.2.2)
def subS (a b : Cg) : Cg := if a.1 = true then (true, 0, 0) else if b.1 = true then (true, 0, 0) else norm (G a.2.1 b.2.1) (a.2.2 - b.2.2)
def mulG (a b : Cg) : Int := G (G (a.2.1 * b.2.1) (a.2.1 * ab b.2.2)) (b.2.1 * ab a.2.2)
def mulS (a b : Cg) : Cg := if a.1 = true then (true, 0, 0) else if b.1 = true then (true, 0, 0) else norm (mulG a b) (a.2.2 * b.2.2)
def divS (a b : Cg) : Cg :=
  if a.1 = true then (true, 0, 0) else if b.1 = true then (true, 0, 0) else if b.2.1 = 0 ∧ b.2.2 = 0 then (true, 0, 0)
  else if b.2.1 ≠ 0 then (false, 1, 0)
  else if a.2.1 = 0 ∨ (b.2.2 ∣ a.2.1 ∧ b.2.2 ∣ a.2.2) then norm (ab (Int.tdiv a.2.1 b.2.2)) (Int.tdiv a.2.2 b.2.2)
  else (false, 1, 0)
def modS (a b : Cg) : Cg :=
  if a.1 = true then (true, 0, 0) else if b.1 = true then (true, 0, 0) else if b.2.1 = 0 ∧ b.2.2 = 0 then (true, 0, 0)
  else if a.2.1 = 0 ∧ b.2.1 = 0 then norm 0 (Int.tmod a.2.2 b.2.2)
  else norm (G (G a.2.1 b.2.1) b.2.2) a.2.2
def absS (a : Cg) : Cg := if a.1 = true then (true, 0, 0) else if a.2.1 = 0 then norm 0 (ab a.2.2) else joinS a (negS a)

theorem fit_all : Fit (false, 1, 0) := Or.inr (Or.inr ⟨rfl, by simp, by simp, by simp, 0, by unfold In32; omega, by unfold In32; dsimp only; omega, Int.one_dvd _⟩)
theorem mem_all {x : Int} : Mem (false, 1, 0) x ↔ In32 x := by unfold Mem; simp [Int.one_dvd]

theorem fit_join {a b : Cg} (ha : Fit a) (hb : Fit b) : Fit (joinS a b) := by
  unfold joinS; split
  · exact hb
  · split
    · exact ha
    · exact fit_norm (G_nonneg _ _)
theorem fit_neg {a : Cg} (ha : Fit a) : Fit (negS a) := by
  have := fit_mod ha
  unfold negS; split
  · exact fit_none
  · exact fit_norm (by omega)
theorem fit_add (a b : Cg) : Fit (addS a b) := by
  unfold addS; (repeat' split) <;> first | exact fit_none | exact fit_norm (G_nonneg _ _)
theorem fit_sub (a b : Cg) : Fit (subS a b) := by
  unfold subS; (repeat' split) <;> first | exact fit_none | exact fit_norm (G_nonneg _ _)
theorem fit_mul (a b : Cg) : Fit (mulS a b) := by
  unfold mulS mulG; (repeat' split) <;> first | exact fit_none | exact fit_norm (G_nonneg _ _)
theorem fit_div (a b : Cg) : Fit (divS a b) := by
  unfold divS; (repeat' split) <;> first | exact fit_none | exact fit_all | exact fit_norm (ab_nonneg _)
theorem fit_mds (a b : Cg) : Fit (modS a b) := by
  unfold modS; (repeat' split) <;> first | exact fit_none | exact fit_norm (Int.le_refl 0) | exact fit_norm (G_nonneg _ _)
theorem fit_abs {a : Cg} (ha : Fit a) : Fit (absS a) := by
  unfold absS; (repeat' split) <;> first | exact fit_none | exact fit_norm (Int.le_refl 0) | exact fit_join ha (fit_neg ha)

theorem sub_join_l {a b : Cg} : Sub a (joinS a b) := by
  unfold joinS
  by_cases h1 : a.1 = true
  · exact Sub.none _ h1
  · rw [if_neg h1]
    by_cases h2 : b.1 = true
    · rw [if_pos h2]; exact Sub.refl _
    · rw [if_neg h2]
      intro x hx
      rw [mem_norm (G_nonneg _ _)]
      exact ⟨hx.2.1, Int.dvd_trans (Int.dvd_trans (G_dvd_l _ _) (G_dvd_l _ _)) hx.2.2⟩
theorem sub_join_r {a b : Cg} : Sub b (joinS a b) := by
  unfold joinS
  by_cases h1 : a.1 = true
  · rw [if_pos h1]; exact Sub.refl _
  · rw [if_neg h1]
    by_cases h2 : b.1 = true
    · exact Sub.none _ h2
    · rw [if_neg h2]
      intro x hx
      rw [mem_norm (G_nonneg _ _)]
      exact ⟨hx.2.1, dvd_sub_trans (Int.dvd_trans (Int.dvd_trans (G_dvd_l _ _) (G_dvd_r _ _)) hx.2.2) (dvd_sub_comm' (G_dvd_r _ _))⟩
theorem join_least {a b c : Cg} (ha : Fit a) (hb : Fit b) (h : Sub a c) (k : Sub b c) : Sub (joinS a b) c := by
  unfold joinS
  by_cases h1 : a.1 = true
  · rw [if_pos h1]; exact k
  · rw [if_neg h1]
    by_cases h2 : b.1 = true
    · rw [if_pos h2]; exact h
    · rw [if_neg h2]
      obtain ⟨c0, c1, c2⟩ := sub_dvd ha (bfalse h1) h
      obtain ⟨_, d1, d2⟩ := sub_dvd hb (bfalse h2) k
      intro x hx
      rw [mem_norm (G_nonneg _ _)] at hx
      refine ⟨c0, hx.1, dvd_sub_trans (Int.dvd_trans ?_ hx.2) c2⟩
      rw [dvd_G, dvd_G]
      exact ⟨⟨c1, d1⟩, dvd_sub_trans c2 (dvd_sub_comm' d2)⟩
theorem join_mono {a b x y : Cg} (ha : Fit a) (hb : Fit b) (h : Sub a x) (k : Sub b y) : Sub (joinS a b) (joinS x y) :=
  join_least ha hb (h.trans sub_join_l) (k.trans sub_join_r)
theorem join_eq_iff {a b : Cg} (ha : Fit a) (hb : Fit b) : joinS a b = b ↔ Sub a b :=
  ⟨fun h => by have := sub_join_l (a := a) (b := b); rwa [h] at this, fun h => sub_antisymm (fit_join ha hb) hb (join_least ha hb h (Sub.refl _)) sub_join_r⟩

/-- what both have. -/
def IsMeet (a b r : Cg) : Prop := Fit r ∧ ∀ x, Mem r x ↔ Mem a x ∧ Mem b x
theorem IsMeet.comm {a b r : Cg} (h : IsMeet a b r) : IsMeet b a r := ⟨h.1, fun x => (h.2 x).trans And.comm⟩

theorem neg_mono {a x : Cg} (ha : Fit a) (hx : Fit x) (h : Sub a x) : Sub (negS a) (negS x) := by
  unfold negS
  by_cases h1 : a.1 = true
  · rw [if_pos h1]; exact Sub.none _ rfl
  · obtain ⟨c0, c1, c2⟩ := sub_dvd ha (bfalse h1) h
    have ma := fit_mod ha
    have mx := fit_mod hx
    rw [if_neg h1, c0, if_neg (by simp)]
    refine norm_sub (by omega) (by omega) c1 ?_
    have := dvd_sub_comm' c2
    rwa [show x.2.2 - a.2.2 = -a.2.2 - -x.2.2 by omega] at this
theorem add_mono {a b x y : Cg} (ha : Fit a) (hb : Fit b) (h : Sub a x) (k : Sub b y) : Sub (addS a b) (addS x y) := by
  unfold addS
  by_cases h1 : a.1 = true
  · rw [if_pos h1]; exact Sub.none _ rfl
  · by_cases h2 : b.1 = true
    · rw [if_neg h1, if_pos h2]; exact Sub.none _ rfl
    · obtain ⟨c0, c1, c2⟩ := sub_dvd ha (bfalse h1) h
      obtain ⟨d0, d1, d2⟩ := sub_dvd hb (bfalse h2) k
      rw [if_neg h1, if_neg h2, c0, d0, if_neg (by simp), if_neg (by simp)]
      refine norm_sub (G_nonneg _ _) (G_nonneg _ _) ?_ ?_
      · rw [dvd_G]; exact ⟨Int.dvd_trans (G_dvd_l _ _) c1, Int.dvd_trans (G_dvd_r _ _) d1⟩
      · have := Int.dvd_add (Int.dvd_trans (G_dvd_l x.2.1 y.2.1) c2) (Int.dvd_trans (G_dvd_r x.2.1 y.2.1) d2)
        rwa [show a.2.2 - x.2.2 + (b.2.2 - y.2.2) = a.2.2 + b.2.2 - (x.2.2 + y.2.2) by omega] at this
theorem sub_mono {a b x y : Cg} (ha : Fit a) (hb : Fit b) (h : Sub a x) (k : Sub b y) : Sub (subS a b) (subS x y) := by
  unfold subS
  by_cases h1 : a.1 = true
  · rw [if_pos h1]; exact Sub.none _ rfl
  · by_cases h2 : b.1 = true
    · rw [if_neg h1, if_pos h2]; exact Sub.none _ rfl
    · obtain ⟨c0, c1, c2⟩ := sub_dvd ha (bfalse h1) h
      obtain ⟨d0, d1, d2⟩ := sub_dvd hb (bfalse h2) k
      rw [if_neg h1, if_neg h2, c0, d0, if_neg (by simp), if_neg (by simp)]
      refine norm_sub (G_nonneg _ _) (G_nonneg _ _) ?_ ?_
      · rw [dvd_G]; exact ⟨Int.dvd_trans (G_dvd_l _ _) c1, Int.dvd_trans (G_dvd_r _ _) d1⟩
      · have := Int.dvd_sub (Int.dvd_trans (G_dvd_l x.2.1 y.2.1) c2) (Int.dvd_trans (G_dvd_r x.2.1 y.2.1) d2)
        rwa [show a.2.2 - x.2.2 - (b.2.2 - y.2.2) = a.2.2 - b.2.2 - (x.2.2 - y.2.2) by omega] at this

theorem mulG_dvd {a b : Cg} {d : Int} : d ∣ mulG a b ↔ d ∣ a.2.1 * b.2.1 ∧ d ∣ a.2.1 * b.2.2 ∧ d ∣ b.2.1 * a.2.2 := by
  unfold mulG
  rw [dvd_G, dvd_G, and_assoc]
  have e : ∀ m r : Int, d ∣ m * ab r ↔ d ∣ m * r := fun m r => by
    unfold ab; split
    · rw [Int.mul_neg, Int.dvd_neg]
    · exact Iff.rfl
  rw [e, e]
/-- of numbers of two classes the products are in the product's class. -/
theorem mul_dvd {a b : Cg} {x y : Int} (h : a.2.1 ∣ x - a.2.2) (k : b.2.1 ∣ y - b.2.2) : mulG a b ∣ x * y - a.2.2 * b.2.2 := by
  obtain ⟨h1, h2, h3⟩ := mulG_dvd.mp (Int.dvd_refl (mulG a b))
  obtain ⟨p, hp⟩ := h
  obtain ⟨q, hq⟩ := k
  have ex : x = a.2.2 + a.2.1 * p := by omega
  have ey : y = b.2.2 + b.2.1 * q := by omega
  have e : x * y - a.2.2 * b.2.2 = (a.2.1 * b.2.1) * (p * q) + (a.2.1 * b.2.2) * p + (b.2.1 * a.2.2) * q := by
    rw [ex, ey]; grind
  rw [e]
  exact Int.dvd_add (Int.dvd_add (Int.dvd_mul_of_dvd_left h1) (Int.dvd_mul_of_dvd_left h2)) (Int.dvd_mul_of_dvd_left h3)
theorem mulG_nonneg (a b : Cg) : 0 ≤ mulG a b := G_nonneg _ _
theorem mul_mono {a b x y : Cg} (ha : Fit a) (hb : Fit b) (h : Sub a x) (k : Sub b y) : Sub (mulS a b) (mulS x y) := by
  unfold mulS
  by_cases h1 : a.1 = true
  · rw [if_pos h1]; exact Sub.none _ rfl
  · by_cases h2 : b.1 = true
    · rw [if_neg h1, if_pos h2]; exact Sub.none _ rfl
    · obtain ⟨c0, c1, c2⟩ := sub_dvd ha (bfalse h1) h
      obtain ⟨d0, d1, d2⟩ := sub_dvd hb (bfalse h2) k
      rw [if_neg h1, if_neg h2, c0, d0, if_neg (by simp), if_neg (by simp)]
      refine norm_sub (mulG_nonneg _ _) (mulG_nonneg _ _) ?_ (mul_dvd c2 d2)
      obtain ⟨g1, g2, g3⟩ := mulG_dvd.mp (Int.dvd_refl (mulG x y))
      rw [mulG_dvd]
      obtain ⟨p, hp⟩ := c1
      obtain ⟨p', hp'⟩ := c2
      obtain ⟨q, hq⟩ := d1
      obtain ⟨q', hq'⟩ := d2
      have ea : a.2.2 = x.2.2 + x.2.1 * p' := by omega
      have eb : b.2.2 = y.2.2 + y.2.1 * q' := by omega
      refine ⟨?_, ?_, ?_⟩
      · rw [hp, hq, show x.2.1 * p * (y.2.1 * q) = x.2.1 * y.2.1 * (p * q) by grind]
        exact Int.dvd_mul_of_dvd_left g1
      · rw [hp, eb, show x.2.1 * p * (y.2.2 + y.2.1 * q') = x.2.1 * y.2.2 * p + x.2.1 * y.2.1 * (p * q') by grind]
        exact Int.dvd_add (Int.dvd_mul_of_dvd_left g2) (Int.dvd_mul_of_dvd_left g1)
      · rw [hq, ea, show y.2.1 * q * (x.2.2 + x.2.1 * p') = y.2.1 * x.2.2 * q + x.2.1 * y.2.1 * (p' * q) by grind]
        exact Int.dvd_add (Int.dvd_mul_of_dvd_left g3) (Int.dvd_mul_of_dvd_left g1)

theorem mem_neg {a : Cg} {x : Int} (ha : Fit a) (hx : Mem a x) (h : In32 (-x)) : Mem (negS a) (-x) := by
  have ma := fit_mod ha
  unfold negS
  rw [hx.1, if_neg (by simp), mem_norm (by omega)]
  refine ⟨h, ?_⟩
  have := dvd_sub_comm' hx.2.2
  rwa [show a.2.2 - x = -x - -a.2.2 by omega] at this

theorem tdiv_sub {d m r x : Int} (hd : d ≠ 0) (h1 : d ∣ m) (h2 : d ∣ r) (h : m ∣ x - r) : Int.tdiv m d ∣ Int.tdiv x d - Int.tdiv r d := by
  obtain ⟨m', rfl⟩ := h1
  obtain ⟨r', rfl⟩ := h2
  obtain ⟨q, hq⟩ := h
  have ex : x = d * (r' + m' * q) := by
    have : d * (r' + m' * q) = d * r' + d * m' * q := by grind
    omega
  rw [ex, Int.mul_tdiv_cancel_left _ hd, Int.mul_tdiv_cancel_left _ hd, Int.mul_tdiv_cancel_left _ hd]
  exact ⟨q, by omega⟩

theorem tmod_dvd {g x y : Int} (h : g ∣ y) : g ∣ Int.tmod x y - x := by
  have e := Int.mul_tdiv_add_tmod x y
  have := Int.dvd_neg.mpr (Int.dvd_mul_of_dvd_left (c := Int.tdiv x y) h)
  rwa [show -(y * x.tdiv y) = x.tmod y - x by omega] at this

theorem mem_abs {a : Cg} {x : Int} (ha : Fit a) (hx : Mem a x) (h : In32 (ab x)) : Mem (absS a) (ab x) := by
  unfold absS
  rw [hx.1, if_neg (by simp)]
  by_cases h0 : a.2.1 = 0
  · rw [if_pos h0, mem_norm (Int.le_refl 0), Int.zero_dvd]
    have e := hx.2.2
    rw [h0, Int.zero_dvd] at e
    rw [show a.2.2 = x by omega]
    exact ⟨h, by omega⟩
  · rw [if_neg h0]
    unfold ab at h ⊢
    by_cases c : x < 0
    · rw [if_pos c] at h ⊢; exact sub_join_r _ (mem_neg ha hx h)
    · rw [if_neg c]; exact sub_join_l _ hx

theorem div_mono {a b x y : Cg} (ha : Fit a) (hb : Fit b) (h : Sub a x) (k : Sub b y) : Sub (divS a b) (divS x y) := by
  intro z hz
  have hz32 := hz.2.1
  unfold divS at hz ⊢
  by_cases h1 : a.1 = true
  · rw [if_pos h1] at hz; cases hz.1
  rw [if_neg h1] at hz
  by_cases h2 : b.1 = true
  · rw [if_pos h2] at hz; cases hz.1
  rw [if_neg h2] at hz
  by_cases h3 : b.2.1 = 0 ∧ b.2.2 = 0
  · rw [if_pos h3] at hz; cases hz.1
  rw [if_neg h3] at hz
  obtain ⟨c0, c1, c2⟩ := sub_dvd ha (bfalse h1) h
  obtain ⟨d0, d1, d2⟩ := sub_dvd hb (bfalse h2) k
  have hy3 : ¬ (y.2.1 = 0 ∧ y.2.2 = 0) := by
    rintro ⟨e1, e2⟩
    rw [e1, Int.zero_dvd] at d1
    rw [e1, e2, Int.zero_dvd] at d2
    exact h3 ⟨d1, by omega⟩
  rw [c0, d0, if_neg (by simp), if_neg (by simp), if_neg hy3]
  by_cases h4 : y.2.1 ≠ 0
  · rw [if_pos h4]; exact mem_all.mpr hz32
  have h4' : y.2.1 = 0 := by omega
  rw [if_neg h4]
  rw [h4', Int.zero_dvd] at d1
  rw [h4', Int.zero_dvd] at d2
  have ey : y.2.2 = b.2.2 := by omega
  have hd : b.2.2 ≠ 0 := fun e => h3 ⟨d1, e⟩
  rw [if_neg (by omega)] at hz
  rw [ey]
  by_cases h5 : x.2.1 = 0 ∨ (b.2.2 ∣ x.2.1 ∧ b.2.2 ∣ x.2.2)
  · rw [if_pos h5]
    have h6 : a.2.1 = 0 ∨ (b.2.2 ∣ a.2.1 ∧ b.2.2 ∣ a.2.2) := by
      rcases h5 with h5 | ⟨h5, h6⟩
      · rw [h5, Int.zero_dvd] at c1; exact Or.inl c1
      · refine Or.inr ⟨Int.dvd_trans h5 c1, ?_⟩
        have := Int.dvd_add (Int.dvd_trans h5 c2) h6
        rwa [show a.2.2 - x.2.2 + x.2.2 = a.2.2 by omega] at this
    rw [if_pos h6] at hz
    have tab : ∀ {p q : Int}, ab p ∣ q ↔ p ∣ q := fun {p q} => by unfold ab; split <;> simp [Int.neg_dvd]
    refine norm_sub (ab_nonneg _) (ab_nonneg _) ?_ ?_ z hz
    · rw [tab, dvd_ab]
      rcases h5 with h5 | ⟨h5, _⟩
      · rw [h5, Int.zero_dvd] at c1
        rw [c1, Int.zero_tdiv]; exact Int.dvd_zero _
      · obtain ⟨m', hm'⟩ := h5
        obtain ⟨q, hq⟩ := c1
        rw [hq, hm', Int.mul_assoc, Int.mul_tdiv_cancel_left _ hd, Int.mul_tdiv_cancel_left _ hd]
        exact ⟨q, rfl⟩
    · rw [tab]
      rcases h5 with h5 | ⟨h5, h7⟩
      · rw [h5, Int.zero_dvd] at c2
        rw [show a.2.2 = x.2.2 by omega, Int.sub_self]; exact Int.dvd_zero _
      · exact tdiv_sub hd h5 h7 c2
  · rw [if_neg h5]; exact mem_all.mpr hz32

theorem mds_mono {a b x y : Cg} (ha : Fit a) (hb : Fit b) (h : Sub a x) (k : Sub b y) : Sub (modS a b) (modS x y) := by
  intro z hz
  unfold modS at hz ⊢
  by_cases h1 : a.1 = true
  · rw [if_pos h1] at hz; cases hz.1
  rw [if_neg h1] at hz
  by_cases h2 : b.1 = true
  · rw [if_pos h2] at hz; cases hz.1
  rw [if_neg h2] at hz
  by_cases h3 : b.2.1 = 0 ∧ b.2.2 = 0
  · rw [if_pos h3] at hz; cases hz.1
  rw [if_neg h3] at hz
  obtain ⟨c0, c1, c2⟩ := sub_dvd ha (bfalse h1) h
  obtain ⟨d0, d1, d2⟩ := sub_dvd hb (bfalse h2) k
  have hy3 : ¬ (y.2.1 = 0 ∧ y.2.2 = 0) := by
    rintro ⟨e1, e2⟩
    rw [e1, Int.zero_dvd] at d1
    rw [e1, e2, Int.zero_dvd] at d2
    exact h3 ⟨d1, by omega⟩
  rw [c0, d0, if_neg (by simp), if_neg (by simp), if_neg hy3]
  by_cases h4 : x.2.1 = 0 ∧ y.2.1 = 0
  · rw [h4.1, Int.zero_dvd] at c1 c2
    rw [h4.2, Int.zero_dvd] at d1 d2
    rw [if_pos ⟨c1, d1⟩] at hz
    rw [if_pos h4, show x.2.2 = a.2.2 by omega, show y.2.2 = b.2.2 by omega]
    exact hz
  · rw [if_neg h4]
    have g1 := G_dvd_l (G x.2.1 y.2.1) y.2.2
    have g2 := G_dvd_r (G x.2.1 y.2.1) y.2.2
    have gx := Int.dvd_trans g1 (G_dvd_l x.2.1 y.2.1)
    have gy := Int.dvd_trans g1 (G_dvd_r x.2.1 y.2.1)
    have g0 := G_nonneg (G x.2.1 y.2.1) y.2.2
    generalize G (G x.2.1 y.2.1) y.2.2 = g at g1 g2 gx gy g0 ⊢
    have gb : g ∣ b.2.2 := by
      have := Int.dvd_add (Int.dvd_trans gy d2) g2
      rwa [show b.2.2 - y.2.2 + y.2.2 = b.2.2 by omega] at this
    by_cases h5 : a.2.1 = 0 ∧ b.2.1 = 0
    · rw [if_pos h5] at hz
      exact norm_sub (Int.le_refl 0) g0 (Int.dvd_zero _) (dvd_sub_trans (tmod_dvd gb) (Int.dvd_trans gx c2)) z hz
    · rw [if_neg h5] at hz
      refine norm_sub (G_nonneg _ _) g0 ?_ (Int.dvd_trans gx c2) z hz
      rw [dvd_G, dvd_G]
      exact ⟨⟨Int.dvd_trans gx c1, Int.dvd_trans gy d1⟩, gb⟩

theorem abs_mono {a x : Cg} (ha : Fit a) (hx : Fit x) (h : Sub a x) : Sub (absS a) (absS x) := by
  by_cases h1 : a.1 = true
  · unfold absS; rw [if_pos h1]; exact Sub.none _ rfl
  obtain ⟨c0, c1, c2⟩ := sub_dvd ha (bfalse h1) h
  by_cases h0 : a.2.1 = 0
  · intro z hz
    have hz32 := hz.2.1
    unfold absS at hz
    rw [if_neg h1, if_pos h0, mem_norm (Int.le_refl 0), Int.zero_dvd] at hz
    have e : z = ab a.2.2 := by omega
    rw [e] at hz32 ⊢
    refine mem_abs hx (h _ ⟨bfalse h1, ?_, by rw [Int.sub_self]; exact Int.dvd_zero _⟩) hz32
    have := fit_rem ha
    unfold In32; omega
  · have hx0 : x.2.1 ≠ 0 := fun e => by rw [e, Int.zero_dvd] at c1; exact h0 c1
    unfold absS
    rw [if_neg h1, if_neg h0, c0, if_neg (by simp), if_neg hx0]
    exact join_mono ha (fit_neg ha) h (neg_mono ha hx h)

end Go.Proofs.YtfmmjekhknaniaaDoor.Core

namespace Go.Proofs.YtfmmjekhknaniaaDoor.Pr
open Go.RowKit Go.Proofs.YtfmmjekhknaniaaDoor.Given Go.Proofs.YtfmmjekhknaniaaDoorW.PrintWords Go.Proofs.YtfmmjekhknaniaaDoorW.PrintLast Go.Proofs.YtfmmjekhknaniaaDoorW.PrintMore
attribute [local go_sem] max2_int min2_int max_two min_two max_three min_three max_four min_four   -- for this text's walks alone
set_option linter.unusedVariables false
set_option linter.unusedSimpArgs false

def congr_apart.f (k : Nat) (a0_0 : Bool) (a0_1 : Int) (a0_2 : Int) (a1_0 : Bool) (a1_1 : Int) (a1_2 : Int) : Option (Int) := (congr_gcd_uint64.f k (IntKind.u64.wrap (a0_1)) (IntKind.u64.wrap (a1_1))).bind fun t176 => ((congr_size.f (wrap64 (a0_2 - a1_2))).bind fun t177 => ((congr_gcd_uint64.f k t176 t177).bind fun t178 => (some t178)))
set_option maxHeartbeats 8000000 in
set_option maxRecDepth 100000 in
theorem congr_apart.calls (k : Nat) (a0_0 : Bool) (a0_1 : Int) (a0_2 : Int) (a1_0 : Bool) (a1_1 : Int) (a1_2 : Int) (r : Int) (w : World) (h : congr_apart.f k a0_0 a0_1 a0_2 a1_0 a1_1 a1_2 = some r) :
  Calls Tryd.prog 61 #[.agg #[.bool a0_0, .int .i64 a0_1, .int .i64 a0_2], .agg #[.bool a1_0, .int .i64 a1_1, .int .i64 a1_2]] w fun e w' => e = .returned (.int .u64 r) ∧ Below w.heap.size w w' := by
 have hu23 := Tryd.underlying23
 have HB := Aside0.mk (Below.refl w.heap.size w)
 have H : ((congr_gcd_uint64.f k (IntKind.u64.wrap (a0_1)) (IntKind.u64.wrap (a1_1))).bind fun t176 => ((congr_size.f (wrap64 (a0_2 - a1_2))).bind fun t177 => ((congr_gcd_uint64.f k t176 t177).bind fun t178 => (some t178)))) = some r := h
 clear h
 replace H := Option.bind_eq_some_iff.mp H
 obtain ⟨t176, A30, H⟩ := H
 replace H : ((congr_size.f (wrap64 (a0_2 - a1_2))).bind fun t177 => ((congr_gcd_uint64.f k t176 t177).bind fun t178 => (some t178))) = some r := H
 have A3 := Aside0.mk A30
 clear A30
 replace H := Option.bind_eq_some_iff.mp H
 obtain ⟨t177, A40, H⟩ := H
 replace H : ((congr_gcd_uint64.f k t176 t177).bind fun t178 => (some t178)) = some r := H
 have A4 := Aside0.mk A40
 clear A40
 replace H := Option.bind_eq_some_iff.mp H
 obtain ⟨t178, A50, H⟩ := H
 replace H : (some t178) = some r := H
 have A5 := Aside0.mk A50
 clear A50
 obtain rfl := Option.some.inj H
 go_enter Tryd.func61, Tryd.ntmps61
 go_wp2_with (first | ((with_reducible refine gate_dst (N := 2) rfl ?_); refine box_event ?hg (N := 2) ?hd (cs := #[.bool a0_0, .int .i64 a0_1, .int .i64 a0_2]) (t := 23) ?hr ?_; (case hd => rfl); (case hg => rfl); (case hr => first | (go_simp; done) | (go_simp; rfl)); intro gb174 hg w6 hbox hb; have n0_ := kW HB hb; have n1_ := Aside0.mk (hbox); have n2_ := Aside0.mk ((by rw [hg]; exact (below_size (bS HB)) : w.heap.size ≤ gb174)); have n3_ := Aside0.mk ((by rw [hg]; exact (below_size (bS HB)) : w.heap.size ≤ gb174)); clear HB; have HB := n0_; have BK174 := n1_; have GW174 := n2_; have GE174 := n3_; clear n0_ n1_ n2_ n3_; clear hb hbox hg) | ((with_reducible refine gate_dst (N := 3) rfl ?_); refine box_event ?hg (N := 3) ?hd (cs := #[.bool a1_0, .int .i64 a1_1, .int .i64 a1_2]) (t := 23) ?hr ?_; (case hd => rfl); (case hg => rfl); (case hr => first | (go_simp; done) | (go_simp; rfl)); intro gb175 hg w7 hbox hb; have n0_ := kB BK174 hb; have n1_ := kW HB hb; have n2_ := Aside0.mk (hbox); have n3_ := Aside0.mk ((by rw [hg]; exact (below_size (bS HB)) : w.heap.size ≤ gb175)); have n4_ := Aside0.mk ((by rw [hg]; exact (below_size (bS HB)) : w.heap.size ≤ gb175)); have n5_ := Aside0.mk ((by rw [hg]; exact Nat.ne_of_lt (blk_lt (bkS BK174)) : gb174 ≠ gb175)); have n6_ := Aside0.mk ((by rw [hg]; exact Nat.ne_of_gt (blk_lt (bkS BK174)) : gb175 ≠ gb174)); clear BK174; clear HB; have BK174 := n0_; have HB := n1_; have BK175 := n2_; have GW175 := n3_; have GE175 := n4_; have NB174_175 := n5_; have NB175_174 := n6_; clear n0_ n1_ n2_ n3_ n4_ n5_ n6_; clear hb hbox hg; have hnb8 := NB174_175.out; have hnc8 := NB175_174.out; have hcz9_0 := cz0 BK174; have hcz9_1 := cz1 BK174; have hcz9_2 := cz2 BK174; have hfz9_0 := fz BK174 0; have hfz9_1 := fz BK174 1; have hfz9_2 := fz BK174 2; have hcz10_0 := cz0 BK175; have hcz10_1 := cz1 BK175; have hcz10_2 := cz2 BK175; have hfz10_0 := fz BK175 0; have hfz10_1 := fz BK175 1; have hfz10_2 := fz BK175 2) | (go_at_call 62; (with_reducible refine (congr_gcd_uint64.calls k (IntKind.u64.wrap (a0_1)) (IntKind.u64.wrap (a1_1)) t176 _ A3.out).mono ?_); rintro e w' ⟨rfl, ⟨nd, rfl⟩⟩; (try first | exact ⟨rfl, _, World.drewN_drewN _ _ _⟩ | exact ⟨rfl, _, Eq.trans (World.drewN_drewN _ _ _) (congrArg (World.drewN _) (Nat.add_assoc _ _ _))⟩)) | (go_at_call 52; (with_reducible refine (congr_size.calls (wrap64 (a0_2 - a1_2)) t177 _ A4.out).mono ?_); rintro e w' ⟨rfl, ⟨nd, rfl⟩⟩; (try first | exact ⟨rfl, _, World.drewN_drewN _ _ _⟩ | exact ⟨rfl, _, Eq.trans (World.drewN_drewN _ _ _) (congrArg (World.drewN _) (Nat.add_assoc _ _ _))⟩)) | (go_at_call 62; (with_reducible refine (congr_gcd_uint64.calls k t176 t177 t178 _ A5.out).mono ?_); rintro e w' ⟨rfl, ⟨nd, rfl⟩⟩; (try first | exact ⟨rfl, _, World.drewN_drewN _ _ _⟩ | exact ⟨rfl, _, Eq.trans (World.drewN_drewN _ _ _) (congrArg (World.drewN _) (Nat.add_assoc _ _ _))⟩)))
 repeat (go_quiet (first | ((with_reducible refine gate_dst (N := 2) rfl ?_); refine box_event ?hg (N := 2) ?hd (cs := #[.bool a0_0, .int .i64 a0_1, .int .i64 a0_2]) (t := 23) ?hr ?_; (case hd => rfl); (case hg => rfl); (case hr => first | (go_simp; done) | (go_simp; rfl)); intro gb174 hg w6 hbox hb; have n0_ := kW HB hb; have n1_ := Aside0.mk (hbox); have n2_ := Aside0.mk ((by rw [hg]; exact (below_size (bS HB)) : w.heap.size ≤ gb174)); have n3_ := Aside0.mk ((by rw [hg]; exact (below_size (bS HB)) : w.heap.size ≤ gb174)); clear HB; have HB := n0_; have BK174 := n1_; have GW174 := n2_; have GE174 := n3_; clear n0_ n1_ n2_ n3_; clear hb hbox hg) | ((with_reducible refine gate_dst (N := 3) rfl ?_); refine box_event ?hg (N := 3) ?hd (cs := #[.bool a1_0, .int .i64 a1_1, .int .i64 a1_2]) (t := 23) ?hr ?_; (case hd => rfl); (case hg => rfl); (case hr => first | (go_simp; done) | (go_simp; rfl)); intro gb175 hg w7 hbox hb; have n0_ := kB BK174 hb; have n1_ := kW HB hb; have n2_ := Aside0.mk (hbox); have n3_ := Aside0.mk ((by rw [hg]; exact (below_size (bS HB)) : w.heap.size ≤ gb175)); have n4_ := Aside0.mk ((by rw [hg]; exact (below_size (bS HB)) : w.heap.size ≤ gb175)); have n5_ := Aside0.mk ((by rw [hg]; exact Nat.ne_of_lt (blk_lt (bkS BK174)) : gb174 ≠ gb175)); have n6_ := Aside0.mk ((by rw [hg]; exact Nat.ne_of_gt (blk_lt (bkS BK174)) : gb175 ≠ gb174)); clear BK174; clear HB; have BK174 := n0_; have HB := n1_; have BK175 := n2_; have GW175 := n3_; have GE175 := n4_; have NB174_175 := n5_; have NB175_174 := n6_; clear n0_ n1_ n2_ n3_ n4_ n5_ n6_; clear hb hbox hg; have hnb8 := NB174_175.out; have hnc8 := NB175_174.out; have hcz9_0 := cz0 BK174; have hcz9_1 := cz1 BK174; have hcz9_2 := cz2 BK174; have hfz9_0 := fz BK174 0; have hfz9_1 := fz BK174 1; have hfz9_2 := fz BK174 2; have hcz10_0 := cz0 BK175; have hcz10_1 := cz1 BK175; have hcz10_2 := cz2 BK175; have hfz10_0 := fz BK175 0; have hfz10_1 := fz BK175 1; have hfz10_2 := fz BK175 2) | (go_at_call 62; (with_reducible refine (congr_gcd_uint64.calls k (IntKind.u64.wrap (a0_1)) (IntKind.u64.wrap (a1_1)) t176 _ A3.out).mono ?_); rintro e w' ⟨rfl, ⟨nd, rfl⟩⟩; (try first | exact ⟨rfl, _, World.drewN_drewN _ _ _⟩ | exact ⟨rfl, _, Eq.trans (World.drewN_drewN _ _ _) (congrArg (World.drewN _) (Nat.add_assoc _ _ _))⟩)) | (go_at_call 52; (with_reducible refine (congr_size.calls (wrap64 (a0_2 - a1_2)) t177 _ A4.out).mono ?_); rintro e w' ⟨rfl, ⟨nd, rfl⟩⟩; (try first | exact ⟨rfl, _, World.drewN_drewN _ _ _⟩ | exact ⟨rfl, _, Eq.trans (World.drewN_drewN _ _ _) (congrArg (World.drewN _) (Nat.add_assoc _ _ _))⟩)) | (go_at_call 62; (with_reducible refine (congr_gcd_uint64.calls k t176 t177 t178 _ A5.out).mono ?_); rintro e w' ⟨rfl, ⟨nd, rfl⟩⟩; (try first | exact ⟨rfl, _, World.drewN_drewN _ _ _⟩ | exact ⟨rfl, _, Eq.trans (World.drewN_drewN _ _ _) (congrArg (World.drewN _) (Nat.add_assoc _ _ _))⟩))); try go_wp2_with (first | ((with_reducible refine gate_dst (N := 2) rfl ?_); refine box_event ?hg (N := 2) ?hd (cs := #[.bool a0_0, .int .i64 a0_1, .int .i64 a0_2]) (t := 23) ?hr ?_; (case hd => rfl); (case hg => rfl); (case hr => first | (go_simp; done) | (go_simp; rfl)); intro gb174 hg w6 hbox hb; have n0_ := kW HB hb; have n1_ := Aside0.mk (hbox); have n2_ := Aside0.mk ((by rw [hg]; exact (below_size (bS HB)) : w.heap.size ≤ gb174)); have n3_ := Aside0.mk ((by rw [hg]; exact (below_size (bS HB)) : w.heap.size ≤ gb174)); clear HB; have HB := n0_; have BK174 := n1_; have GW174 := n2_; have GE174 := n3_; clear n0_ n1_ n2_ n3_; clear hb hbox hg) | ((with_reducible refine gate_dst (N := 3) rfl ?_); refine box_event ?hg (N := 3) ?hd (cs := #[.bool a1_0, .int .i64 a1_1, .int .i64 a1_2]) (t := 23) ?hr ?_; (case hd => rfl); (case hg => rfl); (case hr => first | (go_simp; done) | (go_simp; rfl)); intro gb175 hg w7 hbox hb; have n0_ := kB BK174 hb; have n1_ := kW HB hb; have n2_ := Aside0.mk (hbox); have n3_ := Aside0.mk ((by rw [hg]; exact (below_size (bS HB)) : w.heap.size ≤ gb175)); have n4_ := Aside0.mk ((by rw [hg]; exact (below_size (bS HB)) : w.heap.size ≤ gb175)); have n5_ := Aside0.mk ((by rw [hg]; exact Nat.ne_of_lt (blk_lt (bkS BK174)) : gb174 ≠ gb175)); have n6_ := Aside0.mk ((by rw [hg]; exact Nat.ne_of_gt (blk_lt (bkS BK174)) : gb175 ≠ gb174)); clear BK174; clear HB; have BK174 := n0_; have HB := n1_; have BK175 := n2_; have GW175 := n3_; have GE175 := n4_; have NB174_175 := n5_; have NB175_174 := n6_; clear n0_ n1_ n2_ n3_ n4_ n5_ n6_; clear hb hbox hg; have hnb8 := NB174_175.out; have hnc8 := NB175_174.out; have hcz9_0 := cz0 BK174; have hcz9_1 := cz1 BK174; have hcz9_2 := cz2 BK174; have hfz9_0 := fz BK174 0; have hfz9_1 := fz BK174 1; have hfz9_2 := fz BK174 2; have hcz10_0 := cz0 BK175; have hcz10_1 := cz1 BK175; have hcz10_2 := cz2 BK175; have hfz10_0 := fz BK175 0; have hfz10_1 := fz BK175 1; have hfz10_2 := fz BK175 2) | (go_at_call 62; (with_reducible refine (congr_gcd_uint64.calls k (IntKind.u64.wrap (a0_1)) (IntKind.u64.wrap (a1_1)) t176 _ A3.out).mono ?_); rintro e w' ⟨rfl, ⟨nd, rfl⟩⟩; (try first | exact ⟨rfl, _, World.drewN_drewN _ _ _⟩ | exact ⟨rfl, _, Eq.trans (World.drewN_drewN _ _ _) (congrArg (World.drewN _) (Nat.add_assoc _ _ _))⟩)) | (go_at_call 52; (with_reducible refine (congr_size.calls (wrap64 (a0_2 - a1_2)) t177 _ A4.out).mono ?_); rintro e w' ⟨rfl, ⟨nd, rfl⟩⟩; (try first | exact ⟨rfl, _, World.drewN_drewN _ _ _⟩ | exact ⟨rfl, _, Eq.trans (World.drewN_drewN _ _ _) (congrArg (World.drewN _) (Nat.add_assoc _ _ _))⟩)) | (go_at_call 62; (with_reducible refine (congr_gcd_uint64.calls k t176 t177 t178 _ A5.out).mono ?_); rintro e w' ⟨rfl, ⟨nd, rfl⟩⟩; (try first | exact ⟨rfl, _, World.drewN_drewN _ _ _⟩ | exact ⟨rfl, _, Eq.trans (World.drewN_drewN _ _ _) (congrArg (World.drewN _) (Nat.add_assoc _ _ _))⟩))))
 go_ret
 exact ⟨eS, bS HB⟩

def congr_Join.f (k : Nat) (a0_0 : Bool) (a0_1 : Int) (a0_2 : Int) (a1_0 : Bool) (a1_1 : Int) (a1_2 : Int) : Option (Bool × Int × Int) := if a0_0 = true then (some (a1_0, a1_1, a1_2)) else (if a1_0 = true then (some (a0_0, a0_1, a0_2)) else ((congr_apart.f k a0_0 a0_1 a0_2 a1_0 a1_1 a1_2).bind fun t182 => ((congr_by.f k t182 a0_2).bind fun bt183 => (some (bt183.1, bt183.2.1, bt183.2.2)))))
set_option maxHeartbeats 8000000 in
set_option maxRecDepth 100000 in
theorem congr_Join.calls (k : Nat) (a0_0 : Bool) (a0_1 : Int) (a0_2 : Int) (a1_0 : Bool) (a1_1 : Int) (a1_2 : Int) (r1 : Bool) (r2 : Int) (r3 : Int) (w : World) (h : congr_Join.f k a0_0 a0_1 a0_2 a1_0 a1_1 a1_2 = some (r1, r2, r3)) :
  Calls Tryd.prog 19 #[.agg #[.bool a0_0, .int .i64 a0_1, .int .i64 a0_2], .agg #[.bool a1_0, .int .i64 a1_1, .int .i64 a1_2]] w fun e w' => e = .returned (.agg #[.bool r1, .int .i64 r2, .int .i64 r3]) ∧ Below w.heap.size w w' := by
 have hu23 := Tryd.underlying23
 have HB := Aside0.mk (Below.refl w.heap.size w)
 have H : (if a0_0 = true then (some (a1_0, a1_1, a1_2)) else (if a1_0 = true then (some (a0_0, a0_1, a0_2)) else ((congr_apart.f k a0_0 a0_1 a0_2 a1_0 a1_1 a1_2).bind fun t182 => ((congr_by.f k t182 a0_2).bind fun bt183 => (some (bt183.1, bt183.2.1, bt183.2.2)))))) = some (r1, r2, r3) := h
 clear h
 by_cases c3 : a0_0 = true
 ·
  subst c3
  have H1 : (some (a1_0, a1_1, a1_2)) = some (r1, r2, r3) := by rw [if_pos rfl] at H; exact H
  clear H
  have H := H1
  clear H1
  simp only [Option.some.injEq, Prod.mk.injEq] at H
  obtain ⟨rfl, rfl, rfl⟩ := H
  go_enter Tryd.func19, Tryd.ntmps19
  go_wp2_with (first | ((with_reducible refine gate_dst (N := 2) rfl ?_); refine box_event ?hg (N := 2) ?hd (cs := #[.bool true, .int .i64 a0_1, .int .i64 a0_2]) (t := 23) ?hr ?_; (case hd => rfl); (case hg => rfl); (case hr => first | (go_simp; done) | (go_simp; rfl)); intro gb179 hg w4 hbox hb; have n0_ := kW HB hb; have n1_ := Aside0.mk (hbox); have n2_ := Aside0.mk ((by rw [hg]; exact (below_size (bS HB)) : w.heap.size ≤ gb179)); have n3_ := Aside0.mk ((by rw [hg]; exact (below_size (bS HB)) : w.heap.size ≤ gb179)); clear HB; have HB := n0_; have BK179 := n1_; have GW179 := n2_; have GE179 := n3_; clear n0_ n1_ n2_ n3_; clear hb hbox hg) | ((with_reducible refine gate_dst (N := 3) rfl ?_); refine box_event ?hg (N := 3) ?hd (cs := #[.bool a1_0, .int .i64 a1_1, .int .i64 a1_2]) (t := 23) ?hr ?_; (case hd => rfl); (case hg => rfl); (case hr => first | (go_simp; done) | (go_simp; rfl)); intro gb180 hg w5 hbox hb; have n0_ := kB BK179 hb; have n1_ := kW HB hb; have n2_ := Aside0.mk (hbox); have n3_ := Aside0.mk ((by rw [hg]; exact (below_size (bS HB)) : w.heap.size ≤ gb180)); have n4_ := Aside0.mk ((by rw [hg]; exact (below_size (bS HB)) : w.heap.size ≤ gb180)); have n5_ := Aside0.mk ((by rw [hg]; exact Nat.ne_of_lt (blk_lt (bkS BK179)) : gb179 ≠ gb180)); have n6_ := Aside0.mk ((by rw [hg]; exact Nat.ne_of_gt (blk_lt (bkS BK179)) : gb180 ≠ gb179)); clear BK179; clear HB; have BK179 := n0_; have HB := n1_; have BK180 := n2_; have GW180 := n3_; have GE180 := n4_; have NB179_180 := n5_; have NB180_179 := n6_; clear n0_ n1_ n2_ n3_ n4_ n5_ n6_; clear hb hbox hg) | ((with_reducible refine gate_dst (N := 4) rfl ?_); refine box_event ?hg (N := 4) ?hd (cs := #[.bool false, .int .i64 0, .int .i64 0]) (t := 23) ?hr ?_; (case hd => rfl); (case hg => rfl); (case hr => first | (go_simp; done) | (go_simp; rfl)); intro gb181 hg w6 hbox hb; have n0_ := kB BK179 hb; have n1_ := kB BK180 hb; have n2_ := kW HB hb; have n3_ := Aside0.mk (hbox); have n4_ := Aside0.mk ((by rw [hg]; exact (below_size (bS HB)) : w.heap.size ≤ gb181)); have n5_ := Aside0.mk ((by rw [hg]; exact (below_size (bS HB)) : w.heap.size ≤ gb181)); have n6_ := Aside0.mk ((by rw [hg]; exact Nat.ne_of_lt (blk_lt (bkS BK179)) : gb179 ≠ gb181)); have n7_ := Aside0.mk ((by rw [hg]; exact Nat.ne_of_gt (blk_lt (bkS BK179)) : gb181 ≠ gb179)); have n8_ := Aside0.mk ((by rw [hg]; exact Nat.ne_of_lt (blk_lt (bkS BK180)) : gb180 ≠ gb181)); have n9_ := Aside0.mk ((by rw [hg]; exact Nat.ne_of_gt (blk_lt (bkS BK180)) : gb181 ≠ gb180)); clear BK179; clear BK180; clear HB; have BK179 := n0_; have BK180 := n1_; have HB := n2_; have BK181 := n3_; have GW181 := n4_; have GE181 := n5_; have NB179_181 := n6_; have NB181_179 := n7_; have NB180_181 := n8_; have NB181_180 := n9_; clear n0_ n1_ n2_ n3_ n4_ n5_ n6_ n7_ n8_ n9_; clear hb hbox hg; have hnb7 := NB179_180.out; have hnc7 := NB180_179.out; have hnb8 := NB179_181.out; have hnc8 := NB181_179.out; have hcz9_0 := cz0 BK179; have hcz9_1 := cz1 BK179; have hcz9_2 := cz2 BK179; have hfz9_0 := fz BK179 0; have hfz9_1 := fz BK179 1; have hfz9_2 := fz BK179 2; have hnb10 := NB180_181.out; have hnc10 := NB181_180.out; have hcz11_0 := cz0 BK180; have hcz11_1 := cz1 BK180; have hcz11_2 := cz2 BK180; have hfz11_0 := fz BK180 0; have hfz11_1 := fz BK180 1; have hfz11_2 := fz BK180 2; have hcz12_0 := cz0 BK181; have hcz12_1 := cz1 BK181; have hcz12_2 := cz2 BK181; have hfz12_0 := fz BK181 0; have hfz12_1 := fz BK181 1; have hfz12_2 := fz BK181 2))
  refine bodyPost_ret (results_cell_row rfl _ _ gb181 23 #[.bool a1_0, .int .i64 a1_1, .int .i64 a1_2] (0, 0) _ rfl (by (with_reducible repeat (first | refine b1 ?_ _ | refine b2 ?_ | refine b3 ?_ _)); refine blk_put (cs := #[.bool a1_0, .int .i64 a1_1, .int .i64 0]) ?_ 2 _ rfl; (with_reducible repeat (first | refine b1 ?_ _ | refine b2 ?_ | refine b3 ?_ _)); refine blk_put (cs := #[.bool a1_0, .int .i64 0, .int .i64 0]) ?_ 1 _ rfl; (with_reducible repeat (first | refine b1 ?_ _ | refine b2 ?_ | refine b3 ?_ _)); refine blk_put (cs := #[.bool false, .int .i64 0, .int .i64 0]) ?_ 0 _ rfl; (with_reducible repeat (first | refine b1 ?_ _ | refine b2 ?_ | refine b3 ?_ _)); exact BK181.out) Tryd.underlying23 rfl (by kernel_rfl)) rfl ?_
  exact ⟨eS, bS HB⟩
 ·
  replace c3 := Bool.eq_false_iff.mpr c3
  subst c3
  have H1 : (if a1_0 = true then (some (false, a0_1, a0_2)) else ((congr_apart.f k false a0_1 a0_2 a1_0 a1_1 a1_2).bind fun t182 => ((congr_by.f k t182 a0_2).bind fun bt183 => (some (bt183.1, bt183.2.1, bt183.2.2))))) = some (r1, r2, r3) := by rw [if_neg (show ¬ (false = true) by decide)] at H; exact H
  clear H
  have H := H1
  clear H1
  by_cases c13 : a1_0 = true
  ·
   subst c13
   have H1 : (some (false, a0_1, a0_2)) = some (r1, r2, r3) := by rw [if_pos rfl] at H; exact H
   clear H
   have H := H1
   clear H1
   simp only [Option.some.injEq, Prod.mk.injEq] at H
   obtain ⟨rfl, rfl, rfl⟩ := H
   go_enter Tryd.func19, Tryd.ntmps19
   go_wp2_with (first | ((with_reducible refine gate_dst (N := 2) rfl ?_); refine box_event ?hg (N := 2) ?hd (cs := #[.bool false, .int .i64 a0_1, .int .i64 a0_2]) (t := 23) ?hr ?_; (case hd => rfl); (case hg => rfl); (case hr => first | (go_simp; done) | (go_simp; rfl)); intro gb179 hg w14 hbox hb; have n0_ := kW HB hb; have n1_ := Aside0.mk (hbox); have n2_ := Aside0.mk ((by rw [hg]; exact (below_size (bS HB)) : w.heap.size ≤ gb179)); have n3_ := Aside0.mk ((by rw [hg]; exact (below_size (bS HB)) : w.heap.size ≤ gb179)); clear HB; have HB := n0_; have BK179 := n1_; have GW179 := n2_; have GE179 := n3_; clear n0_ n1_ n2_ n3_; clear hb hbox hg) | ((with_reducible refine gate_dst (N := 3) rfl ?_); refine box_event ?hg (N := 3) ?hd (cs := #[.bool true, .int .i64 a1_1, .int .i64 a1_2]) (t := 23) ?hr ?_; (case hd => rfl); (case hg => rfl); (case hr => first | (go_simp; done) | (go_simp; rfl)); intro gb180 hg w15 hbox hb; have n0_ := kB BK179 hb; have n1_ := kW HB hb; have n2_ := Aside0.mk (hbox); have n3_ := Aside0.mk ((by rw [hg]; exact (below_size (bS HB)) : w.heap.size ≤ gb180)); have n4_ := Aside0.mk ((by rw [hg]; exact (below_size (bS HB)) : w.heap.size ≤ gb180)); have n5_ := Aside0.mk ((by rw [hg]; exact Nat.ne_of_lt (blk_lt (bkS BK179)) : gb179 ≠ gb180)); have n6_ := Aside0.mk ((by rw [hg]; exact Nat.ne_of_gt (blk_lt (bkS BK179)) : gb180 ≠ gb179)); clear BK179; clear HB; have BK179 := n0_; have HB := n1_; have BK180 := n2_; have GW180 := n3_; have GE180 := n4_; have NB179_180 := n5_; have NB180_179 := n6_; clear n0_ n1_ n2_ n3_ n4_ n5_ n6_; clear hb hbox hg) | ((with_reducible refine gate_dst (N := 4) rfl ?_); refine box_event ?hg (N := 4) ?hd (cs := #[.bool false, .int .i64 0, .int .i64 0]) (t := 23) ?hr ?_; (case hd => rfl); (case hg => rfl); (case hr => first | (go_simp; done) | (go_simp; rfl)); intro gb181 hg w16 hbox hb; have n0_ := kB BK179 hb; have n1_ := kB BK180 hb; have n2_ := kW HB hb; have n3_ := Aside0.mk (hbox); have n4_ := Aside0.mk ((by rw [hg]; exact (below_size (bS HB)) : w.heap.size ≤ gb181)); have n5_ := Aside0.mk ((by rw [hg]; exact (below_size (bS HB)) : w.heap.size ≤ gb181)); have n6_ := Aside0.mk ((by rw [hg]; exact Nat.ne_of_lt (blk_lt (bkS BK179)) : gb179 ≠ gb181)); have n7_ := Aside0.mk ((by rw [hg]; exact Nat.ne_of_gt (blk_lt (bkS BK179)) : gb181 ≠ gb179)); have n8_ := Aside0.mk ((by rw [hg]; exact Nat.ne_of_lt (blk_lt (bkS BK180)) : gb180 ≠ gb181)); have n9_ := Aside0.mk ((by rw [hg]; exact Nat.ne_of_gt (blk_lt (bkS BK180)) : gb181 ≠ gb180)); clear BK179; clear BK180; clear HB; have BK179 := n0_; have BK180 := n1_; have HB := n2_; have BK181 := n3_; have GW181 := n4_; have GE181 := n5_; have NB179_181 := n6_; have NB181_179 := n7_; have NB180_181 := n8_; have NB181_180 := n9_; clear n0_ n1_ n2_ n3_ n4_ n5_ n6_ n7_ n8_ n9_; clear hb hbox hg; have hnb17 := NB179_180.out; have hnc17 := NB180_179.out; have hnb18 := NB179_181.out; have hnc18 := NB181_179.out; have hcz19_0 := cz0 BK179; have hcz19_1 := cz1 BK179; have hcz19_2 := cz2 BK179; have hfz19_0 := fz BK179 0; have hfz19_1 := fz BK179 1; have hfz19_2 := fz BK179 2; have hnb20 := NB180_181.out; have hnc20 := NB181_180.out; have hcz21_0 := cz0 BK180; have hcz21_1 := cz1 BK180; have hcz21_2 := cz2 BK180; have hfz21_0 := fz BK180 0; have hfz21_1 := fz BK180 1; have hfz21_2 := fz BK180 2; have hcz22_0 := cz0 BK181; have hcz22_1 := cz1 BK181; have hcz22_2 := cz2 BK181; have hfz22_0 := fz BK181 0; have hfz22_1 := fz BK181 1; have hfz22_2 := fz BK181 2))
   refine bodyPost_ret (results_cell_row rfl _ _ gb181 23 #[.bool false, .int .i64 a0_1, .int .i64 a0_2] (0, 0) _ rfl (by (with_reducible repeat (first | refine b1 ?_ _ | refine b2 ?_ | refine b3 ?_ _)); refine blk_put (cs := #[.bool false, .int .i64 a0_1, .int .i64 0]) ?_ 2 _ rfl; (with_reducible repeat (first | refine b1 ?_ _ | refine b2 ?_ | refine b3 ?_ _)); refine blk_put (cs := #[.bool false, .int .i64 0, .int .i64 0]) ?_ 1 _ rfl; (with_reducible repeat (first | refine b1 ?_ _ | refine b2 ?_ | refine b3 ?_ _)); refine blk_put (cs := #[.bool false, .int .i64 0, .int .i64 0]) ?_ 0 _ rfl; (with_reducible repeat (first | refine b1 ?_ _ | refine b2 ?_ | refine b3 ?_ _)); exact BK181.out) Tryd.underlying23 rfl (by kernel_rfl)) rfl ?_
   exact ⟨eS, bS HB⟩
  ·
   replace c13 := Bool.eq_false_iff.mpr c13
   subst c13
   have H1 : ((congr_apart.f k false a0_1 a0_2 false a1_1 a1_2).bind fun t182 => ((congr_by.f k t182 a0_2).bind fun bt183 => (some (bt183.1, bt183.2.1, bt183.2.2)))) = some (r1, r2, r3) := by rw [if_neg (show ¬ (false = true) by decide)] at H; exact H
   clear H
   have H := H1
   clear H1
   replace H := Option.bind_eq_some_iff.mp H
   obtain ⟨t182, A230, H⟩ := H
   replace H : ((congr_by.f k t182 a0_2).bind fun bt183 => (some (bt183.1, bt183.2.1, bt183.2.2))) = some (r1, r2, r3) := H
   have A23 := Aside0.mk A230
   clear A230
   replace H := Option.bind_eq_some_iff.mp H
   obtain ⟨⟨t183, t184, t185⟩, A240, H⟩ := H
   replace H : (some (t183, t184, t185)) = some (r1, r2, r3) := H
   have A24 := Aside0.mk A240
   clear A240
   simp only [Option.some.injEq, Prod.mk.injEq] at H
   obtain ⟨rfl, rfl, rfl⟩ := H
   go_enter Tryd.func19, Tryd.ntmps19
   try go_wp2_with (first | ((with_reducible refine gate_dst (N := 2) rfl ?_); refine box_event ?hg (N := 2) ?hd (cs := #[.bool false, .int .i64 a0_1, .int .i64 a0_2]) (t := 23) ?hr ?_; (case hd => rfl); (case hg => rfl); (case hr => first | (go_simp; done) | (go_simp; rfl)); intro gb179 hg w25 hbox hb; have n0_ := kW HB hb; have n1_ := Aside0.mk (hbox); have n2_ := Aside0.mk ((by rw [hg]; exact (below_size (bS HB)) : w.heap.size ≤ gb179)); have n3_ := Aside0.mk ((by rw [hg]; exact (below_size (bS HB)) : w.heap.size ≤ gb179)); clear HB; have HB := n0_; have BK179 := n1_; have GW179 := n2_; have GE179 := n3_; clear n0_ n1_ n2_ n3_; clear hb hbox hg) | ((with_reducible refine gate_dst (N := 3) rfl ?_); refine box_event ?hg (N := 3) ?hd (cs := #[.bool false, .int .i64 a1_1, .int .i64 a1_2]) (t := 23) ?hr ?_; (case hd => rfl); (case hg => rfl); (case hr => first | (go_simp; done) | (go_simp; rfl)); intro gb180 hg w26 hbox hb; have n0_ := kB BK179 hb; have n1_ := kW HB hb; have n2_ := Aside0.mk (hbox); have n3_ := Aside0.mk ((by rw [hg]; exact (below_size (bS HB)) : w.heap.size ≤ gb180)); have n4_ := Aside0.mk ((by rw [hg]; exact (below_size (bS HB)) : w.heap.size ≤ gb180)); have n5_ := Aside0.mk ((by rw [hg]; exact Nat.ne_of_lt (blk_lt (bkS BK179)) : gb179 ≠ gb180)); have n6_ := Aside0.mk ((by rw [hg]; exact Nat.ne_of_gt (blk_lt (bkS BK179)) : gb180 ≠ gb179)); clear BK179; clear HB; have BK179 := n0_; have HB := n1_; have BK180 := n2_; have GW180 := n3_; have GE180 := n4_; have NB179_180 := n5_; have NB180_179 := n6_; clear n0_ n1_ n2_ n3_ n4_ n5_ n6_; clear hb hbox hg) | ((with_reducible refine gate_dst (N := 4) rfl ?_); refine box_event ?hg (N := 4) ?hd (cs := #[.bool false, .int .i64 0, .int .i64 0]) (t := 23) ?hr ?_; (case hd => rfl); (case hg => rfl); (case hr => first | (go_simp; done) | (go_simp; rfl)); intro gb181 hg w27 hbox hb; have n0_ := kB BK179 hb; have n1_ := kB BK180 hb; have n2_ := kW HB hb; have n3_ := Aside0.mk (hbox); have n4_ := Aside0.mk ((by rw [hg]; exact (below_size (bS HB)) : w.heap.size ≤ gb181)); have n5_ := Aside0.mk ((by rw [hg]; exact (below_size (bS HB)) : w.heap.size ≤ gb181)); have n6_ := Aside0.mk ((by rw [hg]; exact Nat.ne_of_lt (blk_lt (bkS BK179)) : gb179 ≠ gb181)); have n7_ := Aside0.mk ((by rw [hg]; exact Nat.ne_of_gt (blk_lt (bkS BK179)) : gb181 ≠ gb179)); have n8_ := Aside0.mk ((by rw [hg]; exact Nat.ne_of_lt (blk_lt (bkS BK180)) : gb180 ≠ gb181)); have n9_ := Aside0.mk ((by rw [hg]; exact Nat.ne_of_gt (blk_lt (bkS BK180)) : gb181 ≠ gb180)); clear BK179; clear BK180; clear HB; have BK179 := n0_; have BK180 := n1_; have HB := n2_; have BK181 := n3_; have GW181 := n4_; have GE181 := n5_; have NB179_181 := n6_; have NB181_179 := n7_; have NB180_181 := n8_; have NB181_180 := n9_; clear n0_ n1_ n2_ n3_ n4_ n5_ n6_ n7_ n8_ n9_; clear hb hbox hg; have hnb28 := NB179_180.out; have hnc28 := NB180_179.out; have hnb29 := NB179_181.out; have hnc29 := NB181_179.out; have hcz30_0 := cz0 BK179; have hcz30_1 := cz1 BK179; have hcz30_2 := cz2 BK179; have hfz30_0 := fz BK179 0; have hfz30_1 := fz BK179 1; have hfz30_2 := fz BK179 2; have hnb31 := NB180_181.out; have hnc31 := NB181_180.out; have hcz32_0 := cz0 BK180; have hcz32_1 := cz1 BK180; have hcz32_2 := cz2 BK180; have hfz32_0 := fz BK180 0; have hfz32_1 := fz BK180 1; have hfz32_2 := fz BK180 2))
   replace BK179 := Aside0.mk (blk_drew BK179.out)
   replace BK180 := Aside0.mk (blk_drew BK180.out)
   replace BK181 := Aside0.mk (blk_drew BK181.out)
   replace HB := Aside0.mk (below_drew1 HB.out)
   refine start_ (n := 7) (S := fun w' => w'.cell? ⟨gb179, 0, none⟩ = some (.bool false) ∧ w'.cell? ⟨gb179, 1, none⟩ = some (.int .i64 a0_1) ∧ w'.cell? ⟨gb179, 2, none⟩ = some (.int .i64 a0_2) ∧ w'.cell? ⟨gb180, 0, none⟩ = some (.bool false) ∧ w'.cell? ⟨gb180, 1, none⟩ = some (.int .i64 a1_1) ∧ w'.cell? ⟨gb180, 2, none⟩ = some (.int .i64 a1_2)) (ds := []) #[false, false, false, false, false, false, false] (by kernel_rfl) rfl rfl ⟨cz0 BK179, cz1 BK179, cz2 BK179, cz0 BK180, cz1 BK180, cz2 BK180⟩ (fun hHeld => ?_)
   generalize w27.drew = w33 at BK179 BK180 BK181 HB hHeld ⊢
   refine pure_ (i := 3) (N := some 16) (v := ?_) (a' := ?_) #[false, false, false, true, false, false, false] rfl rfl (by kernel_rfl) (fun _ _ _ h => h) (Or.inl ⟨by rfl, ?_⟩) ?_ ?_
   rotate_left
   ·
    intro w'
    go_simp
    with_reducible rfl
   rotate_left
   ·
    simp only [Act.put, lA, lB, lC, i64_w, i32_w]
    rfl
   refine take_ (i := 0) (N := some 13) (v := ?_) (a' := ?_) #[true, false, false, true, false, false, false] rfl rfl (by kernel_rfl) (fun _ _ _ h => h) (Or.inl ⟨by rfl, ?_⟩) hHeld ?_ ?_
   rotate_left
   ·
    rintro w' ⟨s0, s1, s2, s3, s4, s5⟩
    go_simp
    with_reducible rfl
   rotate_left
   ·
    simp only [Act.put, lA, lB, lC, i64_w, i32_w]
    rfl
   refine take_ (i := 1) (N := some 14) (v := ?_) (a' := ?_) #[true, true, false, true, false, false, false] rfl rfl (by kernel_rfl) (fun _ _ _ h => h) (Or.inl ⟨by rfl, ?_⟩) hHeld ?_ ?_
   rotate_left
   ·
    rintro w' ⟨s0, s1, s2, s3, s4, s5⟩
    go_simp
    with_reducible rfl
   rotate_left
   ·
    simp only [Act.put, lA, lB, lC, i64_w, i32_w]
    rfl
   refine take_ (i := 4) (N := some 17) (v := ?_) (a' := ?_) #[true, true, false, true, true, false, false] rfl rfl (by kernel_rfl) (fun _ _ _ h => h) (Or.inl ⟨by rfl, ?_⟩) hHeld ?_ ?_
   rotate_left
   ·
    rintro w' ⟨s0, s1, s2, s3, s4, s5⟩
    go_simp
    with_reducible rfl
   rotate_left
   ·
    simp only [Act.put, lA, lB, lC, i64_w, i32_w]
    rfl
   refine one_ (i := 2) (N := some 15) #[true, true, true, true, true, false, false] rfl rfl (by kernel_rfl) (by decide) (fun K hK => ?_)
   refine goes_ Tryd.func61 (by kernel_rfl) rfl #[.agg #[.bool false, .int .i64 a0_1, .int .i64 a0_2], .agg #[.bool false, .int .i64 a1_1, .int .i64 a1_2]] (by rfl) rfl rfl mS ?_
   with_reducible refine (congr_apart.calls k false a0_1 a0_2 false a1_1 a1_2 t182 _ A23.out).mono ?_
   rintro e w34 ⟨rfl, hb⟩
   refine ⟨_, rfl, ?_⟩
   replace BK179 := kB BK179 hb
   replace BK180 := kB BK180 hb
   replace BK181 := kB BK181 hb
   replace HB := kW HB hb
   (try clear hb)
   (try clear hb2)
   (try clear hk)
   (try clear hi)
   refine hK.out _ _ ⟨cz0 BK179, cz1 BK179, cz2 BK179, cz0 BK180, cz1 BK180, cz2 BK180⟩ (fun hHeld => ?_)
   clear hK K
   refine norm_ (a' := ?_) ?_ ?_
   rotate_left
   ·
    show Act.put _ (some 15) _ = _
    simp only [Act.put, lA, lB, lC, i64_w, i32_w]
    rfl
   refine one_ (i := 5) (N := some 18) #[true, true, true, true, true, true, false] rfl rfl (by kernel_rfl) (by decide) (fun K hK => ?_)
   refine goes_ Tryd.func60 (by kernel_rfl) rfl #[.int .u64 t182, .int .i64 a0_2] (by rfl) rfl rfl mS ?_
   with_reducible refine (congr_by.calls k t182 a0_2 t183 t184 t185 _ A24.out).mono ?_
   rintro e w35 ⟨rfl, hb⟩
   refine ⟨_, rfl, ?_⟩
   replace BK179 := kB BK179 hb
   replace BK180 := kB BK180 hb
   replace BK181 := kB BK181 hb
   replace HB := kW HB hb
   (try clear hb)
   (try clear hb2)
   (try clear hk)
   (try clear hi)
   refine hK.out _ _ ⟨cz0 BK179, cz1 BK179, cz2 BK179, cz0 BK180, cz1 BK180, cz2 BK180⟩ (fun hHeld => ?_)
   clear hK K
   refine norm_ (a' := ?_) ?_ ?_
   rotate_left
   ·
    show Act.put _ (some 18) _ = _
    simp only [Act.put, lA, lB, lC, i64_w, i32_w]
    rfl
   refine one_ (i := 6) (N := none) #[true, true, true, true, true, true, true] rfl rfl (by kernel_rfl) (by decide) (fun K hK => ?_)
   have hs36 : w35.cell? ⟨gb181, 0, none⟩ = some (.bool false) := cz0 BK181
   have hfs36 := fz BK181 0
   have hns36_0 := NB179_181.out
   have hns36_1 := NB180_181.out
   have hms36_0 := NB181_179.out
   have hms36_1 := NB181_180.out
   have hs37 : w35.cell? ⟨gb181, 1, none⟩ = some (.int .i64 0) := cz1 BK181
   have hfs37 := fz BK181 1
   have hns37_0 := NB179_181.out
   have hns37_1 := NB180_181.out
   have hms37_0 := NB181_179.out
   have hms37_1 := NB181_180.out
   have hs38 : w35.cell? ⟨gb181, 2, none⟩ = some (.int .i64 0) := cz2 BK181
   have hfs38 := fz BK181 2
   have hns38_0 := NB179_181.out
   have hns38_1 := NB180_181.out
   have hms38_0 := NB181_179.out
   have hms38_1 := NB181_180.out
   refine skip_ (w1 := ?_) (by rfl) rfl ?_ ?_
   rotate_left
   ·
    go_simp
    rfl
   refine hK.out _ _ ⟨((cell_far (p := ⟨gb181, _, none⟩) NB179_181.out _).trans (((cell_far (p := ⟨gb181, _, none⟩) NB179_181.out _).trans (((cell_far (p := ⟨gb181, _, none⟩) NB179_181.out _).trans (hHeld.1)))))), ((cell_far (p := ⟨gb181, _, none⟩) NB179_181.out _).trans (((cell_far (p := ⟨gb181, _, none⟩) NB179_181.out _).trans (((cell_far (p := ⟨gb181, _, none⟩) NB179_181.out _).trans (hHeld.2.1)))))), ((cell_far (p := ⟨gb181, _, none⟩) NB179_181.out _).trans (((cell_far (p := ⟨gb181, _, none⟩) NB179_181.out _).trans (((cell_far (p := ⟨gb181, _, none⟩) NB179_181.out _).trans (hHeld.2.2.1)))))), ((cell_far (p := ⟨gb181, _, none⟩) NB180_181.out _).trans (((cell_far (p := ⟨gb181, _, none⟩) NB180_181.out _).trans (((cell_far (p := ⟨gb181, _, none⟩) NB180_181.out _).trans (hHeld.2.2.2.1)))))), ((cell_far (p := ⟨gb181, _, none⟩) NB180_181.out _).trans (((cell_far (p := ⟨gb181, _, none⟩) NB180_181.out _).trans (((cell_far (p := ⟨gb181, _, none⟩) NB180_181.out _).trans (hHeld.2.2.2.2.1)))))), ((cell_far (p := ⟨gb181, _, none⟩) NB180_181.out _).trans (((cell_far (p := ⟨gb181, _, none⟩) NB180_181.out _).trans (((cell_far (p := ⟨gb181, _, none⟩) NB180_181.out _).trans (hHeld.2.2.2.2.2))))))⟩ (fun hHeld => ?_)
   clear hK K
   refine done_ (by kernel_rfl) ?_
   try go_wp2
   refine bodyPost_ret (results_cell_row rfl _ _ gb181 23 #[.bool t183, .int .i64 t184, .int .i64 t185] (0, 0) _ rfl (by (with_reducible repeat (first | refine b1 ?_ _ | refine b2 ?_ | refine b3 ?_ _)); refine blk_put (cs := #[.bool t183, .int .i64 t184, .int .i64 0]) ?_ 2 _ rfl; (with_reducible repeat (first | refine b1 ?_ _ | refine b2 ?_ | refine b3 ?_ _)); refine blk_put (cs := #[.bool t183, .int .i64 0, .int .i64 0]) ?_ 1 _ rfl; (with_reducible repeat (first | refine b1 ?_ _ | refine b2 ?_ | refine b3 ?_ _)); refine blk_put (cs := #[.bool false, .int .i64 0, .int .i64 0]) ?_ 0 _ rfl; (with_reducible repeat (first | refine b1 ?_ _ | refine b2 ?_ | refine b3 ?_ _)); exact BK181.out) Tryd.underlying23 rfl (by kernel_rfl)) rfl ?_
   exact ⟨eS, bS HB⟩

end Go.Proofs.YtfmmjekhknaniaaDoor.Pr

namespace Go.Proofs.YtfmmjekhknaniaaDoor.Core
open Go.RowKit Go.Proofs.YtfmmjekhknaniaaDoor.Pr Go.Proofs.YtfmmjekhknaniaaDoorW.PrintWords

theorem ev_of {α : Type} {g : Nat → Option α} {r : α} (n : Nat) (h : ∀ k, g (k + n) = some r) : Ev g r :=
  ⟨n, fun k hk => by obtain ⟨j, rfl⟩ : ∃ j, k = j + n := ⟨k - n, by omega⟩; exact h j⟩

theorem G_ab (a b : Int) : G a (ab b) = G a b := by
  refine Int.dvd_antisymm (G_nonneg _ _) (G_nonneg _ _) ?_ ?_
  · rw [dvd_G]; exact ⟨G_dvd_l _ _, dvd_ab.mp (G_dvd_r a (ab b))⟩
  · rw [dvd_G]; exact ⟨G_dvd_l _ _, dvd_ab.mpr (G_dvd_r a b)⟩
theorem ab_le {x m : Int} (h : -m ≤ x) (h' : x ≤ m) : ab x ≤ m := by unfold ab; split <;> omega

theorem eta3 (c : Cg) : (c.1, c.2.1, c.2.2) = c := rfl

theorem apart_f {a b : Cg} (ha : Fit a) (hb : Fit b) : Ev (fun k => congr_apart.f k a.1 a.2.1 a.2.2 b.1 b.2.1 b.2.2) (G (G a.2.1 b.2.1) (a.2.2 - b.2.2)) := by
  have ma := fit_mod ha
  have mb := fit_mod hb
  unfold congr_apart.f
  rw [u64_id (n := a.2.1) (by omega) (by omega), u64_id (n := b.2.1) (by omega) (by omega), w64_id (n := a.2.2 - b.2.2) (by omega) (by omega)]
  refine Ev.bind (gcd_f (by omega) (by omega)) ?_
  rw [size_f (by omega) (by omega)]
  simp only [Option.bind_some]
  have := gcd_f (G_nonneg a.2.1 b.2.1) (ab_nonneg (a.2.2 - b.2.2))
  rw [G_ab] at this
  exact Ev.bind this (Ev.now _)

theorem apart_le {a b : Cg} (ha : Fit a) (hb : Fit b) : G (G a.2.1 b.2.1) (a.2.2 - b.2.2) ≤ 18446744073709551615 := by
  have ma := fit_mod ha
  have mb := fit_mod hb
  rw [← G_ab]
  exact G_le (G_nonneg _ _) (ab_nonneg _) (G_le (by omega) (by omega) (by omega) (by omega)) (ab_le (by omega) (by omega))

theorem Join_f {a b : Cg} (ha : Fit a) (hb : Fit b) : Ev (fun k => congr_Join.f k a.1 a.2.1 a.2.2 b.1 b.2.1 b.2.2) (joinS a b) := by
  have ma := fit_mod ha
  unfold congr_Join.f joinS
  by_cases h1 : a.1 = true
  · simp only [if_pos h1]; exact Ev.now _
  · simp only [if_neg h1]
    by_cases h2 : b.1 = true
    · simp only [if_pos h2]; exact Ev.now _
    · simp only [if_neg h2]
      refine Ev.bind (apart_f ha hb) ?_
      exact Ev.bind (ev_of 1 (by_f (G_nonneg _ _) (apart_le ha hb) (by omega) (by omega))) (Ev.now _)

end Go.Proofs.YtfmmjekhknaniaaDoor.Core

namespace Go.Proofs.YtfmmjekhknaniaaDoor.Pr
open Go.RowKit Go.Proofs.YtfmmjekhknaniaaDoor.Given Go.Proofs.YtfmmjekhknaniaaDoorW.PrintWords Go.Proofs.YtfmmjekhknaniaaDoorW.PrintLast Go.Proofs.YtfmmjekhknaniaaDoorW.PrintMore
attribute [local go_sem] max2_int min2_int max_two min_two max_three min_three max_four min_four   -- for this text's walks alone
set_option linter.unusedVariables false
set_option linter.unusedSimpArgs false

attribute [local go_sem high] eqA23
def congr_Leq.f (k : Nat) (a0_0 : Bool) (a0_1 : Int) (a0_2 : Int) (a1_0 : Bool) (a1_1 : Int) (a1_2 : Int) : Option (Bool) := if a0_0 = true then (some true) else (if a1_0 = true then (some false) else ((congr_Join.f k a0_0 a0_1 a0_2 a1_0 a1_1 a1_2).bind fun bt225 => (some (bt225.1 == a1_0 && (bt225.2.1 == a1_1 && (bt225.2.2 == a1_2))))))
def congr_Leq.T1 : Bool × List (List Nat × List Nat) := (true, [([], []), ([0], [0]), ([1], [1]), ([2], [2]), ([3, 2], [2, 3]), ([4, 2], [2, 4]), ([5, 2, 2], [2, 5]), ([6], [6]), ([6], [6]), ([7, 8, 6, 6], [6, 7, 8]), ([6], [6]), ([9, 10, 6], [6, 9, 10]), ([6, 11, 2], [2, 6, 11]), ([2, 12], [2, 12]), ([13, 9, 0, 1, 2, 3, 4, 5, 6, 7, 8, 9, 10, 11, 12, 13], [13])])
def congr_Leq.B1 : List Nat := [0, 1, 3, 7, 15, 31, 63, 127, 127, 511, 127, 2047, 4095, 8191, 16383]
theorem congr_Leq.tab1 : rtab .any (opsOf Tryd.f21 1) = congr_Leq.T1 := by kernel_rfl
theorem congr_Leq.bits1 : waitsOk congr_Leq.T1.2 congr_Leq.B1 = true := by kernel_rfl
set_option maxHeartbeats 8000000 in
set_option maxRecDepth 100000 in
theorem congr_Leq.calls (k : Nat) (a0_0 : Bool) (a0_1 : Int) (a0_2 : Int) (a1_0 : Bool) (a1_1 : Int) (a1_2 : Int) (r : Bool) (w : World) (h : congr_Leq.f k a0_0 a0_1 a0_2 a1_0 a1_1 a1_2 = some r) :
  Calls Tryd.prog 21 #[.agg #[.bool a0_0, .int .i64 a0_1, .int .i64 a0_2], .agg #[.bool a1_0, .int .i64 a1_1, .int .i64 a1_2]] w fun e w' => e = .returned (.bool r) ∧ Below w.heap.size w w' := by
 have hu23 := Tryd.underlying23
 have HB := Aside0.mk (Below.refl w.heap.size w)
 have H : (if a0_0 = true then (some true) else (if a1_0 = true then (some false) else ((congr_Join.f k a0_0 a0_1 a0_2 a1_0 a1_1 a1_2).bind fun bt225 => (some (bt225.1 == a1_0 && (bt225.2.1 == a1_1 && (bt225.2.2 == a1_2))))))) = some r := h
 clear h
 by_cases c3 : a0_0 = true
 ·
  subst c3
  have H1 : (some true) = some r := by rw [if_pos rfl] at H; exact H
  clear H
  have H := H1
  clear H1
  obtain rfl := Option.some.inj H
  go_enter Tryd.func21, Tryd.ntmps21
  try go_wp2_with (first | ((with_reducible refine gate_dst (N := 2) rfl ?_); refine box_event ?hg (N := 2) ?hd (cs := #[.bool true, .int .i64 a0_1, .int .i64 a0_2]) (t := 23) ?hr ?_; (case hd => rfl); (case hg => rfl); (case hr => first | (go_simp; done) | (go_simp; rfl)); intro gb223 hg w4 hbox hb; have n0_ := kW HB hb; have n1_ := Aside0.mk (hbox); have n2_ := Aside0.mk ((by rw [hg]; exact (below_size (bS HB)) : w.heap.size ≤ gb223)); have n3_ := Aside0.mk ((by rw [hg]; exact (below_size (bS HB)) : w.heap.size ≤ gb223)); clear HB; have HB := n0_; have BK223 := n1_; have GW223 := n2_; have GE223 := n3_; clear n0_ n1_ n2_ n3_; clear hb hbox hg) | ((with_reducible refine gate_dst (N := 3) rfl ?_); refine box_event ?hg (N := 3) ?hd (cs := #[.bool a1_0, .int .i64 a1_1, .int .i64 a1_2]) (t := 23) ?hr ?_; (case hd => rfl); (case hg => rfl); (case hr => first | (go_simp; done) | (go_simp; rfl)); intro gb224 hg w5 hbox hb; have n0_ := kB BK223 hb; have n1_ := kW HB hb; have n2_ := Aside0.mk (hbox); have n3_ := Aside0.mk ((by rw [hg]; exact (below_size (bS HB)) : w.heap.size ≤ gb224)); have n4_ := Aside0.mk ((by rw [hg]; exact (below_size (bS HB)) : w.heap.size ≤ gb224)); have n5_ := Aside0.mk ((by rw [hg]; exact Nat.ne_of_lt (blk_lt (bkS BK223)) : gb223 ≠ gb224)); have n6_ := Aside0.mk ((by rw [hg]; exact Nat.ne_of_gt (blk_lt (bkS BK223)) : gb224 ≠ gb223)); clear BK223; clear HB; have BK223 := n0_; have HB := n1_; have BK224 := n2_; have GW224 := n3_; have GE224 := n4_; have NB223_224 := n5_; have NB224_223 := n6_; clear n0_ n1_ n2_ n3_ n4_ n5_ n6_; clear hb hbox hg))
  replace BK223 := Aside0.mk (blk_drew BK223.out)
  replace BK224 := Aside0.mk (blk_drew BK224.out)
  replace HB := Aside0.mk (below_drew1 HB.out)
  refine start_ (n := 15) (S := fun w' => w'.cell? ⟨gb223, 0, none⟩ = some (.bool true) ∧ w'.cell? ⟨gb223, 1, none⟩ = some (.int .i64 a0_1) ∧ w'.cell? ⟨gb223, 2, none⟩ = some (.int .i64 a0_2)) (ds := []) #[false, false, false, false, false, false, false, false, false, false, false, false, false, false, false] (by kernel_rfl) rfl rfl ⟨cz0 BK223, cz1 BK223, cz2 BK223⟩ (fun hHeld => ?_); refine with_tabW congr_Leq.tab1 congr_Leq.bits1 (fun HT_ HW_ => ?_)
  generalize w5.drew = w6 at BK223 BK224 HB hHeld ⊢
  refine pure_ (i := 0) (N := some 5) (v := ?_) (a' := ?_) #[true, false, false, false, false, false, false, false, false, false, false, false, false, false, false] rfl rfl (any_of HT_.out (by kernel_rfl)) (fun _ _ _ h => h) (Or.inl ⟨by rfl, ?_⟩) ?_ ?_
  rotate_left
  ·
   intro w'
   go_simp
   with_reducible rfl
  rotate_left
  ·
   simp only [Act.put, lA, lB, lC, i64_w, i32_w]
   rfl
  refine take_ (i := 1) (N := some 6) (v := ?_) (a' := ?_) #[true, true, false, false, false, false, false, false, false, false, false, false, false, false, false] rfl rfl (take_ofW HT_.out HW_.out (by kernel_rfl)) (fun _ _ _ h => h) (Or.inl ⟨by rfl, ?_⟩) hHeld ?_ ?_
  rotate_left
  ·
   rintro w' ⟨s0, s1, s2⟩
   go_simp
   with_reducible rfl
  rotate_left
  ·
   simp only [Act.put, lA, lB, lC, i64_w, i32_w]
   rfl
  refine pure_ (i := 2) (N := some 7) (v := ?_) (a' := ?_) #[true, true, true, false, false, false, false, false, false, false, false, false, false, false, false] rfl rfl (any_of HT_.out (by kernel_rfl)) (fun _ _ _ h => h) (Or.inl ⟨by rfl, ?_⟩) ?_ ?_
  rotate_left
  ·
   intro w'
   go_simp
   with_reducible rfl
  rotate_left
  ·
   simp only [Act.put, lA, lB, lC, i64_w, i32_w]
   rfl
  refine pure_ (i := 3) (N := some 8) (v := undef) (a' := ?_) #[true, true, true, true, false, false, false, false, false, false, false, false, false, false, false] rfl rfl (any_of HT_.out (by kernel_rfl)) (fun _ _ _ h => h) (Or.inr ⟨by rfl, rfl⟩) ?_ ?_
  rotate_left
  ·
   simp only [Act.put, lA, lB, lC, i64_w, i32_w]
   rfl
  refine pure_ (i := 4) (N := some 9) (v := undef) (a' := ?_) #[true, true, true, true, true, false, false, false, false, false, false, false, false, false, false] rfl rfl (any_of HT_.out (by kernel_rfl)) (fun _ _ _ h => h) (Or.inr ⟨by rfl, rfl⟩) ?_ ?_
  rotate_left
  ·
   simp only [Act.put, lA, lB, lC, i64_w, i32_w]
   rfl
  refine pure_ (i := 5) (N := some 10) (v := undef) (a' := ?_) #[true, true, true, true, true, true, false, false, false, false, false, false, false, false, false] rfl rfl (any_of HT_.out (by kernel_rfl)) (fun _ _ _ h => h) (Or.inr ⟨by rfl, rfl⟩) ?_ ?_
  rotate_left
  ·
   simp only [Act.put, lA, lB, lC, i64_w, i32_w]
   rfl
  refine pure_ (i := 6) (N := some 11) (v := undef) (a' := ?_) #[true, true, true, true, true, true, true, false, false, false, false, false, false, false, false] rfl rfl (any_of HT_.out (by kernel_rfl)) (fun _ _ _ h => h) (Or.inr ⟨by rfl, rfl⟩) ?_ ?_
  rotate_left
  ·
   simp only [Act.put, lA, lB, lC, i64_w, i32_w]
   rfl
  refine pure_ (i := 7) (N := some 12) (v := undef) (a' := ?_) #[true, true, true, true, true, true, true, true, false, false, false, false, false, false, false] rfl rfl (any_of HT_.out (by kernel_rfl)) (fun _ _ _ h => h) (Or.inr ⟨by rfl, rfl⟩) ?_ ?_
  rotate_left
  ·
   simp only [Act.put, lA, lB, lC, i64_w, i32_w]
   rfl
  refine pure_ (i := 8) (N := some 13) (v := undef) (a' := ?_) #[true, true, true, true, true, true, true, true, true, false, false, false, false, false, false] rfl rfl (any_of HT_.out (by kernel_rfl)) (fun _ _ _ h => h) (Or.inr ⟨by rfl, rfl⟩) ?_ ?_
  rotate_left
  ·
   simp only [Act.put, lA, lB, lC, i64_w, i32_w]
   rfl
  refine pure_ (i := 9) (N := some 14) (v := undef) (a' := ?_) #[true, true, true, true, true, true, true, true, true, true, false, false, false, false, false] rfl rfl (any_of HT_.out (by kernel_rfl)) (fun _ _ _ h => h) (Or.inr ⟨by rfl, rfl⟩) ?_ ?_
  rotate_left
  ·
   simp only [Act.put, lA, lB, lC, i64_w, i32_w]
   rfl
  refine pure_ (i := 10) (N := some 15) (v := undef) (a' := ?_) #[true, true, true, true, true, true, true, true, true, true, true, false, false, false, false] rfl rfl (any_of HT_.out (by kernel_rfl)) (fun _ _ _ h => h) (Or.inr ⟨by rfl, rfl⟩) ?_ ?_
  rotate_left
  ·
   simp only [Act.put, lA, lB, lC, i64_w, i32_w]
   rfl
  refine pure_ (i := 11) (N := some 16) (v := undef) (a' := ?_) #[true, true, true, true, true, true, true, true, true, true, true, true, false, false, false] rfl rfl (any_of HT_.out (by kernel_rfl)) (fun _ _ _ h => h) (Or.inr ⟨by rfl, rfl⟩) ?_ ?_
  rotate_left
  ·
   simp only [Act.put, lA, lB, lC, i64_w, i32_w]
   rfl
  refine pure_ (i := 12) (N := some 17) (v := undef) (a' := ?_) #[true, true, true, true, true, true, true, true, true, true, true, true, true, false, false] rfl rfl (any_of HT_.out (by kernel_rfl)) (fun _ _ _ h => h) (Or.inr ⟨by rfl, rfl⟩) ?_ ?_
  rotate_left
  ·
   simp only [Act.put, lA, lB, lC, i64_w, i32_w]
   rfl
  refine pure_ (i := 13) (N := some 18) (v := ?_) (a' := ?_) #[true, true, true, true, true, true, true, true, true, true, true, true, true, true, false] rfl rfl (any_of HT_.out (by kernel_rfl)) (fun _ _ _ h => h) (Or.inl ⟨by rfl, ?_⟩) ?_ ?_
  rotate_left
  ·
   intro w'
   go_simp
   with_reducible rfl
  rotate_left
  ·
   simp only [Act.put, lA, lB, lC, i64_w, i32_w]
   rfl
  refine pure_ (i := 14) (N := some 4) (v := ?_) (a' := ?_) #[true, true, true, true, true, true, true, true, true, true, true, true, true, true, true] rfl rfl (any_of HT_.out (by kernel_rfl)) (fun _ _ _ h => h) (Or.inl ⟨by rfl, ?_⟩) ?_ ?_
  rotate_left
  ·
   intro w'
   go_simp
   with_reducible rfl
  rotate_left
  ·
   simp only [Act.put, lA, lB, lC, i64_w, i32_w]
   rfl
  refine done_ (done_of HT_.out (by kernel_rfl)) ?_
  try go_wp2
  go_ret
  exact ⟨eS, bS HB⟩
 ·
  replace c3 := Bool.eq_false_iff.mpr c3
  subst c3
  have H1 : (if a1_0 = true then (some false) else ((congr_Join.f k false a0_1 a0_2 a1_0 a1_1 a1_2).bind fun bt225 => (some (bt225.1 == a1_0 && (bt225.2.1 == a1_1 && (bt225.2.2 == a1_2)))))) = some r := by rw [if_neg (show ¬ (false = true) by decide)] at H; exact H
  clear H
  have H := H1
  clear H1
  by_cases c7 : a1_0 = true
  ·
   subst c7
   have H1 : (some false) = some r := by rw [if_pos rfl] at H; exact H
   clear H
   have H := H1
   clear H1
   obtain rfl := Option.some.inj H
   go_enter Tryd.func21, Tryd.ntmps21
   try go_wp2_with (first | ((with_reducible refine gate_dst (N := 2) rfl ?_); refine box_event ?hg (N := 2) ?hd (cs := #[.bool false, .int .i64 a0_1, .int .i64 a0_2]) (t := 23) ?hr ?_; (case hd => rfl); (case hg => rfl); (case hr => first | (go_simp; done) | (go_simp; rfl)); intro gb223 hg w8 hbox hb; have n0_ := kW HB hb; have n1_ := Aside0.mk (hbox); have n2_ := Aside0.mk ((by rw [hg]; exact (below_size (bS HB)) : w.heap.size ≤ gb223)); have n3_ := Aside0.mk ((by rw [hg]; exact (below_size (bS HB)) : w.heap.size ≤ gb223)); clear HB; have HB := n0_; have BK223 := n1_; have GW223 := n2_; have GE223 := n3_; clear n0_ n1_ n2_ n3_; clear hb hbox hg) | ((with_reducible refine gate_dst (N := 3) rfl ?_); refine box_event ?hg (N := 3) ?hd (cs := #[.bool true, .int .i64 a1_1, .int .i64 a1_2]) (t := 23) ?hr ?_; (case hd => rfl); (case hg => rfl); (case hr => first | (go_simp; done) | (go_simp; rfl)); intro gb224 hg w9 hbox hb; have n0_ := kB BK223 hb; have n1_ := kW HB hb; have n2_ := Aside0.mk (hbox); have n3_ := Aside0.mk ((by rw [hg]; exact (below_size (bS HB)) : w.heap.size ≤ gb224)); have n4_ := Aside0.mk ((by rw [hg]; exact (below_size (bS HB)) : w.heap.size ≤ gb224)); have n5_ := Aside0.mk ((by rw [hg]; exact Nat.ne_of_lt (blk_lt (bkS BK223)) : gb223 ≠ gb224)); have n6_ := Aside0.mk ((by rw [hg]; exact Nat.ne_of_gt (blk_lt (bkS BK223)) : gb224 ≠ gb223)); clear BK223; clear HB; have BK223 := n0_; have HB := n1_; have BK224 := n2_; have GW224 := n3_; have GE224 := n4_; have NB223_224 := n5_; have NB224_223 := n6_; clear n0_ n1_ n2_ n3_ n4_ n5_ n6_; clear hb hbox hg))
   replace BK223 := Aside0.mk (blk_drew BK223.out)
   replace BK224 := Aside0.mk (blk_drew BK224.out)
   replace HB := Aside0.mk (below_drew1 HB.out)
   refine start_ (n := 15) (S := fun w' => w'.cell? ⟨gb223, 0, none⟩ = some (.bool false) ∧ w'.cell? ⟨gb223, 1, none⟩ = some (.int .i64 a0_1) ∧ w'.cell? ⟨gb223, 2, none⟩ = some (.int .i64 a0_2) ∧ w'.cell? ⟨gb224, 0, none⟩ = some (.bool true) ∧ w'.cell? ⟨gb224, 1, none⟩ = some (.int .i64 a1_1) ∧ w'.cell? ⟨gb224, 2, none⟩ = some (.int .i64 a1_2)) (ds := []) #[false, false, false, false, false, false, false, false, false, false, false, false, false, false, false] (by kernel_rfl) rfl rfl ⟨cz0 BK223, cz1 BK223, cz2 BK223, cz0 BK224, cz1 BK224, cz2 BK224⟩ (fun hHeld => ?_); refine with_tabW congr_Leq.tab1 congr_Leq.bits1 (fun HT_ HW_ => ?_)
   generalize w9.drew = w10 at BK223 BK224 HB hHeld ⊢
   refine pure_ (i := 0) (N := some 5) (v := ?_) (a' := ?_) #[true, false, false, false, false, false, false, false, false, false, false, false, false, false, false] rfl rfl (any_of HT_.out (by kernel_rfl)) (fun _ _ _ h => h) (Or.inl ⟨by rfl, ?_⟩) ?_ ?_
   rotate_left
   ·
    intro w'
    go_simp
    with_reducible rfl
   rotate_left
   ·
    simp only [Act.put, lA, lB, lC, i64_w, i32_w]
    rfl
   refine take_ (i := 1) (N := some 6) (v := ?_) (a' := ?_) #[true, true, false, false, false, false, false, false, false, false, false, false, false, false, false] rfl rfl (take_ofW HT_.out HW_.out (by kernel_rfl)) (fun _ _ _ h => h) (Or.inl ⟨by rfl, ?_⟩) hHeld ?_ ?_
   rotate_left
   ·
    rintro w' ⟨s0, s1, s2, s3, s4, s5⟩
    go_simp
    with_reducible rfl
   rotate_left
   ·
    simp only [Act.put, lA, lB, lC, i64_w, i32_w]
    rfl
   refine pure_ (i := 2) (N := some 7) (v := ?_) (a' := ?_) #[true, true, true, false, false, false, false, false, false, false, false, false, false, false, false] rfl rfl (any_of HT_.out (by kernel_rfl)) (fun _ _ _ h => h) (Or.inl ⟨by rfl, ?_⟩) ?_ ?_
   rotate_left
   ·
    intro w'
    go_simp
    with_reducible rfl
   rotate_left
   ·
    simp only [Act.put, lA, lB, lC, i64_w, i32_w]
    rfl
   refine pure_ (i := 3) (N := some 8) (v := ?_) (a' := ?_) #[true, true, true, true, false, false, false, false, false, false, false, false, false, false, false] rfl rfl (any_of HT_.out (by kernel_rfl)) (fun _ _ _ h => h) (Or.inl ⟨by rfl, ?_⟩) ?_ ?_
   rotate_left
   ·
    intro w'
    go_simp
    with_reducible rfl
   rotate_left
   ·
    simp only [Act.put, lA, lB, lC, i64_w, i32_w]
    rfl
   refine take_ (i := 4) (N := some 9) (v := ?_) (a' := ?_) #[true, true, true, true, true, false, false, false, false, false, false, false, false, false, false] rfl rfl (take_ofW HT_.out HW_.out (by kernel_rfl)) (fun _ _ _ h => h) (Or.inl ⟨by rfl, ?_⟩) hHeld ?_ ?_
   rotate_left
   ·
    rintro w' ⟨s0, s1, s2, s3, s4, s5⟩
    go_simp
    with_reducible rfl
   rotate_left
   ·
    simp only [Act.put, lA, lB, lC, i64_w, i32_w]
    rfl
   refine pure_ (i := 5) (N := some 10) (v := ?_) (a' := ?_) #[true, true, true, true, true, true, false, false, false, false, false, false, false, false, false] rfl rfl (any_of HT_.out (by kernel_rfl)) (fun _ _ _ h => h) (Or.inl ⟨by rfl, ?_⟩) ?_ ?_
   rotate_left
   ·
    intro w'
    go_simp
    with_reducible rfl
   rotate_left
   ·
    simp only [Act.put, lA, lB, lC, i64_w, i32_w]
    rfl
   refine pure_ (i := 6) (N := some 11) (v := ?_) (a' := ?_) #[true, true, true, true, true, true, true, false, false, false, false, false, false, false, false] rfl rfl (any_of HT_.out (by kernel_rfl)) (fun _ _ _ h => h) (Or.inl ⟨by rfl, ?_⟩) ?_ ?_
   rotate_left
   ·
    intro w'
    go_simp
    with_reducible rfl
   rotate_left
   ·
    simp only [Act.put, lA, lB, lC, i64_w, i32_w]
    rfl
   refine pure_ (i := 7) (N := some 12) (v := undef) (a' := ?_) #[true, true, true, true, true, true, true, true, false, false, false, false, false, false, false] rfl rfl (any_of HT_.out (by kernel_rfl)) (fun _ _ _ h => h) (Or.inr ⟨by rfl, rfl⟩) ?_ ?_
   rotate_left
   ·
    simp only [Act.put, lA, lB, lC, i64_w, i32_w]
    rfl
   refine pure_ (i := 8) (N := some 13) (v := undef) (a' := ?_) #[true, true, true, true, true, true, true, true, true, false, false, false, false, false, false] rfl rfl (any_of HT_.out (by kernel_rfl)) (fun _ _ _ h => h) (Or.inr ⟨by rfl, rfl⟩) ?_ ?_
   rotate_left
   ·
    simp only [Act.put, lA, lB, lC, i64_w, i32_w]
    rfl
   refine pure_ (i := 9) (N := some 14) (v := undef) (a' := ?_) #[true, true, true, true, true, true, true, true, true, true, false, false, false, false, false] rfl rfl (any_of HT_.out (by kernel_rfl)) (fun _ _ _ h => h) (Or.inr ⟨by rfl, rfl⟩) ?_ ?_
   rotate_left
   ·
    simp only [Act.put, lA, lB, lC, i64_w, i32_w]
    rfl
   refine pure_ (i := 10) (N := some 15) (v := undef) (a' := ?_) #[true, true, true, true, true, true, true, true, true, true, true, false, false, false, false] rfl rfl (any_of HT_.out (by kernel_rfl)) (fun _ _ _ h => h) (Or.inr ⟨by rfl, rfl⟩) ?_ ?_
   rotate_left
   ·
    simp only [Act.put, lA, lB, lC, i64_w, i32_w]
    rfl
   refine pure_ (i := 11) (N := some 16) (v := undef) (a' := ?_) #[true, true, true, true, true, true, true, true, true, true, true, true, false, false, false] rfl rfl (any_of HT_.out (by kernel_rfl)) (fun _ _ _ h => h) (Or.inr ⟨by rfl, rfl⟩) ?_ ?_
   rotate_left
   ·
    simp only [Act.put, lA, lB, lC, i64_w, i32_w]
    rfl
   refine pure_ (i := 12) (N := some 17) (v := ?_) (a' := ?_) #[true, true, true, true, true, true, true, true, true, true, true, true, true, false, false] rfl rfl (any_of HT_.out (by kernel_rfl)) (fun _ _ _ h => h) (Or.inl ⟨by rfl, ?_⟩) ?_ ?_
   rotate_left
   ·
    intro w'
    go_simp
    with_reducible rfl
   rotate_left
   ·
    simp only [Act.put, lA, lB, lC, i64_w, i32_w]
    rfl
   refine pure_ (i := 13) (N := some 18) (v := ?_) (a' := ?_) #[true, true, true, true, true, true, true, true, true, true, true, true, true, true, false] rfl rfl (any_of HT_.out (by kernel_rfl)) (fun _ _ _ h => h) (Or.inl ⟨by rfl, ?_⟩) ?_ ?_
   rotate_left
   ·
    intro w'
    go_simp
    with_reducible rfl
   rotate_left
   ·
    simp only [Act.put, lA, lB, lC, i64_w, i32_w]
    rfl
   refine pure_ (i := 14) (N := some 4) (v := ?_) (a' := ?_) #[true, true, true, true, true, true, true, true, true, true, true, true, true, true, true] rfl rfl (any_of HT_.out (by kernel_rfl)) (fun _ _ _ h => h) (Or.inl ⟨by rfl, ?_⟩) ?_ ?_
   rotate_left
   ·
    intro w'
    go_simp
    with_reducible rfl
   rotate_left
   ·
    simp only [Act.put, lA, lB, lC, i64_w, i32_w]
    rfl
   refine done_ (done_of HT_.out (by kernel_rfl)) ?_
   try go_wp2
   go_ret
   exact ⟨eS, bS HB⟩
  ·
   replace c7 := Bool.eq_false_iff.mpr c7
   subst c7
   have H1 : ((congr_Join.f k false a0_1 a0_2 false a1_1 a1_2).bind fun bt225 => (some (bt225.1 == false && (bt225.2.1 == a1_1 && (bt225.2.2 == a1_2))))) = some r := by rw [if_neg (show ¬ (false = true) by decide)] at H; exact H
   clear H
   have H := H1
   clear H1
   replace H := Option.bind_eq_some_iff.mp H
   obtain ⟨⟨t225, t226, t227⟩, A110, H⟩ := H
   replace H : (some (t225 == false && (t226 == a1_1 && (t227 == a1_2)))) = some r := H
   have A11 := Aside0.mk A110
   clear A110
   obtain rfl := Option.some.inj H
   go_enter Tryd.func21, Tryd.ntmps21
   try go_wp2_with (first | ((with_reducible refine gate_dst (N := 2) rfl ?_); refine box_event ?hg (N := 2) ?hd (cs := #[.bool false, .int .i64 a0_1, .int .i64 a0_2]) (t := 23) ?hr ?_; (case hd => rfl); (case hg => rfl); (case hr => first | (go_simp; done) | (go_simp; rfl)); intro gb223 hg w12 hbox hb; have n0_ := kW HB hb; have n1_ := Aside0.mk (hbox); have n2_ := Aside0.mk ((by rw [hg]; exact (below_size (bS HB)) : w.heap.size ≤ gb223)); have n3_ := Aside0.mk ((by rw [hg]; exact (below_size (bS HB)) : w.heap.size ≤ gb223)); clear HB; have HB := n0_; have BK223 := n1_; have GW223 := n2_; have GE223 := n3_; clear n0_ n1_ n2_ n3_; clear hb hbox hg) | ((with_reducible refine gate_dst (N := 3) rfl ?_); refine box_event ?hg (N := 3) ?hd (cs := #[.bool false, .int .i64 a1_1, .int .i64 a1_2]) (t := 23) ?hr ?_; (case hd => rfl); (case hg => rfl); (case hr => first | (go_simp; done) | (go_simp; rfl)); intro gb224 hg w13 hbox hb; have n0_ := kB BK223 hb; have n1_ := kW HB hb; have n2_ := Aside0.mk (hbox); have n3_ := Aside0.mk ((by rw [hg]; exact (below_size (bS HB)) : w.heap.size ≤ gb224)); have n4_ := Aside0.mk ((by rw [hg]; exact (below_size (bS HB)) : w.heap.size ≤ gb224)); have n5_ := Aside0.mk ((by rw [hg]; exact Nat.ne_of_lt (blk_lt (bkS BK223)) : gb223 ≠ gb224)); have n6_ := Aside0.mk ((by rw [hg]; exact Nat.ne_of_gt (blk_lt (bkS BK223)) : gb224 ≠ gb223)); clear BK223; clear HB; have BK223 := n0_; have HB := n1_; have BK224 := n2_; have GW224 := n3_; have GE224 := n4_; have NB223_224 := n5_; have NB224_223 := n6_; clear n0_ n1_ n2_ n3_ n4_ n5_ n6_; clear hb hbox hg))
   replace BK223 := Aside0.mk (blk_drew BK223.out)
   replace BK224 := Aside0.mk (blk_drew BK224.out)
   replace HB := Aside0.mk (below_drew1 HB.out)
   refine start_ (n := 15) (S := fun w' => w'.cell? ⟨gb223, 0, none⟩ = some (.bool false) ∧ w'.cell? ⟨gb223, 1, none⟩ = some (.int .i64 a0_1) ∧ w'.cell? ⟨gb223, 2, none⟩ = some (.int .i64 a0_2) ∧ w'.cell? ⟨gb224, 0, none⟩ = some (.bool false) ∧ w'.cell? ⟨gb224, 1, none⟩ = some (.int .i64 a1_1) ∧ w'.cell? ⟨gb224, 2, none⟩ = some (.int .i64 a1_2)) (ds := []) #[false, false, false, false, false, false, false, false, false, false, false, false, false, false, false] (by kernel_rfl) rfl rfl ⟨cz0 BK223, cz1 BK223, cz2 BK223, cz0 BK224, cz1 BK224, cz2 BK224⟩ (fun hHeld => ?_); refine with_tabW congr_Leq.tab1 congr_Leq.bits1 (fun HT_ HW_ => ?_)
   generalize w13.drew = w14 at BK223 BK224 HB hHeld ⊢
   refine pure_ (i := 0) (N := some 5) (v := ?_) (a' := ?_) #[true, false, false, false, false, false, false, false, false, false, false, false, false, false, false] rfl rfl (any_of HT_.out (by kernel_rfl)) (fun _ _ _ h => h) (Or.inl ⟨by rfl, ?_⟩) ?_ ?_
   rotate_left
   ·
    intro w'
    go_simp
    with_reducible rfl
   rotate_left
   ·
    simp only [Act.put, lA, lB, lC, i64_w, i32_w]
    rfl
   refine take_ (i := 1) (N := some 6) (v := ?_) (a' := ?_) #[true, true, false, false, false, false, false, false, false, false, false, false, false, false, false] rfl rfl (take_ofW HT_.out HW_.out (by kernel_rfl)) (fun _ _ _ h => h) (Or.inl ⟨by rfl, ?_⟩) hHeld ?_ ?_
   rotate_left
   ·
    rintro w' ⟨s0, s1, s2, s3, s4, s5⟩
    go_simp
    with_reducible rfl
   rotate_left
   ·
    simp only [Act.put, lA, lB, lC, i64_w, i32_w]
    rfl
   refine pure_ (i := 2) (N := some 7) (v := ?_) (a' := ?_) #[true, true, true, false, false, false, false, false, false, false, false, false, false, false, false] rfl rfl (any_of HT_.out (by kernel_rfl)) (fun _ _ _ h => h) (Or.inl ⟨by rfl, ?_⟩) ?_ ?_
   rotate_left
   ·
    intro w'
    go_simp
    with_reducible rfl
   rotate_left
   ·
    simp only [Act.put, lA, lB, lC, i64_w, i32_w]
    rfl
   refine pure_ (i := 3) (N := some 8) (v := ?_) (a' := ?_) #[true, true, true, true, false, false, false, false, false, false, false, false, false, false, false] rfl rfl (any_of HT_.out (by kernel_rfl)) (fun _ _ _ h => h) (Or.inl ⟨by rfl, ?_⟩) ?_ ?_
   rotate_left
   ·
    intro w'
    go_simp
    with_reducible rfl
   rotate_left
   ·
    simp only [Act.put, lA, lB, lC, i64_w, i32_w]
    rfl
   refine take_ (i := 4) (N := some 9) (v := ?_) (a' := ?_) #[true, true, true, true, true, false, false, false, false, false, false, false, false, false, false] rfl rfl (take_ofW HT_.out HW_.out (by kernel_rfl)) (fun _ _ _ h => h) (Or.inl ⟨by rfl, ?_⟩) hHeld ?_ ?_
   rotate_left
   ·
    rintro w' ⟨s0, s1, s2, s3, s4, s5⟩
    go_simp
    with_reducible rfl
   rotate_left
   ·
    simp only [Act.put, lA, lB, lC, i64_w, i32_w]
    rfl
   refine pure_ (i := 5) (N := some 10) (v := ?_) (a' := ?_) #[true, true, true, true, true, true, false, false, false, false, false, false, false, false, false] rfl rfl (any_of HT_.out (by kernel_rfl)) (fun _ _ _ h => h) (Or.inl ⟨by rfl, ?_⟩) ?_ ?_
   rotate_left
   ·
    intro w'
    go_simp
    with_reducible rfl
   rotate_left
   ·
    simp only [Act.put, lA, lB, lC, i64_w, i32_w]
    rfl
   refine pure_ (i := 6) (N := some 11) (v := ?_) (a' := ?_) #[true, true, true, true, true, true, true, false, false, false, false, false, false, false, false] rfl rfl (any_of HT_.out (by kernel_rfl)) (fun _ _ _ h => h) (Or.inl ⟨by rfl, ?_⟩) ?_ ?_
   rotate_left
   ·
    intro w'
    go_simp
    with_reducible rfl
   rotate_left
   ·
    simp only [Act.put, lA, lB, lC, i64_w, i32_w]
    rfl
   refine take_ (i := 7) (N := some 12) (v := ?_) (a' := ?_) #[true, true, true, true, true, true, true, true, false, false, false, false, false, false, false] rfl rfl (take_ofW HT_.out HW_.out (by kernel_rfl)) (fun _ _ _ h => h) (Or.inl ⟨by rfl, ?_⟩) hHeld ?_ ?_
   rotate_left
   ·
    rintro w' ⟨s0, s1, s2, s3, s4, s5⟩
    go_simp
    with_reducible rfl
   rotate_left
   ·
    simp only [Act.put, lA, lB, lC, i64_w, i32_w]
    rfl
   refine take_ (i := 8) (N := some 13) (v := ?_) (a' := ?_) #[true, true, true, true, true, true, true, true, true, false, false, false, false, false, false] rfl rfl (take_ofW HT_.out HW_.out (by kernel_rfl)) (fun _ _ _ h => h) (Or.inl ⟨by rfl, ?_⟩) hHeld ?_ ?_
   rotate_left
   ·
    rintro w' ⟨s0, s1, s2, s3, s4, s5⟩
    go_simp
    with_reducible rfl
   rotate_left
   ·
    simp only [Act.put, lA, lB, lC, i64_w, i32_w]
    rfl
   refine take_ (i := 10) (N := some 15) (v := ?_) (a' := ?_) #[true, true, true, true, true, true, true, true, true, false, true, false, false, false, false] rfl rfl (take_ofW HT_.out HW_.out (by kernel_rfl)) (fun _ _ _ h => h) (Or.inl ⟨by rfl, ?_⟩) hHeld ?_ ?_
   rotate_left
   ·
    rintro w' ⟨s0, s1, s2, s3, s4, s5⟩
    go_simp
    with_reducible rfl
   rotate_left
   ·
    simp only [Act.put, lA, lB, lC, i64_w, i32_w]
    rfl
   refine one_ (i := 9) (N := some 14) #[true, true, true, true, true, true, true, true, true, true, true, false, false, false, false] rfl rfl (one_of HT_.out (by kernel_rfl)) (by decide) (fun K hK => ?_)
   refine goes_ Tryd.func19 (by kernel_rfl) rfl #[.agg #[.bool false, .int .i64 a0_1, .int .i64 a0_2], .agg #[.bool false, .int .i64 a1_1, .int .i64 a1_2]] (by rfl) rfl rfl mS ?_
   with_reducible refine (congr_Join.calls k false a0_1 a0_2 false a1_1 a1_2 t225 t226 t227 _ A11.out).mono ?_
   rintro e w15 ⟨rfl, hb⟩
   refine ⟨_, rfl, ?_⟩
   replace BK223 := kB BK223 hb
   replace BK224 := kB BK224 hb
   replace HB := kW HB hb
   (try clear hb)
   (try clear hb2)
   (try clear hk)
   (try clear hi)
   refine hK.out _ _ ⟨cz0 BK223, cz1 BK223, cz2 BK223, cz0 BK224, cz1 BK224, cz2 BK224⟩ (fun hHeld => ?_)
   clear hK K
   refine norm_ (a' := ?_) ?_ ?_
   rotate_left
   ·
    show Act.put _ (some 14) _ = _
    simp only [Act.put, lA, lB, lC, i64_w, i32_w]
    rfl
   refine pure_ (i := 11) (N := some 16) (v := ?_) (a' := ?_) #[true, true, true, true, true, true, true, true, true, true, true, true, false, false, false] rfl rfl (any_of HT_.out (by kernel_rfl)) (fun _ _ _ h => h) (Or.inl ⟨by rfl, ?_⟩) ?_ ?_
   rotate_left
   ·
    intro w'
    go_simp
    with_reducible rfl
   rotate_left
   ·
    simp only [Act.put, lA, lB, lC, i64_w, i32_w]
    rfl
   refine pure_ (i := 12) (N := some 17) (v := ?_) (a' := ?_) #[true, true, true, true, true, true, true, true, true, true, true, true, true, false, false] rfl rfl (any_of HT_.out (by kernel_rfl)) (fun _ _ _ h => h) (Or.inl ⟨by rfl, ?_⟩) ?_ ?_
   rotate_left
   ·
    intro w'
    go_simp
    with_reducible rfl
   rotate_left
   ·
    simp only [Act.put, lA, lB, lC, i64_w, i32_w]
    rfl
   refine pure_ (i := 13) (N := some 18) (v := ?_) (a' := ?_) #[true, true, true, true, true, true, true, true, true, true, true, true, true, true, false] rfl rfl (any_of HT_.out (by kernel_rfl)) (fun _ _ _ h => h) (Or.inl ⟨by rfl, ?_⟩) ?_ ?_
   rotate_left
   ·
    intro w'
    go_simp
    with_reducible rfl
   rotate_left
   ·
    simp only [Act.put, lA, lB, lC, i64_w, i32_w]
    rfl
   refine pure_ (i := 14) (N := some 4) (v := ?_) (a' := ?_) #[true, true, true, true, true, true, true, true, true, true, true, true, true, true, true] rfl rfl (any_of HT_.out (by kernel_rfl)) (fun _ _ _ h => h) (Or.inl ⟨by rfl, ?_⟩) ?_ ?_
   rotate_left
   ·
    intro w'
    go_simp
    with_reducible rfl
   rotate_left
   ·
    simp only [Act.put, lA, lB, lC, i64_w, i32_w]
    rfl
   refine done_ (done_of HT_.out (by kernel_rfl)) ?_
   try go_wp2
   go_ret
   exact ⟨eS, bS HB⟩

end Go.Proofs.YtfmmjekhknaniaaDoor.Pr

namespace Go.Proofs.YtfmmjekhknaniaaDoor.Pr
open Go.RowKit Go.Proofs.YtfmmjekhknaniaaDoor.Given Go.Proofs.YtfmmjekhknaniaaDoorW.PrintWords Go.Proofs.YtfmmjekhknaniaaDoorW.PrintLast Go.Proofs.YtfmmjekhknaniaaDoorW.PrintMore
attribute [local go_sem] max2_int min2_int max_two min_two max_three min_three max_four min_four   -- for this text's walks alone
set_option linter.unusedVariables false
set_option linter.unusedSimpArgs false

def gimbalref31_of.f (k : Nat) (a0 : Int) (a1 : Int) : Option (Bool × Int × Int) := (gimbalref31_size.f a1).bind fun t412 => ((gimbalref31_class.f k a0 t412 (decide (a1 < 0))).bind fun bt413 => (some (bt413.1, bt413.2.1, bt413.2.2)))
set_option maxHeartbeats 8000000 in
set_option maxRecDepth 100000 in
theorem gimbalref31_of.calls (k : Nat) (a0 : Int) (a1 : Int) (r1 : Bool) (r2 : Int) (r3 : Int) (w : World) (h : gimbalref31_of.f k a0 a1 = some (r1, r2, r3)) :
  Calls Tryd.prog 79 #[.int .u64 a0, .int .i64 a1] w fun e w' => e = .returned (.agg #[.bool r1, .int .i64 r2, .int .i64 r3]) ∧ Below w.heap.size w w' := by
 have hu23 := Tryd.underlying23
 have HB := Aside0.mk (Below.refl w.heap.size w)
 have H : ((gimbalref31_size.f a1).bind fun t412 => ((gimbalref31_class.f k a0 t412 (decide (a1 < 0))).bind fun bt413 => (some (bt413.1, bt413.2.1, bt413.2.2)))) = some (r1, r2, r3) := h
 clear h
 replace H := Option.bind_eq_some_iff.mp H
 obtain ⟨t412, A30, H⟩ := H
 replace H : ((gimbalref31_class.f k a0 t412 (decide (a1 < 0))).bind fun bt413 => (some (bt413.1, bt413.2.1, bt413.2.2))) = some (r1, r2, r3) := H
 have A3 := Aside0.mk A30
 clear A30
 replace H := Option.bind_eq_some_iff.mp H
 obtain ⟨⟨t413, t414, t415⟩, A40, H⟩ := H
 replace H : (some (t413, t414, t415)) = some (r1, r2, r3) := H
 have A4 := Aside0.mk A40
 clear A40
 simp only [Option.some.injEq, Prod.mk.injEq] at H
 obtain ⟨rfl, rfl, rfl⟩ := H
 go_enter Tryd.func79, Tryd.ntmps79
 go_wp2_with (first | ((with_reducible refine gate_dst (N := 4) rfl ?_); refine box_event ?hg (N := 4) ?hd (cs := #[.bool false, .int .i64 0, .int .i64 0]) (t := 23) ?hr ?_; (case hd => rfl); (case hg => rfl); (case hr => first | (go_simp; done) | (go_simp; rfl)); intro gb411 hg w5 hbox hb; have n0_ := kW HB hb; have n1_ := Aside0.mk (hbox); have n2_ := Aside0.mk ((by rw [hg]; exact (below_size (bS HB)) : w.heap.size ≤ gb411)); have n3_ := Aside0.mk ((by rw [hg]; exact (below_size (bS HB)) : w.heap.size ≤ gb411)); clear HB; have HB := n0_; have BK411 := n1_; have GW411 := n2_; have GE411 := n3_; clear n0_ n1_ n2_ n3_; clear hb hbox hg) | ((with_reducible refine gate_callee (f := 55) rfl ?_); refine goesL_ (some 7) rfl rfl Tryd.func55 (by kernel_rfl) rfl #[.int .i64 a1] rfl mS ?_; (with_reducible refine (gimbalref31_size.calls a1 t412 _ A3.out).mono ?_); rintro e w' ⟨rfl, ⟨nd, rfl⟩⟩; refine ⟨_, rfl, ?_⟩; (try (rw [drewN_self w5]; generalize hq_ : World.drewN w5 _ = w5; have n0_ : Aside0 (w5.heap[gb411]? = some (.cells #[.bool false, .int .i64 0, .int .i64 0] 23 (0, 0))) := ⟨by rw [← hq_]; exact (bkS BK411)⟩; have n1_ : Aside0 (Below w.heap.size w w5) := ⟨by rw [← hq_]; exact (bS HB)⟩; clear BK411 HB hq_; have BK411 := n0_; have HB := n1_; clear n0_ n1_))) | ((with_reducible refine gate_callee (f := 54) rfl ?_); refine goesL_ (some 10) rfl rfl Tryd.func54 (by kernel_rfl) rfl #[.int .u64 a0, .int .u64 t412, .bool (decide (a1 < 0))] rfl mS ?_; (with_reducible refine (gimbalref31_class.calls k a0 t412 (decide (a1 < 0)) t413 t414 t415 _ A4.out).mono ?_); rintro e w6 ⟨rfl, hb⟩; refine ⟨_, rfl, ?_⟩; replace BK411 := kB BK411 hb; replace HB := kW HB hb; (try clear hb); (try clear hb2); (try clear hk); (try clear hi); have hcz7_0 := cz0 BK411; have hcz7_1 := cz1 BK411; have hcz7_2 := cz2 BK411; have hfz7_0 := fz BK411 0; have hfz7_1 := fz BK411 1; have hfz7_2 := fz BK411 2))
 refine bodyPost_ret (results_cell_row rfl _ _ gb411 23 #[.bool t413, .int .i64 t414, .int .i64 t415] (0, 0) _ rfl (by (with_reducible repeat (first | refine b1 ?_ _ | refine b2 ?_ | refine b3 ?_ _)); refine blk_put (cs := #[.bool t413, .int .i64 t414, .int .i64 0]) ?_ 2 _ rfl; (with_reducible repeat (first | refine b1 ?_ _ | refine b2 ?_ | refine b3 ?_ _)); refine blk_put (cs := #[.bool t413, .int .i64 0, .int .i64 0]) ?_ 1 _ rfl; (with_reducible repeat (first | refine b1 ?_ _ | refine b2 ?_ | refine b3 ?_ _)); refine blk_put (cs := #[.bool false, .int .i64 0, .int .i64 0]) ?_ 0 _ rfl; (with_reducible repeat (first | refine b1 ?_ _ | refine b2 ?_ | refine b3 ?_ _)); exact BK411.out) Tryd.underlying23 rfl (by kernel_rfl)) rfl ?_
 exact ⟨eS, bS HB⟩

end Go.Proofs.YtfmmjekhknaniaaDoor.Pr

