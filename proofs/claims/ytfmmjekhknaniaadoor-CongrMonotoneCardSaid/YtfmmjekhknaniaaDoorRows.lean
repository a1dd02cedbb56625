/-
  NARROWER THAN 'FOR EVERY INPUT', by the rows' own cells (each row's printed sentence says how): CongrMakes: laid · CongrShort: laid · CongrLattice: laid · CongrTests: laid · CongrReckons: laid · CongrSound: laid · CongrMonotone: laid.
  DERIVED. THE GIVEN ROWS OF THIS SEAT. 7 by the template 'for every input the law returns true; each argument reads behind the call as it read before'; 0 by the template 'total and deterministic' (their statements: YtfmmjekhknaniaaDoorTotals.lean).
  GIVEN WITH THE SEED: the statements are not yours to turn. If you find one false, say at which input.
  Laid BY PROGRAM, IN A SANDBOX (cutbox-rows.mjs): the forced cells as the released guide's own fill.sh prints them over the translation c8d28e4ab5bf7c6b… (all of the seat's roots in one cut). By AI agents, Wed Nov 11 2026. No macro, syntax, notation, axiom, sorry.
-/
import Derived.Test.YtfmmjekhknaniaaDoorChecked
import GoSem.Claim
import GoSem.ClaimJoined
import GoSem.ClaimMapViews
import Derived.JoinedTies
import Derived.KernelRfl
namespace Go.Proofs.YtfmmjekhknaniaaDoor
/- THE CELL 'sum', in the pinned program and in every row, IS THE sha256 OF THE DUMP (.gsa) THAT YtfmmjekhknaniaaDoorProg.lean LOADS. Nothing in Lean hashes anything: it is a label: what it is worth is what the hold of that sum in a sandbox is worth. -/
noncomputable def Tryd.pinned : Pinned := { name := "ytfmmjekhknaniaadoor", sum := "c8d28e4ab5bf7c6be46488da75ac5bbb51db5182c0348235467e20edb765bbd1", checked := Tryd.checked }
namespace Rows
def none {H : Type} : Left H := { results := [], args := [] }

/- WHAT THE LISTED PACKAGE-LEVEL VARIABLES READ AS WHEN THE CALL BEGINS. Each datum BY PROGRAM (the guide's laid-datum.mjs) off the statement by which the dump's own 'gosem.cut.vars' lays the variable. In a bare row this is a premise. The card (YtfmmjekhknaniaaDoorCards.lean) ties it to the program's text. -/
def laid_math_bits_deBruijn32tab {H : Type} : DataW H := .agg [.lit (.int .u8 0), .lit (.int .u8 1), .lit (.int .u8 28), .lit (.int .u8 2), .lit (.int .u8 29), .lit (.int .u8 14), .lit (.int .u8 24), .lit (.int .u8 3), .lit (.int .u8 30), .lit (.int .u8 22), .lit (.int .u8 20), .lit (.int .u8 15), .lit (.int .u8 25), .lit (.int .u8 17), .lit (.int .u8 4), .lit (.int .u8 8), .lit (.int .u8 31), .lit (.int .u8 27), .lit (.int .u8 13), .lit (.int .u8 23), .lit (.int .u8 21), .lit (.int .u8 19), .lit (.int .u8 16), .lit (.int .u8 7), .lit (.int .u8 26), .lit (.int .u8 12), .lit (.int .u8 18), .lit (.int .u8 6), .lit (.int .u8 11), .lit (.int .u8 5), .lit (.int .u8 10), .lit (.int .u8 9)]
def laid_math_bits_deBruijn64tab {H : Type} : DataW H := .agg [.lit (.int .u8 0), .lit (.int .u8 1), .lit (.int .u8 56), .lit (.int .u8 2), .lit (.int .u8 57), .lit (.int .u8 49), .lit (.int .u8 28), .lit (.int .u8 3), .lit (.int .u8 61), .lit (.int .u8 58), .lit (.int .u8 42), .lit (.int .u8 50), .lit (.int .u8 38), .lit (.int .u8 29), .lit (.int .u8 17), .lit (.int .u8 4), .lit (.int .u8 62), .lit (.int .u8 47), .lit (.int .u8 59), .lit (.int .u8 36), .lit (.int .u8 45), .lit (.int .u8 43), .lit (.int .u8 51), .lit (.int .u8 22), .lit (.int .u8 53), .lit (.int .u8 39), .lit (.int .u8 33), .lit (.int .u8 30), .lit (.int .u8 24), .lit (.int .u8 18), .lit (.int .u8 12), .lit (.int .u8 5), .lit (.int .u8 63), .lit (.int .u8 55), .lit (.int .u8 48), .lit (.int .u8 27), .lit (.int .u8 60), .lit (.int .u8 41), .lit (.int .u8 37), .lit (.int .u8 16), .lit (.int .u8 46), .lit (.int .u8 35), .lit (.int .u8 44), .lit (.int .u8 21), .lit (.int .u8 52), .lit (.int .u8 32), .lit (.int .u8 23), .lit (.int .u8 11), .lit (.int .u8 54), .lit (.int .u8 26), .lit (.int .u8 40), .lit (.int .u8 15), .lit (.int .u8 34), .lit (.int .u8 20), .lit (.int .u8 31), .lit (.int .u8 10), .lit (.int .u8 25), .lit (.int .u8 14), .lit (.int .u8 19), .lit (.int .u8 9), .lit (.int .u8 13), .lit (.int .u8 8), .lit (.int .u8 7), .lit (.int .u8 6)]
def laid_internal_strconv_uint64pow10 {H : Type} : DataW H := .agg [.lit (.int .u64 1), .lit (.int .u64 10), .lit (.int .u64 100), .lit (.int .u64 1000), .lit (.int .u64 10000), .lit (.int .u64 100000), .lit (.int .u64 1000000), .lit (.int .u64 10000000), .lit (.int .u64 100000000), .lit (.int .u64 1000000000), .lit (.int .u64 10000000000), .lit (.int .u64 100000000000), .lit (.int .u64 1000000000000), .lit (.int .u64 10000000000000), .lit (.int .u64 100000000000000), .lit (.int .u64 1000000000000000), .lit (.int .u64 10000000000000000), .lit (.int .u64 100000000000000000), .lit (.int .u64 1000000000000000000), .lit (.int .u64 10000000000000000000)]
def laid_gimbal_bound_ends {H : Type} : DataW H := .agg [.lit (.string [105, 110, 102]), .lit (.string [45, 105, 110, 102])]

/-- 'gimballaw31.CongrMakes': WHATEVER THE INPUT: true; the input reads as it did. -/
def congrMakesSpec : ChangeSpec := { name := "congrMakes", fn := fun _ => fun
  | [d1, d2, d3, d4] => { results := [.lit (.bool true)], args := [d1, d2, d3, d4] }
  | _ => none }
def congrMakesRow : OpenClaim := { program := "ytfmmjekhknaniaadoor", sum := "c8d28e4ab5bf7c6be46488da75ac5bbb51db5182c0348235467e20edb765bbd1", func := "gimbal/gimballaw31.CongrMakes", spec := "congrMakes", named := ["gimbal/bound.ends", "internal/strconv.uint64pow10", "math/bits.deBruijn32tab", "math/bits.deBruijn64tab"], apart := false, laid := [("math/bits.deBruijn32tab", laid_math_bits_deBruijn32tab), ("math/bits.deBruijn64tab", laid_math_bits_deBruijn64tab), ("internal/strconv.uint64pow10", laid_internal_strconv_uint64pow10), ("gimbal/bound.ends", laid_gimbal_bound_ends)] }
def CongrMakesSaid : Prop := congrMakesRow.holds Tryd.pinned (OpenSpec.ofChange congrMakesSpec)

/-- ITS FALSE NEIGHBOUR: 'it returns false'. Refute it at one input. -/
def congrMakesWrong : ChangeSpec := { name := "congrMakes", fn := fun _ => fun
  | [d1, d2, d3, d4] => { results := [.lit (.bool false)], args := [d1, d2, d3, d4] }
  | _ => none }
def CongrMakesWrongFalsely : Prop := congrMakesRow.holds Tryd.pinned (OpenSpec.ofChange congrMakesWrong)

/-- 'gimballaw31.CongrShort': WHATEVER THE INPUT: true; the input reads as it did. -/
def congrShortSpec : ChangeSpec := { name := "congrShort", fn := fun _ => fun
  | [d] => { results := [.lit (.bool true)], args := [d] }
  | _ => none }
def congrShortRow : OpenClaim := { program := "ytfmmjekhknaniaadoor", sum := "c8d28e4ab5bf7c6be46488da75ac5bbb51db5182c0348235467e20edb765bbd1", func := "gimbal/gimballaw31.CongrShort", spec := "congrShort", named := ["gimbal/bound.ends", "internal/strconv.uint64pow10", "math/bits.deBruijn32tab", "math/bits.deBruijn64tab"], apart := false, laid := [("math/bits.deBruijn32tab", laid_math_bits_deBruijn32tab), ("math/bits.deBruijn64tab", laid_math_bits_deBruijn64tab), ("internal/strconv.uint64pow10", laid_internal_strconv_uint64pow10), ("gimbal/bound.ends", laid_gimbal_bound_ends)] }
def CongrShortSaid : Prop := congrShortRow.holds Tryd.pinned (OpenSpec.ofChange congrShortSpec)

/-- ITS FALSE NEIGHBOUR: 'it returns false'. Refute it at one input. -/
def congrShortWrong : ChangeSpec := { name := "congrShort", fn := fun _ => fun
  | [d] => { results := [.lit (.bool false)], args := [d] }
  | _ => none }
def CongrShortWrongFalsely : Prop := congrShortRow.holds Tryd.pinned (OpenSpec.ofChange congrShortWrong)

/-- 'gimballaw31.CongrLattice': WHATEVER THE INPUT: true; the input reads as it did. -/
def congrLatticeSpec : ChangeSpec := { name := "congrLattice", fn := fun _ => fun
  | [d1, d2, d3, d4] => { results := [.lit (.bool true)], args := [d1, d2, d3, d4] }
  | _ => none }
def congrLatticeRow : OpenClaim := { program := "ytfmmjekhknaniaadoor", sum := "c8d28e4ab5bf7c6be46488da75ac5bbb51db5182c0348235467e20edb765bbd1", func := "gimbal/gimballaw31.CongrLattice", spec := "congrLattice", named := ["gimbal/bound.ends", "internal/strconv.uint64pow10", "math/bits.deBruijn32tab", "math/bits.deBruijn64tab", "math/bits.divideError", "math/bits.overflowError"], apart := false, laid := [("math/bits.deBruijn32tab", laid_math_bits_deBruijn32tab), ("math/bits.deBruijn64tab", laid_math_bits_deBruijn64tab), ("internal/strconv.uint64pow10", laid_internal_strconv_uint64pow10), ("gimbal/bound.ends", laid_gimbal_bound_ends)] }
def CongrLatticeSaid : Prop := congrLatticeRow.holds Tryd.pinned (OpenSpec.ofChange congrLatticeSpec)

/-- ITS FALSE NEIGHBOUR: 'it returns false'. Refute it at one input. -/
def congrLatticeWrong : ChangeSpec := { name := "congrLattice", fn := fun _ => fun
  | [d1, d2, d3, d4] => { results := [.lit (.bool false)], args := [d1, d2, d3, d4] }
  | _ => none }
def CongrLatticeWrongFalsely : Prop := congrLatticeRow.holds Tryd.pinned (OpenSpec.ofChange congrLatticeWrong)

/-- 'gimballaw31.CongrTests': WHATEVER THE INPUT: true; the input reads as it did. -/
def congrTestsSpec : ChangeSpec := { name := "congrTests", fn := fun _ => fun
  | [d1, d2, d3, d4] => { results := [.lit (.bool true)], args := [d1, d2, d3, d4] }
  | _ => none }
def congrTestsRow : OpenClaim := { program := "ytfmmjekhknaniaadoor", sum := "c8d28e4ab5bf7c6be46488da75ac5bbb51db5182c0348235467e20edb765bbd1", func := "gimbal/gimballaw31.CongrTests", spec := "congrTests", named := ["gimbal/bound.ends", "internal/strconv.uint64pow10", "math/bits.deBruijn32tab", "math/bits.deBruijn64tab", "math/bits.divideError", "math/bits.overflowError"], apart := false, laid := [("math/bits.deBruijn32tab", laid_math_bits_deBruijn32tab), ("math/bits.deBruijn64tab", laid_math_bits_deBruijn64tab), ("internal/strconv.uint64pow10", laid_internal_strconv_uint64pow10), ("gimbal/bound.ends", laid_gimbal_bound_ends)] }
def CongrTestsSaid : Prop := congrTestsRow.holds Tryd.pinned (OpenSpec.ofChange congrTestsSpec)

/-- ITS FALSE NEIGHBOUR: 'it returns false'. Refute it at one input. -/
def congrTestsWrong : ChangeSpec := { name := "congrTests", fn := fun _ => fun
  | [d1, d2, d3, d4] => { results := [.lit (.bool false)], args := [d1, d2, d3, d4] }
  | _ => none }
def CongrTestsWrongFalsely : Prop := congrTestsRow.holds Tryd.pinned (OpenSpec.ofChange congrTestsWrong)

/-- 'gimballaw31.CongrReckons': WHATEVER THE INPUT: true; the input reads as it did. -/
def congrReckonsSpec : ChangeSpec := { name := "congrReckons", fn := fun _ => fun
  | [d1, d2] => { results := [.lit (.bool true)], args := [d1, d2] }
  | _ => none }
def congrReckonsRow : OpenClaim := { program := "ytfmmjekhknaniaadoor", sum := "c8d28e4ab5bf7c6be46488da75ac5bbb51db5182c0348235467e20edb765bbd1", func := "gimbal/gimballaw31.CongrReckons", spec := "congrReckons", named := ["gimbal/bound.ends", "internal/strconv.uint64pow10", "math/bits.deBruijn32tab", "math/bits.deBruijn64tab", "math/bits.divideError", "math/bits.overflowError"], apart := false, laid := [("math/bits.deBruijn32tab", laid_math_bits_deBruijn32tab), ("math/bits.deBruijn64tab", laid_math_bits_deBruijn64tab), ("internal/strconv.uint64pow10", laid_internal_strconv_uint64pow10), ("gimbal/bound.ends", laid_gimbal_bound_ends)] }
def CongrReckonsSaid : Prop := congrReckonsRow.holds Tryd.pinned (OpenSpec.ofChange congrReckonsSpec)

/-- ITS FALSE NEIGHBOUR: 'it returns false'. Refute it at one input. -/
def congrReckonsWrong : ChangeSpec := { name := "congrReckons", fn := fun _ => fun
  | [d1, d2] => { results := [.lit (.bool false)], args := [d1, d2] }
  | _ => none }
def CongrReckonsWrongFalsely : Prop := congrReckonsRow.holds Tryd.pinned (OpenSpec.ofChange congrReckonsWrong)

/-- 'gimballaw31.CongrSound': WHATEVER THE INPUT: true; the input reads as it did. -/
def congrSoundSpec : ChangeSpec := { name := "congrSound", fn := fun _ => fun
  | [d1, d2, d3, d4, d5, d6] => { results := [.lit (.bool true)], args := [d1, d2, d3, d4, d5, d6] }
  | _ => none }
def congrSoundRow : OpenClaim := { program := "ytfmmjekhknaniaadoor", sum := "c8d28e4ab5bf7c6be46488da75ac5bbb51db5182c0348235467e20edb765bbd1", func := "gimbal/gimballaw31.CongrSound", spec := "congrSound", named := ["gimbal/bound.ends", "internal/strconv.uint64pow10", "math/bits.deBruijn32tab", "math/bits.deBruijn64tab", "math/bits.divideError", "math/bits.overflowError"], apart := false, laid := [("math/bits.deBruijn32tab", laid_math_bits_deBruijn32tab), ("math/bits.deBruijn64tab", laid_math_bits_deBruijn64tab), ("internal/strconv.uint64pow10", laid_internal_strconv_uint64pow10), ("gimbal/bound.ends", laid_gimbal_bound_ends)] }
def CongrSoundSaid : Prop := congrSoundRow.holds Tryd.pinned (OpenSpec.ofChange congrSoundSpec)

/-- ITS FALSE NEIGHBOUR: 'it returns false'. Refute it at one input. -/
def congrSoundWrong : ChangeSpec := { name := "congrSound", fn := fun _ => fun
  | [d1, d2, d3, d4, d5, d6] => { results := [.lit (.bool false)], args := [d1, d2, d3, d4, d5, d6] }
  | _ => none }
def CongrSoundWrongFalsely : Prop := congrSoundRow.holds Tryd.pinned (OpenSpec.ofChange congrSoundWrong)

/-- 'gimballaw31.CongrMonotone': WHATEVER THE INPUT: true; the input reads as it did. -/
def congrMonotoneSpec : ChangeSpec := { name := "congrMonotone", fn := fun _ => fun
  | [d1, d2, d3, d4, d5, d6, d7] => { results := [.lit (.bool true)], args := [d1, d2, d3, d4, d5, d6, d7] }
  | _ => none }
def congrMonotoneRow : OpenClaim := { program := "ytfmmjekhknaniaadoor", sum := "c8d28e4ab5bf7c6be46488da75ac5bbb51db5182c0348235467e20edb765bbd1", func := "gimbal/gimballaw31.CongrMonotone", spec := "congrMonotone", named := ["gimbal/bound.ends", "internal/strconv.uint64pow10", "math/bits.deBruijn32tab", "math/bits.deBruijn64tab", "math/bits.divideError", "math/bits.overflowError"], apart := false, laid := [("math/bits.deBruijn32tab", laid_math_bits_deBruijn32tab), ("math/bits.deBruijn64tab", laid_math_bits_deBruijn64tab), ("internal/strconv.uint64pow10", laid_internal_strconv_uint64pow10), ("gimbal/bound.ends", laid_gimbal_bound_ends)] }
def CongrMonotoneSaid : Prop := congrMonotoneRow.holds Tryd.pinned (OpenSpec.ofChange congrMonotoneSpec)

/-- ITS FALSE NEIGHBOUR: 'it returns false'. Refute it at one input. -/
def congrMonotoneWrong : ChangeSpec := { name := "congrMonotone", fn := fun _ => fun
  | [d1, d2, d3, d4, d5, d6, d7] => { results := [.lit (.bool false)], args := [d1, d2, d3, d4, d5, d6, d7] }
  | _ => none }
def CongrMonotoneWrongFalsely : Prop := congrMonotoneRow.holds Tryd.pinned (OpenSpec.ofChange congrMonotoneWrong)

/- THE SECOND FORM. 'bulk': how many values and letters a reading holds, each counted each time it is reached (what is shared counts as often as it is met; a slice's spare places count too). A statement '..UptoSaid' is the law's where the arguments, and the package variables that the reading takes, are together of bulk at most 1048576: NARROWER than '..Said'. Prove '..Said' where nothing that the law and all that it calls make is longer than what came in: it says more and counts as full. Else prove '..UptoSaid'. A law counts once. -/
mutual
def uptoBulk {H : Type} : DataW H → Nat
  | .lit (.string bytes) => bytes.length + 1
  | .lit _ => 1
  | .nil => 1
  | .ptr d => uptoBulk d + 1
  | .slice elems spare => uptoBulkAll elems + uptoBulkAll spare + 1
  | .agg parts => uptoBulkAll parts + 1
  | .iface _ d => uptoBulk d + 1
  | .map entries => uptoBulkEntries entries + 1
  | .held _ => 1
def uptoBulkAll {H : Type} : List (DataW H) → Nat
  | [] => 0
  | d :: r => uptoBulk d + uptoBulkAll r
def uptoBulkEntries {H : Type} : List (Lit × DataW H) → Nat
  | [] => 0
  | x :: r => uptoBulkEntry x + uptoBulkEntries r
def uptoBulkEntry {H : Type} : Lit × DataW H → Nat
  | (.string bytes, d) => bytes.length + uptoBulk d + 1
  | (_, d) => uptoBulk d + 1
 end
def uptoSmall : (H : Type) → List (DataW H) → Bool := fun _ ds => decide (uptoBulkAll ds ≤ 1048576)
def OpenSpec.upto (s : _root_.Go.ChangeSpec) : _root_.Go.OpenSpec := { _root_.Go.OpenSpec.ofChange s with cond := some uptoSmall }

/-- 'gimballaw31.CongrMakes', WHERE WHAT IT READS IS OF BULK AT MOST 1048576: true; the input reads as it did. -/
def congrMakesUptoRow : OpenClaim := { program := "ytfmmjekhknaniaadoor", sum := "c8d28e4ab5bf7c6be46488da75ac5bbb51db5182c0348235467e20edb765bbd1", func := "gimbal/gimballaw31.CongrMakes", spec := "congrMakes", named := ["gimbal/bound.ends", "internal/strconv.uint64pow10", "math/bits.deBruijn32tab", "math/bits.deBruijn64tab"], apart := false, laid := [("math/bits.deBruijn32tab", laid_math_bits_deBruijn32tab), ("math/bits.deBruijn64tab", laid_math_bits_deBruijn64tab), ("internal/strconv.uint64pow10", laid_internal_strconv_uint64pow10), ("gimbal/bound.ends", laid_gimbal_bound_ends)], narrowed := true }
def CongrMakesUptoSaid : Prop := congrMakesUptoRow.holds Tryd.pinned (OpenSpec.upto congrMakesSpec)

/-- 'gimballaw31.CongrShort', WHERE WHAT IT READS IS OF BULK AT MOST 1048576: true; the input reads as it did. -/
def congrShortUptoRow : OpenClaim := { program := "ytfmmjekhknaniaadoor", sum := "c8d28e4ab5bf7c6be46488da75ac5bbb51db5182c0348235467e20edb765bbd1", func := "gimbal/gimballaw31.CongrShort", spec := "congrShort", named := ["gimbal/bound.ends", "internal/strconv.uint64pow10", "math/bits.deBruijn32tab", "math/bits.deBruijn64tab"], apart := false, laid := [("math/bits.deBruijn32tab", laid_math_bits_deBruijn32tab), ("math/bits.deBruijn64tab", laid_math_bits_deBruijn64tab), ("internal/strconv.uint64pow10", laid_internal_strconv_uint64pow10), ("gimbal/bound.ends", laid_gimbal_bound_ends)], narrowed := true }
def CongrShortUptoSaid : Prop := congrShortUptoRow.holds Tryd.pinned (OpenSpec.upto congrShortSpec)

/-- 'gimballaw31.CongrLattice', WHERE WHAT IT READS IS OF BULK AT MOST 1048576: true; the input reads as it did. -/
def congrLatticeUptoRow : OpenClaim := { program := "ytfmmjekhknaniaadoor", sum := "c8d28e4ab5bf7c6be46488da75ac5bbb51db5182c0348235467e20edb765bbd1", func := "gimbal/gimballaw31.CongrLattice", spec := "congrLattice", named := ["gimbal/bound.ends", "internal/strconv.uint64pow10", "math/bits.deBruijn32tab", "math/bits.deBruijn64tab", "math/bits.divideError", "math/bits.overflowError"], apart := false, laid := [("math/bits.deBruijn32tab", laid_math_bits_deBruijn32tab), ("math/bits.deBruijn64tab", laid_math_bits_deBruijn64tab), ("internal/strconv.uint64pow10", laid_internal_strconv_uint64pow10), ("gimbal/bound.ends", laid_gimbal_bound_ends)], narrowed := true }
def CongrLatticeUptoSaid : Prop := congrLatticeUptoRow.holds Tryd.pinned (OpenSpec.upto congrLatticeSpec)

/-- 'gimballaw31.CongrTests', WHERE WHAT IT READS IS OF BULK AT MOST 1048576: true; the input reads as it did. -/
def congrTestsUptoRow : OpenClaim := { program := "ytfmmjekhknaniaadoor", sum := "c8d28e4ab5bf7c6be46488da75ac5bbb51db5182c0348235467e20edb765bbd1", func := "gimbal/gimballaw31.CongrTests", spec := "congrTests", named := ["gimbal/bound.ends", "internal/strconv.uint64pow10", "math/bits.deBruijn32tab", "math/bits.deBruijn64tab", "math/bits.divideError", "math/bits.overflowError"], apart := false, laid := [("math/bits.deBruijn32tab", laid_math_bits_deBruijn32tab), ("math/bits.deBruijn64tab", laid_math_bits_deBruijn64tab), ("internal/strconv.uint64pow10", laid_internal_strconv_uint64pow10), ("gimbal/bound.ends", laid_gimbal_bound_ends)], narrowed := true }
def CongrTestsUptoSaid : Prop := congrTestsUptoRow.holds Tryd.pinned (OpenSpec.upto congrTestsSpec)

/-- 'gimballaw31.CongrReckons', WHERE WHAT IT READS IS OF BULK AT MOST 1048576: true; the input reads as it did. -/
def congrReckonsUptoRow : OpenClaim := { program := "ytfmmjekhknaniaadoor", sum := "c8d28e4ab5bf7c6be46488da75ac5bbb51db5182c0348235467e20edb765bbd1", func := "gimbal/gimballaw31.CongrReckons", spec := "congrReckons", named := ["gimbal/bound.ends", "internal/strconv.uint64pow10", "math/bits.deBruijn32tab", "math/bits.deBruijn64tab", "math/bits.divideError", "math/bits.overflowError"], apart := false, laid := [("math/bits.deBruijn32tab", laid_math_bits_deBruijn32tab), ("math/bits.deBruijn64tab", laid_math_bits_deBruijn64tab), ("internal/strconv.uint64pow10", laid_internal_strconv_uint64pow10), ("gimbal/bound.ends", laid_gimbal_bound_ends)], narrowed := true }
def CongrReckonsUptoSaid : Prop := congrReckonsUptoRow.holds Tryd.pinned (OpenSpec.upto congrReckonsSpec)

/-- 'gimballaw31.CongrSound', WHERE WHAT IT READS IS OF BULK AT MOST 1048576: true; the input reads as it did. -/
def congrSoundUptoRow : OpenClaim := { program := "ytfmmjekhknaniaadoor", sum := "c8d28e4ab5bf7c6be46488da75ac5bbb51db5182c0348235467e20edb765bbd1", func := "gimbal/gimballaw31.CongrSound", spec := "congrSound", named := ["gimbal/bound.ends", "internal/strconv.uint64pow10", "math/bits.deBruijn32tab", "math/bits.deBruijn64tab", "math/bits.divideError", "math/bits.overflowError"], apart := false, laid := [("math/bits.deBruijn32tab", laid_math_bits_deBruijn32tab), ("math/bits.deBruijn64tab", laid_math_bits_deBruijn64tab), ("internal/strconv.uint64pow10", laid_internal_strconv_uint64pow10), ("gimbal/bound.ends", laid_gimbal_bound_ends)], narrowed := true }
def CongrSoundUptoSaid : Prop := congrSoundUptoRow.holds Tryd.pinned (OpenSpec.upto congrSoundSpec)

/-- 'gimballaw31.CongrMonotone', WHERE WHAT IT READS IS OF BULK AT MOST 1048576: true; the input reads as it did. -/
def congrMonotoneUptoRow : OpenClaim := { program := "ytfmmjekhknaniaadoor", sum := "c8d28e4ab5bf7c6be46488da75ac5bbb51db5182c0348235467e20edb765bbd1", func := "gimbal/gimballaw31.CongrMonotone", spec := "congrMonotone", named := ["gimbal/bound.ends", "internal/strconv.uint64pow10", "math/bits.deBruijn32tab", "math/bits.deBruijn64tab", "math/bits.divideError", "math/bits.overflowError"], apart := false, laid := [("math/bits.deBruijn32tab", laid_math_bits_deBruijn32tab), ("math/bits.deBruijn64tab", laid_math_bits_deBruijn64tab), ("internal/strconv.uint64pow10", laid_internal_strconv_uint64pow10), ("gimbal/bound.ends", laid_gimbal_bound_ends)], narrowed := true }
def CongrMonotoneUptoSaid : Prop := congrMonotoneUptoRow.holds Tryd.pinned (OpenSpec.upto congrMonotoneSpec)

end Rows
end Go.Proofs.YtfmmjekhknaniaaDoor
