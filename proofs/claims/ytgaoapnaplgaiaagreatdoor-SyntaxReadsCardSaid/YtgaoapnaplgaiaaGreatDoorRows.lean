/-
  NARROWER THAN 'FOR EVERY INPUT', by the rows' own cells (each row's printed sentence says how): SyntaxReads: laid · SyntaxBlanks: laid · SyntaxBreaks: laid · SyntaxDeep: laid · SyntaxWrites: loops, laid · SyntaxBack: loops, laid · SyntaxOneForm: laid.
  DERIVED. THE GIVEN ROWS OF THIS SEAT. 7 by the template 'for every input the law returns true; each argument reads behind the call as it read before'; 0 by the template 'total and deterministic' (their statements: YtgaoapnaplgaiaaGreatDoorTotals.lean).
  GIVEN WITH THE SEED: the statements are not yours to turn. If you find one false, say at which input.
  Laid BY PROGRAM, IN A SANDBOX (cutbox-rows.mjs): the forced cells as the released guide's own fill.sh prints them over the translation 2b3c1568fdba5dcb… (all of the seat's roots in one cut). By AI agents, Wed Nov 11 2026. No macro, syntax, notation, axiom, sorry.
-/
import Derived.Test.YtgaoapnaplgaiaaGreatDoorChecked
import GoSem.Claim
import GoSem.ClaimJoined
import GoSem.ClaimMapViews
import Derived.JoinedTies
import Derived.KernelRfl
namespace Go.Proofs.YtgaoapnaplgaiaaGreatDoor
/- THE CELL 'sum', in the pinned program and in every row, IS THE sha256 OF THE DUMP (.gsa) THAT YtgaoapnaplgaiaaGreatDoorProg.lean LOADS. Nothing in Lean hashes anything: it is a label: what it is worth is what the hold of that sum in a sandbox is worth. -/
noncomputable def Tryz.pinned : Pinned := { name := "ytgaoapnaplgaiaagreatdoor", sum := "2b3c1568fdba5dcbfd8b9d54939ac9cecd3f764813ac96da2da3cddf471d950b", checked := Tryz.checked }
namespace Rows
def none {H : Type} : Left H := { results := [], args := [] }

/- WHAT THE LISTED PACKAGE-LEVEL VARIABLES READ AS WHEN THE CALL BEGINS. Each datum BY PROGRAM (the guide's laid-datum.mjs) off the statement by which the dump's own 'gosem.cut.vars' lays the variable. In a bare row this is a premise. The card (YtgaoapnaplgaiaaGreatDoorCards.lean) ties it to the program's text. -/
def laid_math_bits_deBruijn32tab {H : Type} : DataW H := .agg [.lit (.int .u8 0), .lit (.int .u8 1), .lit (.int .u8 28), .lit (.int .u8 2), .lit (.int .u8 29), .lit (.int .u8 14), .lit (.int .u8 24), .lit (.int .u8 3), .lit (.int .u8 30), .lit (.int .u8 22), .lit (.int .u8 20), .lit (.int .u8 15), .lit (.int .u8 25), .lit (.int .u8 17), .lit (.int .u8 4), .lit (.int .u8 8), .lit (.int .u8 31), .lit (.int .u8 27), .lit (.int .u8 13), .lit (.int .u8 23), .lit (.int .u8 21), .lit (.int .u8 19), .lit (.int .u8 16), .lit (.int .u8 7), .lit (.int .u8 26), .lit (.int .u8 12), .lit (.int .u8 18), .lit (.int .u8 6), .lit (.int .u8 11), .lit (.int .u8 5), .lit (.int .u8 10), .lit (.int .u8 9)]
def laid_math_bits_deBruijn64tab {H : Type} : DataW H := .agg [.lit (.int .u8 0), .lit (.int .u8 1), .lit (.int .u8 56), .lit (.int .u8 2), .lit (.int .u8 57), .lit (.int .u8 49), .lit (.int .u8 28), .lit (.int .u8 3), .lit (.int .u8 61), .lit (.int .u8 58), .lit (.int .u8 42), .lit (.int .u8 50), .lit (.int .u8 38), .lit (.int .u8 29), .lit (.int .u8 17), .lit (.int .u8 4), .lit (.int .u8 62), .lit (.int .u8 47), .lit (.int .u8 59), .lit (.int .u8 36), .lit (.int .u8 45), .lit (.int .u8 43), .lit (.int .u8 51), .lit (.int .u8 22), .lit (.int .u8 53), .lit (.int .u8 39), .lit (.int .u8 33), .lit (.int .u8 30), .lit (.int .u8 24), .lit (.int .u8 18), .lit (.int .u8 12), .lit (.int .u8 5), .lit (.int .u8 63), .lit (.int .u8 55), .lit (.int .u8 48), .lit (.int .u8 27), .lit (.int .u8 60), .lit (.int .u8 41), .lit (.int .u8 37), .lit (.int .u8 16), .lit (.int .u8 46), .lit (.int .u8 35), .lit (.int .u8 44), .lit (.int .u8 21), .lit (.int .u8 52), .lit (.int .u8 32), .lit (.int .u8 23), .lit (.int .u8 11), .lit (.int .u8 54), .lit (.int .u8 26), .lit (.int .u8 40), .lit (.int .u8 15), .lit (.int .u8 34), .lit (.int .u8 20), .lit (.int .u8 31), .lit (.int .u8 10), .lit (.int .u8 25), .lit (.int .u8 14), .lit (.int .u8 19), .lit (.int .u8 9), .lit (.int .u8 13), .lit (.int .u8 8), .lit (.int .u8 7), .lit (.int .u8 6)]
def laid_internal_strconv_uint64pow10 {H : Type} : DataW H := .agg [.lit (.int .u64 1), .lit (.int .u64 10), .lit (.int .u64 100), .lit (.int .u64 1000), .lit (.int .u64 10000), .lit (.int .u64 100000), .lit (.int .u64 1000000), .lit (.int .u64 10000000), .lit (.int .u64 100000000), .lit (.int .u64 1000000000), .lit (.int .u64 10000000000), .lit (.int .u64 100000000000), .lit (.int .u64 1000000000000), .lit (.int .u64 10000000000000), .lit (.int .u64 100000000000000), .lit (.int .u64 1000000000000000), .lit (.int .u64 10000000000000000), .lit (.int .u64 100000000000000000), .lit (.int .u64 1000000000000000000), .lit (.int .u64 10000000000000000000)]
def laid_gimbal_token_words {H : Type} : DataW H := .agg [.lit (.string [97, 98, 115]), .lit (.string [97, 115, 115, 101, 114, 116]), .lit (.string [99, 97, 108, 108]), .lit (.string [99, 97, 115, 101]), .lit (.string [99, 108, 97, 109, 112]), .lit (.string [99, 111, 110, 115, 116]), .lit (.string [100, 101, 102, 97, 117, 108, 116]), .lit (.string [101, 108, 115, 101]), .lit (.string [105, 102]), .lit (.string [105, 110]), .lit (.string [105, 110, 105, 116]), .lit (.string [105, 110, 112, 117, 116]), .lit (.string [105, 110, 116, 49, 54]), .lit (.string [105, 110, 116, 51, 50]), .lit (.string [105, 110, 116, 56]), .lit (.string [108, 111, 111, 112]), .lit (.string [109, 97, 120]), .lit (.string [109, 105, 110]), .lit (.string [112, 114, 111, 99]), .lit (.string [114, 101, 97, 100]), .lit (.string [115, 107, 105, 112]), .lit (.string [115, 119, 105, 116, 99, 104]), .lit (.string [116, 105, 99, 107, 115]), .lit (.string [118, 97, 114]), .lit (.string [119, 104, 105, 108, 101]), .lit (.string [33]), .lit (.string [33, 61]), .lit (.string [37]), .lit (.string [38, 38]), .lit (.string [40]), .lit (.string [41]), .lit (.string [42]), .lit (.string [43]), .lit (.string [44]), .lit (.string [45]), .lit (.string [46, 46]), .lit (.string [47]), .lit (.string [58]), .lit (.string [59]), .lit (.string [60]), .lit (.string [60, 61]), .lit (.string [61]), .lit (.string [61, 61]), .lit (.string [62]), .lit (.string [62, 61]), .lit (.string [91]), .lit (.string [93]), .lit (.string [123]), .lit (.string [124, 124]), .lit (.string [125])]
def laid_gimbal_syntax_ranks {H : Type} : DataW H := .agg [.lit (.int .i64 0), .lit (.int .i64 7), .lit (.int .i64 7), .lit (.int .i64 7), .lit (.int .i64 6), .lit (.int .i64 4), .lit (.int .i64 4), .lit (.int .i64 5), .lit (.int .i64 5), .lit (.int .i64 5), .lit (.int .i64 7), .lit (.int .i64 7), .lit (.int .i64 7), .lit (.int .i64 7), .lit (.int .i64 3), .lit (.int .i64 3), .lit (.int .i64 3), .lit (.int .i64 3), .lit (.int .i64 3), .lit (.int .i64 3), .lit (.int .i64 2), .lit (.int .i64 1), .lit (.int .i64 6)]
def laid_gimbal_syntax_binary {H : Type} : DataW H := .agg [.lit (.int .i64 0), .lit (.int .i64 0), .lit (.int .i64 0), .lit (.int .i64 0), .lit (.int .i64 0), .lit (.int .i64 35), .lit (.int .i64 37), .lit (.int .i64 34), .lit (.int .i64 39), .lit (.int .i64 30), .lit (.int .i64 0), .lit (.int .i64 0), .lit (.int .i64 0), .lit (.int .i64 0), .lit (.int .i64 45), .lit (.int .i64 29), .lit (.int .i64 42), .lit (.int .i64 43), .lit (.int .i64 46), .lit (.int .i64 47), .lit (.int .i64 31), .lit (.int .i64 51), .lit (.int .i64 0)]

/-- 'gimballaw04.SyntaxReads': WHATEVER THE INPUT: true; the input reads as it did. -/
def syntaxReadsSpec : ChangeSpec := { name := "syntaxReads", fn := fun _ => fun
  | [d] => { results := [.lit (.bool true)], args := [d] }
  | _ => none }
def syntaxReadsRow : OpenClaim := { program := "ytgaoapnaplgaiaagreatdoor", sum := "2b3c1568fdba5dcbfd8b9d54939ac9cecd3f764813ac96da2da3cddf471d950b", func := "gimbal/gimballaw04.SyntaxReads", spec := "syntaxReads", inPlace := ["internal/bytealg.IndexByte", "internal/bytealg.Index", "internal/abi.NoEscape", "internal/bytealg.MakeNoZero"], unfollowed := true, recurses := true, named := ["internal/bytealg.MaxLen", "gimbal/token.words", "gimbal/syntax.binary", "gimbal/syntax.ranks", "internal/strconv.uint64pow10", "math/bits.deBruijn32tab", "math/bits.deBruijn64tab"], apart := false, laid := [("math/bits.deBruijn32tab", laid_math_bits_deBruijn32tab), ("math/bits.deBruijn64tab", laid_math_bits_deBruijn64tab), ("internal/strconv.uint64pow10", laid_internal_strconv_uint64pow10), ("gimbal/token.words", laid_gimbal_token_words), ("gimbal/syntax.ranks", laid_gimbal_syntax_ranks), ("gimbal/syntax.binary", laid_gimbal_syntax_binary)] }
def SyntaxReadsSaid : Prop := syntaxReadsRow.holds Tryz.pinned (OpenSpec.ofChange syntaxReadsSpec)

/-- ITS FALSE NEIGHBOUR: 'it returns false'. Refute it at one input. -/
def syntaxReadsWrong : ChangeSpec := { name := "syntaxReads", fn := fun _ => fun
  | [d] => { results := [.lit (.bool false)], args := [d] }
  | _ => none }
def SyntaxReadsWrongFalsely : Prop := syntaxReadsRow.holds Tryz.pinned (OpenSpec.ofChange syntaxReadsWrong)

/-- 'gimballaw04.SyntaxBlanks': WHATEVER THE INPUT: true; the input reads as it did. -/
def syntaxBlanksSpec : ChangeSpec := { name := "syntaxBlanks", fn := fun _ => fun
  | [d1, d2] => { results := [.lit (.bool true)], args := [d1, d2] }
  | _ => none }
def syntaxBlanksRow : OpenClaim := { program := "ytgaoapnaplgaiaagreatdoor", sum := "2b3c1568fdba5dcbfd8b9d54939ac9cecd3f764813ac96da2da3cddf471d950b", func := "gimbal/gimballaw04.SyntaxBlanks", spec := "syntaxBlanks", inPlace := ["internal/bytealg.IndexByte", "internal/bytealg.Index", "internal/abi.NoEscape", "internal/bytealg.MakeNoZero"], unfollowed := true, recurses := true, named := ["internal/bytealg.MaxLen", "gimbal/token.words", "gimbal/syntax.binary", "gimbal/syntax.ranks", "internal/strconv.uint64pow10", "math/bits.deBruijn32tab", "math/bits.deBruijn64tab"], apart := false, laid := [("math/bits.deBruijn32tab", laid_math_bits_deBruijn32tab), ("math/bits.deBruijn64tab", laid_math_bits_deBruijn64tab), ("internal/strconv.uint64pow10", laid_internal_strconv_uint64pow10), ("gimbal/token.words", laid_gimbal_token_words), ("gimbal/syntax.ranks", laid_gimbal_syntax_ranks), ("gimbal/syntax.binary", laid_gimbal_syntax_binary)] }
def SyntaxBlanksSaid : Prop := syntaxBlanksRow.holds Tryz.pinned (OpenSpec.ofChange syntaxBlanksSpec)

/-- ITS FALSE NEIGHBOUR: 'it returns false'. Refute it at one input. -/
def syntaxBlanksWrong : ChangeSpec := { name := "syntaxBlanks", fn := fun _ => fun
  | [d1, d2] => { results := [.lit (.bool false)], args := [d1, d2] }
  | _ => none }
def SyntaxBlanksWrongFalsely : Prop := syntaxBlanksRow.holds Tryz.pinned (OpenSpec.ofChange syntaxBlanksWrong)

/-- 'gimballaw04.SyntaxBreaks': WHATEVER THE INPUT: true; the input reads as it did. -/
def syntaxBreaksSpec : ChangeSpec := { name := "syntaxBreaks", fn := fun _ => fun
  | [d1, d2] => { results := [.lit (.bool true)], args := [d1, d2] }
  | _ => none }
def syntaxBreaksRow : OpenClaim := { program := "ytgaoapnaplgaiaagreatdoor", sum := "2b3c1568fdba5dcbfd8b9d54939ac9cecd3f764813ac96da2da3cddf471d950b", func := "gimbal/gimballaw04.SyntaxBreaks", spec := "syntaxBreaks", inPlace := ["internal/bytealg.IndexByte", "internal/bytealg.Index", "internal/abi.NoEscape", "internal/bytealg.MakeNoZero"], unfollowed := true, recurses := true, named := ["internal/bytealg.MaxLen", "gimbal/token.words", "gimbal/syntax.binary", "gimbal/syntax.ranks", "internal/strconv.uint64pow10", "math/bits.deBruijn32tab", "math/bits.deBruijn64tab"], apart := false, laid := [("math/bits.deBruijn32tab", laid_math_bits_deBruijn32tab), ("math/bits.deBruijn64tab", laid_math_bits_deBruijn64tab), ("internal/strconv.uint64pow10", laid_internal_strconv_uint64pow10), ("gimbal/token.words", laid_gimbal_token_words), ("gimbal/syntax.ranks", laid_gimbal_syntax_ranks), ("gimbal/syntax.binary", laid_gimbal_syntax_binary)] }
def SyntaxBreaksSaid : Prop := syntaxBreaksRow.holds Tryz.pinned (OpenSpec.ofChange syntaxBreaksSpec)

/-- ITS FALSE NEIGHBOUR: 'it returns false'. Refute it at one input. -/
def syntaxBreaksWrong : ChangeSpec := { name := "syntaxBreaks", fn := fun _ => fun
  | [d1, d2] => { results := [.lit (.bool false)], args := [d1, d2] }
  | _ => none }
def SyntaxBreaksWrongFalsely : Prop := syntaxBreaksRow.holds Tryz.pinned (OpenSpec.ofChange syntaxBreaksWrong)

/-- 'gimballaw04.SyntaxDeep': WHATEVER THE INPUT: true; the input reads as it did. -/
def syntaxDeepSpec : ChangeSpec := { name := "syntaxDeep", fn := fun _ => fun
  | [d1, d2] => { results := [.lit (.bool true)], args := [d1, d2] }
  | _ => none }
def syntaxDeepRow : OpenClaim := { program := "ytgaoapnaplgaiaagreatdoor", sum := "2b3c1568fdba5dcbfd8b9d54939ac9cecd3f764813ac96da2da3cddf471d950b", func := "gimbal/gimballaw04.SyntaxDeep", spec := "syntaxDeep", inPlace := ["internal/bytealg.IndexByte", "internal/bytealg.Index", "internal/abi.NoEscape", "internal/bytealg.MakeNoZero"], unfollowed := true, recurses := true, named := ["internal/bytealg.MaxLen", "gimbal/token.words", "gimbal/syntax.binary", "gimbal/syntax.ranks", "internal/strconv.uint64pow10", "math/bits.deBruijn32tab", "math/bits.deBruijn64tab"], apart := false, laid := [("math/bits.deBruijn32tab", laid_math_bits_deBruijn32tab), ("math/bits.deBruijn64tab", laid_math_bits_deBruijn64tab), ("internal/strconv.uint64pow10", laid_internal_strconv_uint64pow10), ("gimbal/token.words", laid_gimbal_token_words), ("gimbal/syntax.ranks", laid_gimbal_syntax_ranks), ("gimbal/syntax.binary", laid_gimbal_syntax_binary)] }
def SyntaxDeepSaid : Prop := syntaxDeepRow.holds Tryz.pinned (OpenSpec.ofChange syntaxDeepSpec)

/-- ITS FALSE NEIGHBOUR: 'it returns false'. Refute it at one input. -/
def syntaxDeepWrong : ChangeSpec := { name := "syntaxDeep", fn := fun _ => fun
  | [d1, d2] => { results := [.lit (.bool false)], args := [d1, d2] }
  | _ => none }
def SyntaxDeepWrongFalsely : Prop := syntaxDeepRow.holds Tryz.pinned (OpenSpec.ofChange syntaxDeepWrong)

/-- 'gimballaw04.SyntaxWrites': WHATEVER THE INPUT: true; the input reads as it did. -/
def syntaxWritesSpec : ChangeSpec := { name := "syntaxWrites", fn := fun _ => fun
  | [d1, d2] => { results := [.lit (.bool true)], args := [d1, d2] }
  | _ => none }
def syntaxWritesRow : OpenClaim := { program := "ytgaoapnaplgaiaagreatdoor", sum := "2b3c1568fdba5dcbfd8b9d54939ac9cecd3f764813ac96da2da3cddf471d950b", func := "gimbal/gimballaw04.SyntaxWrites", spec := "syntaxWrites", inPlace := ["internal/bytealg.IndexByte", "internal/bytealg.Index", "internal/abi.NoEscape", "internal/bytealg.MakeNoZero"], unfollowed := true, recurses := true, named := ["internal/bytealg.MaxLen", "gimbal/token.words", "gimbal/syntax.binary", "gimbal/syntax.ranks", "internal/strconv.uint64pow10", "math/bits.deBruijn32tab", "math/bits.deBruijn64tab"], loops := true, apart := false, laid := [("math/bits.deBruijn32tab", laid_math_bits_deBruijn32tab), ("math/bits.deBruijn64tab", laid_math_bits_deBruijn64tab), ("internal/strconv.uint64pow10", laid_internal_strconv_uint64pow10), ("gimbal/token.words", laid_gimbal_token_words), ("gimbal/syntax.ranks", laid_gimbal_syntax_ranks), ("gimbal/syntax.binary", laid_gimbal_syntax_binary)] }
def SyntaxWritesSaid : Prop := syntaxWritesRow.holds Tryz.pinned (OpenSpec.ofChange syntaxWritesSpec)

/-- ITS FALSE NEIGHBOUR: 'it returns false'. Refute it at one input. -/
def syntaxWritesWrong : ChangeSpec := { name := "syntaxWrites", fn := fun _ => fun
  | [d1, d2] => { results := [.lit (.bool false)], args := [d1, d2] }
  | _ => none }
def SyntaxWritesWrongFalsely : Prop := syntaxWritesRow.holds Tryz.pinned (OpenSpec.ofChange syntaxWritesWrong)

/-- 'gimballaw04.SyntaxBack': WHATEVER THE INPUT: true; the input reads as it did. -/
def syntaxBackSpec : ChangeSpec := { name := "syntaxBack", fn := fun _ => fun
  | [d] => { results := [.lit (.bool true)], args := [d] }
  | _ => none }
def syntaxBackRow : OpenClaim := { program := "ytgaoapnaplgaiaagreatdoor", sum := "2b3c1568fdba5dcbfd8b9d54939ac9cecd3f764813ac96da2da3cddf471d950b", func := "gimbal/gimballaw04.SyntaxBack", spec := "syntaxBack", inPlace := ["internal/bytealg.IndexByte", "internal/bytealg.Index", "internal/abi.NoEscape", "internal/bytealg.MakeNoZero"], unfollowed := true, recurses := true, named := ["internal/bytealg.MaxLen", "gimbal/token.words", "gimbal/syntax.binary", "gimbal/syntax.ranks", "internal/strconv.uint64pow10", "math/bits.deBruijn32tab", "math/bits.deBruijn64tab"], loops := true, apart := false, laid := [("math/bits.deBruijn32tab", laid_math_bits_deBruijn32tab), ("math/bits.deBruijn64tab", laid_math_bits_deBruijn64tab), ("internal/strconv.uint64pow10", laid_internal_strconv_uint64pow10), ("gimbal/token.words", laid_gimbal_token_words), ("gimbal/syntax.ranks", laid_gimbal_syntax_ranks), ("gimbal/syntax.binary", laid_gimbal_syntax_binary)] }
def SyntaxBackSaid : Prop := syntaxBackRow.holds Tryz.pinned (OpenSpec.ofChange syntaxBackSpec)

/-- ITS FALSE NEIGHBOUR: 'it returns false'. Refute it at one input. -/
def syntaxBackWrong : ChangeSpec := { name := "syntaxBack", fn := fun _ => fun
  | [d] => { results := [.lit (.bool false)], args := [d] }
  | _ => none }
def SyntaxBackWrongFalsely : Prop := syntaxBackRow.holds Tryz.pinned (OpenSpec.ofChange syntaxBackWrong)

/-- 'gimballaw04.SyntaxOneForm': WHATEVER THE INPUT: true; the input reads as it did. -/
def syntaxOneFormSpec : ChangeSpec := { name := "syntaxOneForm", fn := fun _ => fun
  | [d] => { results := [.lit (.bool true)], args := [d] }
  | _ => none }
def syntaxOneFormRow : OpenClaim := { program := "ytgaoapnaplgaiaagreatdoor", sum := "2b3c1568fdba5dcbfd8b9d54939ac9cecd3f764813ac96da2da3cddf471d950b", func := "gimbal/gimballaw04.SyntaxOneForm", spec := "syntaxOneForm", inPlace := ["internal/bytealg.IndexByte", "internal/bytealg.Index", "internal/abi.NoEscape", "internal/bytealg.MakeNoZero"], unfollowed := true, recurses := true, named := ["internal/bytealg.MaxLen", "gimbal/token.words", "gimbal/syntax.binary", "gimbal/syntax.ranks", "internal/strconv.uint64pow10", "math/bits.deBruijn32tab", "math/bits.deBruijn64tab"], apart := false, laid := [("math/bits.deBruijn32tab", laid_math_bits_deBruijn32tab), ("math/bits.deBruijn64tab", laid_math_bits_deBruijn64tab), ("internal/strconv.uint64pow10", laid_internal_strconv_uint64pow10), ("gimbal/token.words", laid_gimbal_token_words), ("gimbal/syntax.ranks", laid_gimbal_syntax_ranks), ("gimbal/syntax.binary", laid_gimbal_syntax_binary)] }
def SyntaxOneFormSaid : Prop := syntaxOneFormRow.holds Tryz.pinned (OpenSpec.ofChange syntaxOneFormSpec)

/-- ITS FALSE NEIGHBOUR: 'it returns false'. Refute it at one input. -/
def syntaxOneFormWrong : ChangeSpec := { name := "syntaxOneForm", fn := fun _ => fun
  | [d] => { results := [.lit (.bool false)], args := [d] }
  | _ => none }
def SyntaxOneFormWrongFalsely : Prop := syntaxOneFormRow.holds Tryz.pinned (OpenSpec.ofChange syntaxOneFormWrong)

/- THE SECOND FORM. 'bulk': how many values and letters a reading holds, each counted each time it is reached (what is shared counts as often as it is met; a slice's spare places count too). A statement '..UptoSaid' is the law's where the arguments, and the package variables that the reading takes, are together of bulk at most 1048576: NARROWER than '..Said'. Prove '..Said' where nothing that the law and all that it calls make is longer than what came in: it says more and counts as full. Else prove '..UptoSaid'. A law counts once. -/
mutual
def uptoBulk {H : Type} : DataW H → Nat
  | .lit (.string bytes) => bytes.length + 1
  | .lit _ => 1
  | .nil => 1
  | .ptr d => uptoBulk d + 1
  | .slice elems spare => uptoBulkAll elems + uptoBulkAll spare + 1
  | .agg parts => uptoBulkAll parts + 1
  | .iface _ d => uptoBulk d + 1
  | .map entries => uptoBulkEntries entries + 1
  | .held _ => 1
def uptoBulkAll {H : Type} : List (DataW H) → Nat
  | [] => 0
  | d :: r => uptoBulk d + uptoBulkAll r
def uptoBulkEntries {H : Type} : List (Lit × DataW H) → Nat
  | [] => 0
  | x :: r => uptoBulkEntry x + uptoBulkEntries r
def uptoBulkEntry {H : Type} : Lit × DataW H → Nat
  | (.string bytes, d) => bytes.length + uptoBulk d + 1
  | (_, d) => uptoBulk d + 1
 end
def uptoSmall : (H : Type) → List (DataW H) → Bool := fun _ ds => decide (uptoBulkAll ds ≤ 1048576)
def OpenSpec.upto (s : _root_.Go.ChangeSpec) : _root_.Go.OpenSpec := { _root_.Go.OpenSpec.ofChange s with cond := some uptoSmall }

/-- 'gimballaw04.SyntaxReads', WHERE WHAT IT READS IS OF BULK AT MOST 1048576: true; the input reads as it did. -/
def syntaxReadsUptoRow : OpenClaim := { program := "ytgaoapnaplgaiaagreatdoor", sum := "2b3c1568fdba5dcbfd8b9d54939ac9cecd3f764813ac96da2da3cddf471d950b", func := "gimbal/gimballaw04.SyntaxReads", spec := "syntaxReads", inPlace := ["internal/bytealg.IndexByte", "internal/bytealg.Index", "internal/abi.NoEscape", "internal/bytealg.MakeNoZero"], unfollowed := true, recurses := true, named := ["internal/bytealg.MaxLen", "gimbal/token.words", "gimbal/syntax.binary", "gimbal/syntax.ranks", "internal/strconv.uint64pow10", "math/bits.deBruijn32tab", "math/bits.deBruijn64tab"], apart := false, laid := [("math/bits.deBruijn32tab", laid_math_bits_deBruijn32tab), ("math/bits.deBruijn64tab", laid_math_bits_deBruijn64tab), ("internal/strconv.uint64pow10", laid_internal_strconv_uint64pow10), ("gimbal/token.words", laid_gimbal_token_words), ("gimbal/syntax.ranks", laid_gimbal_syntax_ranks), ("gimbal/syntax.binary", laid_gimbal_syntax_binary)], narrowed := true }
def SyntaxReadsUptoSaid : Prop := syntaxReadsUptoRow.holds Tryz.pinned (OpenSpec.upto syntaxReadsSpec)

/-- 'gimballaw04.SyntaxBlanks', WHERE WHAT IT READS IS OF BULK AT MOST 1048576: true; the input reads as it did. -/
def syntaxBlanksUptoRow : OpenClaim := { program := "ytgaoapnaplgaiaagreatdoor", sum := "2b3c1568fdba5dcbfd8b9d54939ac9cecd3f764813ac96da2da3cddf471d950b", func := "gimbal/gimballaw04.SyntaxBlanks", spec := "syntaxBlanks", inPlace := ["internal/bytealg.IndexByte", "internal/bytealg.Index", "internal/abi.NoEscape", "internal/bytealg.MakeNoZero"], unfollowed := true, recurses := true, named := ["internal/bytealg.MaxLen", "gimbal/token.words", "gimbal/syntax.binary", "gimbal/syntax.ranks", "internal/strconv.uint64pow10", "math/bits.deBruijn32tab", "math/bits.deBruijn64tab"], apart := false, laid := [("math/bits.deBruijn32tab", laid_math_bits_deBruijn32tab), ("math/bits.deBruijn64tab", laid_math_bits_deBruijn64tab), ("internal/strconv.uint64pow10", laid_internal_strconv_uint64pow10), ("gimbal/token.words", laid_gimbal_token_words), ("gimbal/syntax.ranks", laid_gimbal_syntax_ranks), ("gimbal/syntax.binary", laid_gimbal_syntax_binary)], narrowed := true }
def SyntaxBlanksUptoSaid : Prop := syntaxBlanksUptoRow.holds Tryz.pinned (OpenSpec.upto syntaxBlanksSpec)

/-- 'gimballaw04.SyntaxBreaks', WHERE WHAT IT READS IS OF BULK AT MOST 1048576: true; the input reads as it did. -/
def syntaxBreaksUptoRow : OpenClaim := { program := "ytgaoapnaplgaiaagreatdoor", sum := "2b3c1568fdba5dcbfd8b9d54939ac9cecd3f764813ac96da2da3cddf471d950b", func := "gimbal/gimballaw04.SyntaxBreaks", spec := "syntaxBreaks", inPlace := ["internal/bytealg.IndexByte", "internal/bytealg.Index", "internal/abi.NoEscape", "internal/bytealg.MakeNoZero"], unfollowed := true, recurses := true, named := ["internal/bytealg.MaxLen", "gimbal/token.words", "gimbal/syntax.binary", "gimbal/syntax.ranks", "internal/strconv.uint64pow10", "math/bits.deBruijn32tab", "math/bits.deBruijn64tab"], apart := false, laid := [("math/bits.deBruijn32tab", laid_math_bits_deBruijn32tab), ("math/bits.deBruijn64tab", laid_math_bits_deBruijn64tab), ("internal/strconv.uint64pow10", laid_internal_strconv_uint64pow10), ("gimbal/token.words", laid_gimbal_token_words), ("gimbal/syntax.ranks", laid_gimbal_syntax_ranks), ("gimbal/syntax.binary", laid_gimbal_syntax_binary)], narrowed := true }
def SyntaxBreaksUptoSaid : Prop := syntaxBreaksUptoRow.holds Tryz.pinned (OpenSpec.upto syntaxBreaksSpec)

/-- 'gimballaw04.SyntaxDeep', WHERE WHAT IT READS IS OF BULK AT MOST 1048576: true; the input reads as it did. -/
def syntaxDeepUptoRow : OpenClaim := { program := "ytgaoapnaplgaiaagreatdoor", sum := "2b3c1568fdba5dcbfd8b9d54939ac9cecd3f764813ac96da2da3cddf471d950b", func := "gimbal/gimballaw04.SyntaxDeep", spec := "syntaxDeep", inPlace := ["internal/bytealg.IndexByte", "internal/bytealg.Index", "internal/abi.NoEscape", "internal/bytealg.MakeNoZero"], unfollowed := true, recurses := true, named := ["internal/bytealg.MaxLen", "gimbal/token.words", "gimbal/syntax.binary", "gimbal/syntax.ranks", "internal/strconv.uint64pow10", "math/bits.deBruijn32tab", "math/bits.deBruijn64tab"], apart := false, laid := [("math/bits.deBruijn32tab", laid_math_bits_deBruijn32tab), ("math/bits.deBruijn64tab", laid_math_bits_deBruijn64tab), ("internal/strconv.uint64pow10", laid_internal_strconv_uint64pow10), ("gimbal/token.words", laid_gimbal_token_words), ("gimbal/syntax.ranks", laid_gimbal_syntax_ranks), ("gimbal/syntax.binary", laid_gimbal_syntax_binary)], narrowed := true }
def SyntaxDeepUptoSaid : Prop := syntaxDeepUptoRow.holds Tryz.pinned (OpenSpec.upto syntaxDeepSpec)

/-- 'gimballaw04.SyntaxWrites', WHERE WHAT IT READS IS OF BULK AT MOST 1048576: true; the input reads as it did. -/
def syntaxWritesUptoRow : OpenClaim := { program := "ytgaoapnaplgaiaagreatdoor", sum := "2b3c1568fdba5dcbfd8b9d54939ac9cecd3f764813ac96da2da3cddf471d950b", func := "gimbal/gimballaw04.SyntaxWrites", spec := "syntaxWrites", inPlace := ["internal/bytealg.IndexByte", "internal/bytealg.Index", "internal/abi.NoEscape", "internal/bytealg.MakeNoZero"], unfollowed := true, recurses := true, named := ["internal/bytealg.MaxLen", "gimbal/token.words", "gimbal/syntax.binary", "gimbal/syntax.ranks", "internal/strconv.uint64pow10", "math/bits.deBruijn32tab", "math/bits.deBruijn64tab"], loops := true, apart := false, laid := [("math/bits.deBruijn32tab", laid_math_bits_deBruijn32tab), ("math/bits.deBruijn64tab", laid_math_bits_deBruijn64tab), ("internal/strconv.uint64pow10", laid_internal_strconv_uint64pow10), ("gimbal/token.words", laid_gimbal_token_words), ("gimbal/syntax.ranks", laid_gimbal_syntax_ranks), ("gimbal/syntax.binary", laid_gimbal_syntax_binary)], narrowed := true }
def SyntaxWritesUptoSaid : Prop := syntaxWritesUptoRow.holds Tryz.pinned (OpenSpec.upto syntaxWritesSpec)

/-- 'gimballaw04.SyntaxBack', WHERE WHAT IT READS IS OF BULK AT MOST 1048576: true; the input reads as it did. -/
def syntaxBackUptoRow : OpenClaim := { program := "ytgaoapnaplgaiaagreatdoor", sum := "2b3c1568fdba5dcbfd8b9d54939ac9cecd3f764813ac96da2da3cddf471d950b", func := "gimbal/gimballaw04.SyntaxBack", spec := "syntaxBack", inPlace := ["internal/bytealg.IndexByte", "internal/bytealg.Index", "internal/abi.NoEscape", "internal/bytealg.MakeNoZero"], unfollowed := true, recurses := true, named := ["internal/bytealg.MaxLen", "gimbal/token.words", "gimbal/syntax.binary", "gimbal/syntax.ranks", "internal/strconv.uint64pow10", "math/bits.deBruijn32tab", "math/bits.deBruijn64tab"], loops := true, apart := false, laid := [("math/bits.deBruijn32tab", laid_math_bits_deBruijn32tab), ("math/bits.deBruijn64tab", laid_math_bits_deBruijn64tab), ("internal/strconv.uint64pow10", laid_internal_strconv_uint64pow10), ("gimbal/token.words", laid_gimbal_token_words), ("gimbal/syntax.ranks", laid_gimbal_syntax_ranks), ("gimbal/syntax.binary", laid_gimbal_syntax_binary)], narrowed := true }
def SyntaxBackUptoSaid : Prop := syntaxBackUptoRow.holds Tryz.pinned (OpenSpec.upto syntaxBackSpec)

/-- 'gimballaw04.SyntaxOneForm', WHERE WHAT IT READS IS OF BULK AT MOST 1048576: true; the input reads as it did. -/
def syntaxOneFormUptoRow : OpenClaim := { program := "ytgaoapnaplgaiaagreatdoor", sum := "2b3c1568fdba5dcbfd8b9d54939ac9cecd3f764813ac96da2da3cddf471d950b", func := "gimbal/gimballaw04.SyntaxOneForm", spec := "syntaxOneForm", inPlace := ["internal/bytealg.IndexByte", "internal/bytealg.Index", "internal/abi.NoEscape", "internal/bytealg.MakeNoZero"], unfollowed := true, recurses := true, named := ["internal/bytealg.MaxLen", "gimbal/token.words", "gimbal/syntax.binary", "gimbal/syntax.ranks", "internal/strconv.uint64pow10", "math/bits.deBruijn32tab", "math/bits.deBruijn64tab"], apart := false, laid := [("math/bits.deBruijn32tab", laid_math_bits_deBruijn32tab), ("math/bits.deBruijn64tab", laid_math_bits_deBruijn64tab), ("internal/strconv.uint64pow10", laid_internal_strconv_uint64pow10), ("gimbal/token.words", laid_gimbal_token_words), ("gimbal/syntax.ranks", laid_gimbal_syntax_ranks), ("gimbal/syntax.binary", laid_gimbal_syntax_binary)], narrowed := true }
def SyntaxOneFormUptoSaid : Prop := syntaxOneFormUptoRow.holds Tryz.pinned (OpenSpec.upto syntaxOneFormSpec)

end Rows
end Go.Proofs.YtgaoapnaplgaiaaGreatDoor
