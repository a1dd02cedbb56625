/-
  NARROWER THAN 'FOR EVERY INPUT', by the rows' own cells (each row's printed sentence says how): TokenKinds: laid · TokenScans: laid · TokenBetween: laid · TokenBack: laid.
  DERIVED. THE GIVEN ROWS OF THIS SEAT. 4 by the template 'for every input the law returns true; each argument reads behind the call as it read before'; 0 by the template 'total and deterministic' (their statements: YteaegfkgnmfleaaDoorTotals.lean).
  GIVEN WITH THE SEED: the statements are not yours to turn. If you find one false, say at which input.
  Laid BY PROGRAM, IN A SANDBOX (cutbox-rows.mjs): the forced cells as the released guide's own fill.sh prints them over the translation de3cafbfe8cc7173… (all of the seat's roots in one cut). By AI agents, Wed Nov 11 2026. No macro, syntax, notation, axiom, sorry.
-/
import Derived.Test.YteaegfkgnmfleaaDoorChecked
import GoSem.Claim
import GoSem.ClaimJoined
import GoSem.ClaimMapViews
import Derived.JoinedTies
import Derived.KernelRfl
namespace Go.Proofs.YteaegfkgnmfleaaDoor
/- THE CELL 'sum', in the pinned program and in every row, IS THE sha256 OF THE DUMP (.gsa) THAT YteaegfkgnmfleaaDoorProg.lean LOADS. Nothing in Lean hashes anything: it is a label: what it is worth is what the hold of that sum in a sandbox is worth. -/
noncomputable def Tryd.pinned : Pinned := { name := "yteaegfkgnmfleaadoor", sum := "de3cafbfe8cc7173051977ed5e1e7eb7d010475984876a9b26b365b4cd35b3f5", checked := Tryd.checked }
namespace Rows
def none {H : Type} : Left H := { results := [], args := [] }

/- WHAT THE LISTED PACKAGE-LEVEL VARIABLES READ AS WHEN THE CALL BEGINS. Each datum BY PROGRAM (the guide's laid-datum.mjs) off the statement by which the dump's own 'gosem.cut.vars' lays the variable. In a bare row this is a premise. The card (YteaegfkgnmfleaaDoorCards.lean) ties it to the program's text. -/
def laid_gimbal_token_words {H : Type} : DataW H := .agg [.lit (.string [97, 98, 115]), .lit (.string [97, 115, 115, 101, 114, 116]), .lit (.string [99, 97, 108, 108]), .lit (.string [99, 97, 115, 101]), .lit (.string [99, 108, 97, 109, 112]), .lit (.string [99, 111, 110, 115, 116]), .lit (.string [100, 101, 102, 97, 117, 108, 116]), .lit (.string [101, 108, 115, 101]), .lit (.string [105, 102]), .lit (.string [105, 110]), .lit (.string [105, 110, 105, 116]), .lit (.string [105, 110, 112, 117, 116]), .lit (.string [105, 110, 116, 49, 54]), .lit (.string [105, 110, 116, 51, 50]), .lit (.string [105, 110, 116, 56]), .lit (.string [108, 111, 111, 112]), .lit (.string [109, 97, 120]), .lit (.string [109, 105, 110]), .lit (.string [112, 114, 111, 99]), .lit (.string [114, 101, 97, 100]), .lit (.string [115, 107, 105, 112]), .lit (.string [115, 119, 105, 116, 99, 104]), .lit (.string [116, 105, 99, 107, 115]), .lit (.string [118, 97, 114]), .lit (.string [119, 104, 105, 108, 101]), .lit (.string [33]), .lit (.string [33, 61]), .lit (.string [37]), .lit (.string [38, 38]), .lit (.string [40]), .lit (.string [41]), .lit (.string [42]), .lit (.string [43]), .lit (.string [44]), .lit (.string [45]), .lit (.string [46, 46]), .lit (.string [47]), .lit (.string [58]), .lit (.string [59]), .lit (.string [60]), .lit (.string [60, 61]), .lit (.string [61]), .lit (.string [61, 61]), .lit (.string [62]), .lit (.string [62, 61]), .lit (.string [91]), .lit (.string [93]), .lit (.string [123]), .lit (.string [124, 124]), .lit (.string [125])]

/-- 'gimballaw03.TokenKinds': WHATEVER THE INPUT: true; the input reads as it did. -/
def tokenKindsSpec : ChangeSpec := { name := "tokenKinds", fn := fun _ => fun
  | [d1, d2] => { results := [.lit (.bool true)], args := [d1, d2] }
  | _ => none }
def tokenKindsRow : OpenClaim := { program := "yteaegfkgnmfleaadoor", sum := "de3cafbfe8cc7173051977ed5e1e7eb7d010475984876a9b26b365b4cd35b3f5", func := "gimbal/gimballaw03.TokenKinds", spec := "tokenKinds", named := ["gimbal/token.words"], apart := false, laid := [("gimbal/token.words", laid_gimbal_token_words)] }
def TokenKindsSaid : Prop := tokenKindsRow.holds Tryd.pinned (OpenSpec.ofChange tokenKindsSpec)

/-- ITS FALSE NEIGHBOUR: 'it returns false'. Refute it at one input. -/
def tokenKindsWrong : ChangeSpec := { name := "tokenKinds", fn := fun _ => fun
  | [d1, d2] => { results := [.lit (.bool false)], args := [d1, d2] }
  | _ => none }
def TokenKindsWrongFalsely : Prop := tokenKindsRow.holds Tryd.pinned (OpenSpec.ofChange tokenKindsWrong)

/-- 'gimballaw03.TokenScans': WHATEVER THE INPUT: true; the input reads as it did. -/
def tokenScansSpec : ChangeSpec := { name := "tokenScans", fn := fun _ => fun
  | [d] => { results := [.lit (.bool true)], args := [d] }
  | _ => none }
def tokenScansRow : OpenClaim := { program := "yteaegfkgnmfleaadoor", sum := "de3cafbfe8cc7173051977ed5e1e7eb7d010475984876a9b26b365b4cd35b3f5", func := "gimbal/gimballaw03.TokenScans", spec := "tokenScans", inPlace := ["internal/bytealg.IndexByte", "internal/bytealg.Index"], named := ["internal/bytealg.MaxLen", "gimbal/token.words"], apart := false, laid := [("gimbal/token.words", laid_gimbal_token_words)] }
def TokenScansSaid : Prop := tokenScansRow.holds Tryd.pinned (OpenSpec.ofChange tokenScansSpec)

/-- ITS FALSE NEIGHBOUR: 'it returns false'. Refute it at one input. -/
def tokenScansWrong : ChangeSpec := { name := "tokenScans", fn := fun _ => fun
  | [d] => { results := [.lit (.bool false)], args := [d] }
  | _ => none }
def TokenScansWrongFalsely : Prop := tokenScansRow.holds Tryd.pinned (OpenSpec.ofChange tokenScansWrong)

/-- 'gimballaw03.TokenBetween': WHATEVER THE INPUT: true; the input reads as it did. -/
def tokenBetweenSpec : ChangeSpec := { name := "tokenBetween", fn := fun _ => fun
  | [d] => { results := [.lit (.bool true)], args := [d] }
  | _ => none }
def tokenBetweenRow : OpenClaim := { program := "yteaegfkgnmfleaadoor", sum := "de3cafbfe8cc7173051977ed5e1e7eb7d010475984876a9b26b365b4cd35b3f5", func := "gimbal/gimballaw03.TokenBetween", spec := "tokenBetween", inPlace := ["internal/bytealg.IndexByte", "internal/bytealg.Index"], named := ["internal/bytealg.MaxLen", "gimbal/token.words"], apart := false, laid := [("gimbal/token.words", laid_gimbal_token_words)] }
def TokenBetweenSaid : Prop := tokenBetweenRow.holds Tryd.pinned (OpenSpec.ofChange tokenBetweenSpec)

/-- ITS FALSE NEIGHBOUR: 'it returns false'. Refute it at one input. -/
def tokenBetweenWrong : ChangeSpec := { name := "tokenBetween", fn := fun _ => fun
  | [d] => { results := [.lit (.bool false)], args := [d] }
  | _ => none }
def TokenBetweenWrongFalsely : Prop := tokenBetweenRow.holds Tryd.pinned (OpenSpec.ofChange tokenBetweenWrong)

/-- 'gimballaw03.TokenBack': WHATEVER THE INPUT: true; the input reads as it did. -/
def tokenBackSpec : ChangeSpec := { name := "tokenBack", fn := fun _ => fun
  | [d] => { results := [.lit (.bool true)], args := [d] }
  | _ => none }
def tokenBackRow : OpenClaim := { program := "yteaegfkgnmfleaadoor", sum := "de3cafbfe8cc7173051977ed5e1e7eb7d010475984876a9b26b365b4cd35b3f5", func := "gimbal/gimballaw03.TokenBack", spec := "tokenBack", inPlace := ["internal/bytealg.IndexByte", "internal/bytealg.Index"], named := ["internal/bytealg.MaxLen", "gimbal/token.words"], apart := false, laid := [("gimbal/token.words", laid_gimbal_token_words)] }
def TokenBackSaid : Prop := tokenBackRow.holds Tryd.pinned (OpenSpec.ofChange tokenBackSpec)

/-- ITS FALSE NEIGHBOUR: 'it returns false'. Refute it at one input. -/
def tokenBackWrong : ChangeSpec := { name := "tokenBack", fn := fun _ => fun
  | [d] => { results := [.lit (.bool false)], args := [d] }
  | _ => none }
def TokenBackWrongFalsely : Prop := tokenBackRow.holds Tryd.pinned (OpenSpec.ofChange tokenBackWrong)

/- THE SECOND FORM. 'bulk': how many values and letters a reading holds, each counted each time it is reached (what is shared counts as often as it is met; a slice's spare places count too). A statement '..UptoSaid' is the law's where the arguments, and the package variables that the reading takes, are together of bulk at most 1048576: NARROWER than '..Said'. Prove '..Said' where nothing that the law and all that it calls make is longer than what came in: it says more and counts as full. Else prove '..UptoSaid'. A law counts once. -/
mutual
def uptoBulk {H : Type} : DataW H → Nat
  | .lit (.string bytes) => bytes.length + 1
  | .lit _ => 1
  | .nil => 1
  | .ptr d => uptoBulk d + 1
  | .slice elems spare => uptoBulkAll elems + uptoBulkAll spare + 1
  | .agg parts => uptoBulkAll parts + 1
  | .iface _ d => uptoBulk d + 1
  | .map entries => uptoBulkEntries entries + 1
  | .held _ => 1
def uptoBulkAll {H : Type} : List (DataW H) → Nat
  | [] => 0
  | d :: r => uptoBulk d + uptoBulkAll r
def uptoBulkEntries {H : Type} : List (Lit × DataW H) → Nat
  | [] => 0
  | x :: r => uptoBulkEntry x + uptoBulkEntries r
def uptoBulkEntry {H : Type} : Lit × DataW H → Nat
  | (.string bytes, d) => bytes.length + uptoBulk d + 1
  | (_, d) => uptoBulk d + 1
 end
def uptoSmall : (H : Type) → List (DataW H) → Bool := fun _ ds => decide (uptoBulkAll ds ≤ 1048576)
def OpenSpec.upto (s : _root_.Go.ChangeSpec) : _root_.Go.OpenSpec := { _root_.Go.OpenSpec.ofChange s with cond := some uptoSmall }

/-- 'gimballaw03.TokenKinds', WHERE WHAT IT READS IS OF BULK AT MOST 1048576: true; the input reads as it did. -/
def tokenKindsUptoRow : OpenClaim := { program := "yteaegfkgnmfleaadoor", sum := "de3cafbfe8cc7173051977ed5e1e7eb7d010475984876a9b26b365b4cd35b3f5", func := "gimbal/gimballaw03.TokenKinds", spec := "tokenKinds", named := ["gimbal/token.words"], apart := false, laid := [("gimbal/token.words", laid_gimbal_token_words)], narrowed := true }
def TokenKindsUptoSaid : Prop := tokenKindsUptoRow.holds Tryd.pinned (OpenSpec.upto tokenKindsSpec)

/-- 'gimballaw03.TokenScans', WHERE WHAT IT READS IS OF BULK AT MOST 1048576: true; the input reads as it did. -/
def tokenScansUptoRow : OpenClaim := { program := "yteaegfkgnmfleaadoor", sum := "de3cafbfe8cc7173051977ed5e1e7eb7d010475984876a9b26b365b4cd35b3f5", func := "gimbal/gimballaw03.TokenScans", spec := "tokenScans", inPlace := ["internal/bytealg.IndexByte", "internal/bytealg.Index"], named := ["internal/bytealg.MaxLen", "gimbal/token.words"], apart := false, laid := [("gimbal/token.words", laid_gimbal_token_words)], narrowed := true }
def TokenScansUptoSaid : Prop := tokenScansUptoRow.holds Tryd.pinned (OpenSpec.upto tokenScansSpec)

/-- 'gimballaw03.TokenBetween', WHERE WHAT IT READS IS OF BULK AT MOST 1048576: true; the input reads as it did. -/
def tokenBetweenUptoRow : OpenClaim := { program := "yteaegfkgnmfleaadoor", sum := "de3cafbfe8cc7173051977ed5e1e7eb7d010475984876a9b26b365b4cd35b3f5", func := "gimbal/gimballaw03.TokenBetween", spec := "tokenBetween", inPlace := ["internal/bytealg.IndexByte", "internal/bytealg.Index"], named := ["internal/bytealg.MaxLen", "gimbal/token.words"], apart := false, laid := [("gimbal/token.words", laid_gimbal_token_words)], narrowed := true }
def TokenBetweenUptoSaid : Prop := tokenBetweenUptoRow.holds Tryd.pinned (OpenSpec.upto tokenBetweenSpec)

/-- 'gimballaw03.TokenBack', WHERE WHAT IT READS IS OF BULK AT MOST 1048576: true; the input reads as it did. -/
def tokenBackUptoRow : OpenClaim := { program := "yteaegfkgnmfleaadoor", sum := "de3cafbfe8cc7173051977ed5e1e7eb7d010475984876a9b26b365b4cd35b3f5", func := "gimbal/gimballaw03.TokenBack", spec := "tokenBack", inPlace := ["internal/bytealg.IndexByte", "internal/bytealg.Index"], named := ["internal/bytealg.MaxLen", "gimbal/token.words"], apart := false, laid := [("gimbal/token.words", laid_gimbal_token_words)], narrowed := true }
def TokenBackUptoSaid : Prop := tokenBackUptoRow.holds Tryd.pinned (OpenSpec.upto tokenBackSpec)

end Rows
end Go.Proofs.YteaegfkgnmfleaaDoor
