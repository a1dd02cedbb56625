/-
  DERIVED. GIVEN WITH THE SEED: THE CARDS: each row of YteaegfkgnmfleaaDoorRows.lean that lists a variable, with what it lists TIED to the program's text (the seventh form; the later family's looks); each row that meets fmt, with fmt's text TOLD by the authors' own Lean function (tested against real Go, not proved from fmt's source: count such statements apart). THE CARD IS WHAT COUNTS. Prove the row's statement (the work); the ties are given (YteaegfkgnmfleaaDoorTie.lean); close each card by the builder's one call (the guide's Derived/Test/ToyasCard.lean, 'card_holds'). Laid BY PROGRAM, IN A SANDBOX (cutbox-door.mjs). By AI agents, Wed Nov 11 2026. No macro, syntax, notation, axiom, sorry.
-/
import Derived.Test.YteaegfkgnmfleaaDoorRows
import GoSem.ClaimSeven
namespace Go.Proofs.YteaegfkgnmfleaaDoor
namespace Rows

/-- THE TIED CARD OF 'gimballaw03.TokenKinds'. -/
def tokenKindsCard : Claim7 := { stood := { row := tokenKindsRow, standIns := [], harness := (true, "53987d3e847bcf3314647217e2798e4ab7e6a3cafdf9823ce7a6186333c84eee"), looks := false }, kinds := [], alts := [], laidByText := true, laidKinds := [.data], laidTests := true, laidLooks := .later }
def TokenKindsCardSaid : Prop := Claim7.holds Tryd.pinned (.plain (OpenSpec.ofChange tokenKindsSpec)) tokenKindsCard

/-- THE TIED CARD OF 'gimballaw03.TokenScans'. -/
def tokenScansCard : Claim7 := { stood := { row := tokenScansRow, standIns := [], harness := (true, "53987d3e847bcf3314647217e2798e4ab7e6a3cafdf9823ce7a6186333c84eee"), looks := false }, kinds := [], alts := [], laidByText := true, laidKinds := [.data], laidTests := true, laidLooks := .later }
def TokenScansCardSaid : Prop := Claim7.holds Tryd.pinned (.plain (OpenSpec.ofChange tokenScansSpec)) tokenScansCard

/-- THE TIED CARD OF 'gimballaw03.TokenBetween'. -/
def tokenBetweenCard : Claim7 := { stood := { row := tokenBetweenRow, standIns := [], harness := (true, "53987d3e847bcf3314647217e2798e4ab7e6a3cafdf9823ce7a6186333c84eee"), looks := false }, kinds := [], alts := [], laidByText := true, laidKinds := [.data], laidTests := true, laidLooks := .later }
def TokenBetweenCardSaid : Prop := Claim7.holds Tryd.pinned (.plain (OpenSpec.ofChange tokenBetweenSpec)) tokenBetweenCard

/-- THE TIED CARD OF 'gimballaw03.TokenBack'. -/
def tokenBackCard : Claim7 := { stood := { row := tokenBackRow, standIns := [], harness := (true, "53987d3e847bcf3314647217e2798e4ab7e6a3cafdf9823ce7a6186333c84eee"), looks := false }, kinds := [], alts := [], laidByText := true, laidKinds := [.data], laidTests := true, laidLooks := .later }
def TokenBackCardSaid : Prop := Claim7.holds Tryd.pinned (.plain (OpenSpec.ofChange tokenBackSpec)) tokenBackCard

/-- THE SECOND FORM's CARD OF 'gimballaw03.TokenKinds'. -/
def tokenKindsUptoCard : Claim7 := { stood := { row := tokenKindsUptoRow, standIns := [], harness := (true, "53987d3e847bcf3314647217e2798e4ab7e6a3cafdf9823ce7a6186333c84eee"), looks := false }, kinds := [], alts := [], laidByText := true, laidKinds := [.data], laidTests := true, laidLooks := .later }
def TokenKindsUptoCardSaid : Prop := Claim7.holds Tryd.pinned (.plain (OpenSpec.upto tokenKindsSpec)) tokenKindsUptoCard

/-- THE SECOND FORM's CARD OF 'gimballaw03.TokenScans'. -/
def tokenScansUptoCard : Claim7 := { stood := { row := tokenScansUptoRow, standIns := [], harness := (true, "53987d3e847bcf3314647217e2798e4ab7e6a3cafdf9823ce7a6186333c84eee"), looks := false }, kinds := [], alts := [], laidByText := true, laidKinds := [.data], laidTests := true, laidLooks := .later }
def TokenScansUptoCardSaid : Prop := Claim7.holds Tryd.pinned (.plain (OpenSpec.upto tokenScansSpec)) tokenScansUptoCard

/-- THE SECOND FORM's CARD OF 'gimballaw03.TokenBetween'. -/
def tokenBetweenUptoCard : Claim7 := { stood := { row := tokenBetweenUptoRow, standIns := [], harness := (true, "53987d3e847bcf3314647217e2798e4ab7e6a3cafdf9823ce7a6186333c84eee"), looks := false }, kinds := [], alts := [], laidByText := true, laidKinds := [.data], laidTests := true, laidLooks := .later }
def TokenBetweenUptoCardSaid : Prop := Claim7.holds Tryd.pinned (.plain (OpenSpec.upto tokenBetweenSpec)) tokenBetweenUptoCard

/-- THE SECOND FORM's CARD OF 'gimballaw03.TokenBack'. -/
def tokenBackUptoCard : Claim7 := { stood := { row := tokenBackUptoRow, standIns := [], harness := (true, "53987d3e847bcf3314647217e2798e4ab7e6a3cafdf9823ce7a6186333c84eee"), looks := false }, kinds := [], alts := [], laidByText := true, laidKinds := [.data], laidTests := true, laidLooks := .later }
def TokenBackUptoCardSaid : Prop := Claim7.holds Tryd.pinned (.plain (OpenSpec.upto tokenBackSpec)) tokenBackUptoCard
end Rows
end Go.Proofs.YteaegfkgnmfleaaDoor
