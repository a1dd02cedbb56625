/-
  DERIVED. GIVEN WITH THE SEED: THE CARDS: each row of YtfmmjekhknaniaaDoorRows.lean that lists a variable, with what it lists TIED to the program's text (the seventh form; the later family's looks); each row that meets fmt, with fmt's text TOLD by the authors' own Lean function (tested against real Go, not proved from fmt's source: count such statements apart). THE CARD IS WHAT COUNTS. Prove the row's statement (the work); the ties are given (YtfmmjekhknaniaaDoorTie.lean); close each card by the builder's one call (the guide's Derived/Test/ToyasCard.lean, 'card_holds'). Laid BY PROGRAM, IN A SANDBOX (cutbox-door.mjs). By AI agents, Wed Nov 11 2026. No macro, syntax, notation, axiom, sorry.
-/
import Derived.Test.YtfmmjekhknaniaaDoorRows
import GoSem.ClaimSeven
namespace Go.Proofs.YtfmmjekhknaniaaDoor
namespace Rows

/-- THE TIED CARD OF 'gimballaw31.CongrMakes'. -/
def congrMakesCard : Claim7 := { stood := { row := congrMakesRow, standIns := [], harness := (true, "86e014f2181f6e872f8eccd30f28c7969f8d95ab954faf32e7ea1e42af34415f"), looks := false }, kinds := [], alts := [], laidByText := true, laidKinds := [.data, .data, .data, .data], laidTests := true, laidLooks := .later }
def CongrMakesCardSaid : Prop := Claim7.holds Tryd.pinned (.plain (OpenSpec.ofChange congrMakesSpec)) congrMakesCard

/-- THE TIED CARD OF 'gimballaw31.CongrShort'. -/
def congrShortCard : Claim7 := { stood := { row := congrShortRow, standIns := [], harness := (true, "86e014f2181f6e872f8eccd30f28c7969f8d95ab954faf32e7ea1e42af34415f"), looks := false }, kinds := [], alts := [], laidByText := true, laidKinds := [.data, .data, .data, .data], laidTests := true, laidLooks := .later }
def CongrShortCardSaid : Prop := Claim7.holds Tryd.pinned (.plain (OpenSpec.ofChange congrShortSpec)) congrShortCard

/-- THE TIED CARD OF 'gimballaw31.CongrLattice'. -/
def congrLatticeCard : Claim7 := { stood := { row := congrLatticeRow, standIns := [], harness := (true, "86e014f2181f6e872f8eccd30f28c7969f8d95ab954faf32e7ea1e42af34415f"), looks := false }, kinds := [], alts := [], laidByText := true, laidKinds := [.data, .data, .data, .data], laidTests := true, laidLooks := .later }
def CongrLatticeCardSaid : Prop := Claim7.holds Tryd.pinned (.plain (OpenSpec.ofChange congrLatticeSpec)) congrLatticeCard

/-- THE TIED CARD OF 'gimballaw31.CongrTests'. -/
def congrTestsCard : Claim7 := { stood := { row := congrTestsRow, standIns := [], harness := (true, "86e014f2181f6e872f8eccd30f28c7969f8d95ab954faf32e7ea1e42af34415f"), looks := false }, kinds := [], alts := [], laidByText := true, laidKinds := [.data, .data, .data, .data], laidTests := true, laidLooks := .later }
def CongrTestsCardSaid : Prop := Claim7.holds Tryd.pinned (.plain (OpenSpec.ofChange congrTestsSpec)) congrTestsCard

/-- THE TIED CARD OF 'gimballaw31.CongrReckons'. -/
def congrReckonsCard : Claim7 := { stood := { row := congrReckonsRow, standIns := [], harness := (true, "86e014f2181f6e872f8eccd30f28c7969f8d95ab954faf32e7ea1e42af34415f"), looks := false }, kinds := [], alts := [], laidByText := true, laidKinds := [.data, .data, .data, .data], laidTests := true, laidLooks := .later }
def CongrReckonsCardSaid : Prop := Claim7.holds Tryd.pinned (.plain (OpenSpec.ofChange congrReckonsSpec)) congrReckonsCard

/-- THE TIED CARD OF 'gimballaw31.CongrSound'. -/
def congrSoundCard : Claim7 := { stood := { row := congrSoundRow, standIns := [], harness := (true, "86e014f2181f6e872f8eccd30f28c7969f8d95ab954faf32e7ea1e42af34415f"), looks := false }, kinds := [], alts := [], laidByText := true, laidKinds := [.data, .data, .data, .data], laidTests := true, laidLooks := .later }
def CongrSoundCardSaid : Prop := Claim7.holds Tryd.pinned (.plain (OpenSpec.ofChange congrSoundSpec)) congrSoundCard

/-- THE TIED CARD OF 'gimballaw31.CongrMonotone'. -/
def congrMonotoneCard : Claim7 := { stood := { row := congrMonotoneRow, standIns := [], harness := (true, "86e014f2181f6e872f8eccd30f28c7969f8d95ab954faf32e7ea1e42af34415f"), looks := false }, kinds := [], alts := [], laidByText := true, laidKinds := [.data, .data, .data, .data], laidTests := true, laidLooks := .later }
def CongrMonotoneCardSaid : Prop := Claim7.holds Tryd.pinned (.plain (OpenSpec.ofChange congrMonotoneSpec)) congrMonotoneCard

/-- THE SECOND FORM's CARD OF 'gimballaw31.CongrMakes'. -/
def congrMakesUptoCard : Claim7 := { stood := { row := congrMakesUptoRow, standIns := [], harness := (true, "86e014f2181f6e872f8eccd30f28c7969f8d95ab954faf32e7ea1e42af34415f"), looks := false }, kinds := [], alts := [], laidByText := true, laidKinds := [.data, .data, .data, .data], laidTests := true, laidLooks := .later }
def CongrMakesUptoCardSaid : Prop := Claim7.holds Tryd.pinned (.plain (OpenSpec.upto congrMakesSpec)) congrMakesUptoCard

/-- THE SECOND FORM's CARD OF 'gimballaw31.CongrShort'. -/
def congrShortUptoCard : Claim7 := { stood := { row := congrShortUptoRow, standIns := [], harness := (true, "86e014f2181f6e872f8eccd30f28c7969f8d95ab954faf32e7ea1e42af34415f"), looks := false }, kinds := [], alts := [], laidByText := true, laidKinds := [.data, .data, .data, .data], laidTests := true, laidLooks := .later }
def CongrShortUptoCardSaid : Prop := Claim7.holds Tryd.pinned (.plain (OpenSpec.upto congrShortSpec)) congrShortUptoCard

/-- THE SECOND FORM's CARD OF 'gimballaw31.CongrLattice'. -/
def congrLatticeUptoCard : Claim7 := { stood := { row := congrLatticeUptoRow, standIns := [], harness := (true, "86e014f2181f6e872f8eccd30f28c7969f8d95ab954faf32e7ea1e42af34415f"), looks := false }, kinds := [], alts := [], laidByText := true, laidKinds := [.data, .data, .data, .data], laidTests := true, laidLooks := .later }
def CongrLatticeUptoCardSaid : Prop := Claim7.holds Tryd.pinned (.plain (OpenSpec.upto congrLatticeSpec)) congrLatticeUptoCard

/-- THE SECOND FORM's CARD OF 'gimballaw31.CongrTests'. -/
def congrTestsUptoCard : Claim7 := { stood := { row := congrTestsUptoRow, standIns := [], harness := (true, "86e014f2181f6e872f8eccd30f28c7969f8d95ab954faf32e7ea1e42af34415f"), looks := false }, kinds := [], alts := [], laidByText := true, laidKinds := [.data, .data, .data, .data], laidTests := true, laidLooks := .later }
def CongrTestsUptoCardSaid : Prop := Claim7.holds Tryd.pinned (.plain (OpenSpec.upto congrTestsSpec)) congrTestsUptoCard

/-- THE SECOND FORM's CARD OF 'gimballaw31.CongrReckons'. -/
def congrReckonsUptoCard : Claim7 := { stood := { row := congrReckonsUptoRow, standIns := [], harness := (true, "86e014f2181f6e872f8eccd30f28c7969f8d95ab954faf32e7ea1e42af34415f"), looks := false }, kinds := [], alts := [], laidByText := true, laidKinds := [.data, .data, .data, .data], laidTests := true, laidLooks := .later }
def CongrReckonsUptoCardSaid : Prop := Claim7.holds Tryd.pinned (.plain (OpenSpec.upto congrReckonsSpec)) congrReckonsUptoCard

/-- THE SECOND FORM's CARD OF 'gimballaw31.CongrSound'. -/
def congrSoundUptoCard : Claim7 := { stood := { row := congrSoundUptoRow, standIns := [], harness := (true, "86e014f2181f6e872f8eccd30f28c7969f8d95ab954faf32e7ea1e42af34415f"), looks := false }, kinds := [], alts := [], laidByText := true, laidKinds := [.data, .data, .data, .data], laidTests := true, laidLooks := .later }
def CongrSoundUptoCardSaid : Prop := Claim7.holds Tryd.pinned (.plain (OpenSpec.upto congrSoundSpec)) congrSoundUptoCard

/-- THE SECOND FORM's CARD OF 'gimballaw31.CongrMonotone'. -/
def congrMonotoneUptoCard : Claim7 := { stood := { row := congrMonotoneUptoRow, standIns := [], harness := (true, "86e014f2181f6e872f8eccd30f28c7969f8d95ab954faf32e7ea1e42af34415f"), looks := false }, kinds := [], alts := [], laidByText := true, laidKinds := [.data, .data, .data, .data], laidTests := true, laidLooks := .later }
def CongrMonotoneUptoCardSaid : Prop := Claim7.holds Tryd.pinned (.plain (OpenSpec.upto congrMonotoneSpec)) congrMonotoneUptoCard
end Rows
end Go.Proofs.YtfmmjekhknaniaaDoor
