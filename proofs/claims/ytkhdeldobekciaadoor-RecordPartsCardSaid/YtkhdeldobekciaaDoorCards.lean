/-
  DERIVED. GIVEN WITH THE SEED: THE CARDS: each row of YtkhdeldobekciaaDoorRows.lean that lists a variable, with what it lists TIED to the program's text (the seventh form; the later family's looks); each row that meets fmt, with fmt's text TOLD by the authors' own Lean function (tested against real Go, not proved from fmt's source: count such statements apart). THE CARD IS WHAT COUNTS. Prove the row's statement (the work); the ties are given (YtkhdeldobekciaaDoorTie.lean); close each card by the builder's one call (the guide's Derived/Test/ToyasCard.lean, 'card_holds'). Laid BY PROGRAM, IN A SANDBOX (cutbox-door.mjs). By AI agents, Wed Nov 11 2026. No macro, syntax, notation, axiom, sorry.
-/
import Derived.Test.YtkhdeldobekciaaDoorRows
import GoSem.ClaimSeven
namespace Go.Proofs.YtkhdeldobekciaaDoor
namespace Rows

/-- THE TIED CARD OF 'escheatlaw15.RecordLinks'. -/
def recordLinksCard : Claim7 := { stood := { row := recordLinksRow, standIns := [], harness := (true, "83b29ade964f602d5acb9a1f29931d01896658d6378ebdd08415fb267086c5b5"), looks := false }, kinds := [], alts := [], laidByText := true, laidKinds := [.data, .data, .data, .data, .data, .data, .pinned, .pinned], laidTests := true, laidLooks := .later }
def RecordLinksCardSaid : Prop := Claim7.holds Tryd.pinned (.plain (OpenSpec.ofChange recordLinksSpec)) recordLinksCard

/-- THE TIED CARD OF 'escheatlaw15.RecordParts'. -/
def recordPartsCard : Claim7 := { stood := { row := recordPartsRow, standIns := [], harness := (true, "83b29ade964f602d5acb9a1f29931d01896658d6378ebdd08415fb267086c5b5"), looks := false }, kinds := [], alts := [], laidByText := true, laidKinds := [.data, .data, .data, .data, .data, .data, .pinned, .pinned], laidTests := true, laidLooks := .later }
def RecordPartsCardSaid : Prop := Claim7.holds Tryd.pinned (.plain (OpenSpec.ofChange recordPartsSpec)) recordPartsCard

/-- THE SECOND FORM's CARD OF 'escheatlaw15.RecordLinks'. -/
def recordLinksUptoCard : Claim7 := { stood := { row := recordLinksUptoRow, standIns := [], harness := (true, "83b29ade964f602d5acb9a1f29931d01896658d6378ebdd08415fb267086c5b5"), looks := false }, kinds := [], alts := [], laidByText := true, laidKinds := [.data, .data, .data, .data, .data, .data, .pinned, .pinned], laidTests := true, laidLooks := .later }
def RecordLinksUptoCardSaid : Prop := Claim7.holds Tryd.pinned (.plain (OpenSpec.upto recordLinksSpec)) recordLinksUptoCard

/-- THE SECOND FORM's CARD OF 'escheatlaw15.RecordParts'. -/
def recordPartsUptoCard : Claim7 := { stood := { row := recordPartsUptoRow, standIns := [], harness := (true, "83b29ade964f602d5acb9a1f29931d01896658d6378ebdd08415fb267086c5b5"), looks := false }, kinds := [], alts := [], laidByText := true, laidKinds := [.data, .data, .data, .data, .data, .data, .pinned, .pinned], laidTests := true, laidLooks := .later }
def RecordPartsUptoCardSaid : Prop := Claim7.holds Tryd.pinned (.plain (OpenSpec.upto recordPartsSpec)) recordPartsUptoCard
end Rows
end Go.Proofs.YtkhdeldobekciaaDoor
