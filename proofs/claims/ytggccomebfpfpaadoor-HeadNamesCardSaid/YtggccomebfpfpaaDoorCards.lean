/-
  DERIVED. GIVEN WITH THE SEED: THE CARDS: each row of YtggccomebfpfpaaDoorRows.lean that lists a variable, with what it lists TIED to the program's text (the seventh form; the later family's looks); each row that meets fmt, with fmt's text TOLD by the authors' own Lean function (tested against real Go, not proved from fmt's source: count such statements apart). THE CARD IS WHAT COUNTS. Prove the row's statement (the work); the ties are given (YtggccomebfpfpaaDoorTie.lean); close each card by the builder's one call (the guide's Derived/Test/ToyasCard.lean, 'card_holds'). Laid BY PROGRAM, IN A SANDBOX (cutbox-door.mjs). By AI agents, Wed Nov 11 2026. No macro, syntax, notation, axiom, sorry.
-/
import Derived.Test.YtggccomebfpfpaaDoorRows
import GoSem.ClaimSeven
namespace Go.Proofs.YtggccomebfpfpaaDoor
namespace Rows

/-- THE TIED CARD OF 'escheatlaw18.HeadReads'. -/
def headReadsCard : Claim7 := { stood := { row := headReadsRow, standIns := [], harness := (true, "a44cec0a8e73563d5a6a92cced93dfbe292868c51fc90d57c21eaa046bcdad7f"), looks := false }, kinds := [], alts := [], laidByText := true, laidKinds := [.data, .pinned], laidTests := true, laidLooks := .later }
def HeadReadsCardSaid : Prop := Claim7.holds Tryd.pinned (.plain (OpenSpec.ofChange headReadsSpec)) headReadsCard

/-- THE TIED CARD OF 'escheatlaw18.HeadOnly'. -/
def headOnlyCard : Claim7 := { stood := { row := headOnlyRow, standIns := [], harness := (true, "a44cec0a8e73563d5a6a92cced93dfbe292868c51fc90d57c21eaa046bcdad7f"), looks := false }, kinds := [], alts := [], laidByText := true, laidKinds := [.data, .pinned], laidTests := true, laidLooks := .later }
def HeadOnlyCardSaid : Prop := Claim7.holds Tryd.pinned (.plain (OpenSpec.ofChange headOnlySpec)) headOnlyCard

/-- THE TIED CARD OF 'escheatlaw18.HeadSide'. -/
def headSideCard : Claim7 := { stood := { row := headSideRow, standIns := [], harness := (true, "a44cec0a8e73563d5a6a92cced93dfbe292868c51fc90d57c21eaa046bcdad7f"), looks := false }, kinds := [], alts := [], laidByText := true, laidKinds := [.data, .pinned], laidTests := true, laidLooks := .later }
def HeadSideCardSaid : Prop := Claim7.holds Tryd.pinned (.plain (OpenSpec.ofChange headSideSpec)) headSideCard

/-- THE TIED CARD OF 'escheatlaw18.HeadNames'. -/
def headNamesCard : Claim7 := { stood := { row := headNamesRow, standIns := [], harness := (true, "a44cec0a8e73563d5a6a92cced93dfbe292868c51fc90d57c21eaa046bcdad7f"), looks := false }, kinds := [], alts := [], laidByText := true, laidKinds := [.data, .pinned], laidTests := true, laidLooks := .later }
def HeadNamesCardSaid : Prop := Claim7.holds Tryd.pinned (.plain (OpenSpec.ofChange headNamesSpec)) headNamesCard

/-- THE SECOND FORM's CARD OF 'escheatlaw18.HeadReads'. -/
def headReadsUptoCard : Claim7 := { stood := { row := headReadsUptoRow, standIns := [], harness := (true, "a44cec0a8e73563d5a6a92cced93dfbe292868c51fc90d57c21eaa046bcdad7f"), looks := false }, kinds := [], alts := [], laidByText := true, laidKinds := [.data, .pinned], laidTests := true, laidLooks := .later }
def HeadReadsUptoCardSaid : Prop := Claim7.holds Tryd.pinned (.plain (OpenSpec.upto headReadsSpec)) headReadsUptoCard

/-- THE SECOND FORM's CARD OF 'escheatlaw18.HeadOnly'. -/
def headOnlyUptoCard : Claim7 := { stood := { row := headOnlyUptoRow, standIns := [], harness := (true, "a44cec0a8e73563d5a6a92cced93dfbe292868c51fc90d57c21eaa046bcdad7f"), looks := false }, kinds := [], alts := [], laidByText := true, laidKinds := [.data, .pinned], laidTests := true, laidLooks := .later }
def HeadOnlyUptoCardSaid : Prop := Claim7.holds Tryd.pinned (.plain (OpenSpec.upto headOnlySpec)) headOnlyUptoCard

/-- THE SECOND FORM's CARD OF 'escheatlaw18.HeadSide'. -/
def headSideUptoCard : Claim7 := { stood := { row := headSideUptoRow, standIns := [], harness := (true, "a44cec0a8e73563d5a6a92cced93dfbe292868c51fc90d57c21eaa046bcdad7f"), looks := false }, kinds := [], alts := [], laidByText := true, laidKinds := [.data, .pinned], laidTests := true, laidLooks := .later }
def HeadSideUptoCardSaid : Prop := Claim7.holds Tryd.pinned (.plain (OpenSpec.upto headSideSpec)) headSideUptoCard

/-- THE SECOND FORM's CARD OF 'escheatlaw18.HeadNames'. -/
def headNamesUptoCard : Claim7 := { stood := { row := headNamesUptoRow, standIns := [], harness := (true, "a44cec0a8e73563d5a6a92cced93dfbe292868c51fc90d57c21eaa046bcdad7f"), looks := false }, kinds := [], alts := [], laidByText := true, laidKinds := [.data, .pinned], laidTests := true, laidLooks := .later }
def HeadNamesUptoCardSaid : Prop := Claim7.holds Tryd.pinned (.plain (OpenSpec.upto headNamesSpec)) headNamesUptoCard
end Rows
end Go.Proofs.YtggccomebfpfpaaDoor
