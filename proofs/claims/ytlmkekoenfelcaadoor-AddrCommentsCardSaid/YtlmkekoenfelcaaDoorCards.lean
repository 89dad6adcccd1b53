/-
  DERIVED. GIVEN WITH THE SEED: THE CARDS: each row of YtlmkekoenfelcaaDoorRows.lean that lists a variable, with what it lists TIED to the program's text (the seventh form; the later family's looks); each row that meets fmt, with fmt's text TOLD by the authors' own Lean function (tested against real Go, not proved from fmt's source: count such statements apart). THE CARD IS WHAT COUNTS. Prove the row's statement (the work); the ties are given (YtlmkekoenfelcaaDoorTie.lean); close each card by the builder's one call (the guide's Derived/Test/ToyasCard.lean, 'card_holds'). Laid BY PROGRAM, IN A SANDBOX (cutbox-door.mjs). By AI agents, Wed Nov 11 2026. No macro, syntax, notation, axiom, sorry.
-/
import Derived.Test.YtlmkekoenfelcaaDoorRows
import GoSem.ClaimSeven
namespace Go.Proofs.YtlmkekoenfelcaaDoor
namespace Rows

/-- THE TIED CARD OF 'escheatlaw19.AddrReads'. -/
def addrReadsCard : Claim7 := { stood := { row := addrReadsRow, standIns := [], harness := (true, "a05d060cb5d80fd529943f2af78985f83f11bb81ecacfb07773cccb8b4295aac"), looks := false }, kinds := [], alts := [], laidByText := true, laidKinds := [.data, .pinned], laidTests := true, laidLooks := .later }
def AddrReadsCardSaid : Prop := Claim7.holds Tryd.pinned (.plain (OpenSpec.ofChange addrReadsSpec)) addrReadsCard

/-- THE TIED CARD OF 'escheatlaw19.AddrAll'. -/
def addrAllCard : Claim7 := { stood := { row := addrAllRow, standIns := [], harness := (true, "a05d060cb5d80fd529943f2af78985f83f11bb81ecacfb07773cccb8b4295aac"), looks := false }, kinds := [], alts := [], laidByText := true, laidKinds := [.data, .pinned], laidTests := true, laidLooks := .later }
def AddrAllCardSaid : Prop := Claim7.holds Tryd.pinned (.plain (OpenSpec.ofChange addrAllSpec)) addrAllCard

/-- THE TIED CARD OF 'escheatlaw19.AddrPlain'. -/
def addrPlainCard : Claim7 := { stood := { row := addrPlainRow, standIns := [], harness := (true, "a05d060cb5d80fd529943f2af78985f83f11bb81ecacfb07773cccb8b4295aac"), looks := false }, kinds := [], alts := [], laidByText := true, laidKinds := [.data, .pinned], laidTests := true, laidLooks := .later }
def AddrPlainCardSaid : Prop := Claim7.holds Tryd.pinned (.plain (OpenSpec.ofChange addrPlainSpec)) addrPlainCard

/-- THE TIED CARD OF 'escheatlaw19.AddrComments'. -/
def addrCommentsCard : Claim7 := { stood := { row := addrCommentsRow, standIns := [], harness := (true, "a05d060cb5d80fd529943f2af78985f83f11bb81ecacfb07773cccb8b4295aac"), looks := false }, kinds := [], alts := [], laidByText := true, laidKinds := [.data, .pinned], laidTests := true, laidLooks := .later }
def AddrCommentsCardSaid : Prop := Claim7.holds Tryd.pinned (.plain (OpenSpec.ofChange addrCommentsSpec)) addrCommentsCard

/-- THE SECOND FORM's CARD OF 'escheatlaw19.AddrReads'. -/
def addrReadsUptoCard : Claim7 := { stood := { row := addrReadsUptoRow, standIns := [], harness := (true, "a05d060cb5d80fd529943f2af78985f83f11bb81ecacfb07773cccb8b4295aac"), looks := false }, kinds := [], alts := [], laidByText := true, laidKinds := [.data, .pinned], laidTests := true, laidLooks := .later }
def AddrReadsUptoCardSaid : Prop := Claim7.holds Tryd.pinned (.plain (OpenSpec.upto addrReadsSpec)) addrReadsUptoCard

/-- THE SECOND FORM's CARD OF 'escheatlaw19.AddrAll'. -/
def addrAllUptoCard : Claim7 := { stood := { row := addrAllUptoRow, standIns := [], harness := (true, "a05d060cb5d80fd529943f2af78985f83f11bb81ecacfb07773cccb8b4295aac"), looks := false }, kinds := [], alts := [], laidByText := true, laidKinds := [.data, .pinned], laidTests := true, laidLooks := .later }
def AddrAllUptoCardSaid : Prop := Claim7.holds Tryd.pinned (.plain (OpenSpec.upto addrAllSpec)) addrAllUptoCard

/-- THE SECOND FORM's CARD OF 'escheatlaw19.AddrPlain'. -/
def addrPlainUptoCard : Claim7 := { stood := { row := addrPlainUptoRow, standIns := [], harness := (true, "a05d060cb5d80fd529943f2af78985f83f11bb81ecacfb07773cccb8b4295aac"), looks := false }, kinds := [], alts := [], laidByText := true, laidKinds := [.data, .pinned], laidTests := true, laidLooks := .later }
def AddrPlainUptoCardSaid : Prop := Claim7.holds Tryd.pinned (.plain (OpenSpec.upto addrPlainSpec)) addrPlainUptoCard

/-- THE SECOND FORM's CARD OF 'escheatlaw19.AddrComments'. -/
def addrCommentsUptoCard : Claim7 := { stood := { row := addrCommentsUptoRow, standIns := [], harness := (true, "a05d060cb5d80fd529943f2af78985f83f11bb81ecacfb07773cccb8b4295aac"), looks := false }, kinds := [], alts := [], laidByText := true, laidKinds := [.data, .pinned], laidTests := true, laidLooks := .later }
def AddrCommentsUptoCardSaid : Prop := Claim7.holds Tryd.pinned (.plain (OpenSpec.upto addrCommentsSpec)) addrCommentsUptoCard
end Rows
end Go.Proofs.YtlmkekoenfelcaaDoor
