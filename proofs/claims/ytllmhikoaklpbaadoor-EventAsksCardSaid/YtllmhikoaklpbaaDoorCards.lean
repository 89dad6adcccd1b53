/-
  DERIVED. GIVEN WITH THE SEED: THE CARDS: each row of YtllmhikoaklpbaaDoorRows.lean that lists a variable, with what it lists TIED to the program's text (the seventh form; the later family's looks); each row that meets fmt, with fmt's text TOLD by the authors' own Lean function (tested against real Go, not proved from fmt's source: count such statements apart). THE CARD IS WHAT COUNTS. Prove the row's statement (the work); the ties are given (YtllmhikoaklpbaaDoorTie.lean); close each card by the builder's one call (the guide's Derived/Test/ToyasCard.lean, 'card_holds'). Laid BY PROGRAM, IN A SANDBOX (cutbox-door.mjs). By AI agents, Wed Nov 11 2026. No macro, syntax, notation, axiom, sorry.
-/
import Derived.Test.YtllmhikoaklpbaaDoorRows
import GoSem.ClaimSeven
namespace Go.Proofs.YtllmhikoaklpbaaDoor
namespace Rows

/-- THE TIED CARD OF 'escheatlaw12.EventReads'. -/
def eventReadsCard : Claim7 := { stood := { row := eventReadsRow, standIns := [], harness := (true, "ce0b18a71e9b74cb6c0655e7ca977d598959b48ffc01a042c1122b7c3a3fcfe3"), looks := false }, kinds := [], alts := [], laidByText := true, laidKinds := [.data, .data, .data, .data, .pinned, .pinned], laidTests := true, laidLooks := .later }
def EventReadsCardSaid : Prop := Claim7.holds Tryd.pinned (.plain (OpenSpec.ofChange eventReadsSpec)) eventReadsCard

/-- THE TIED CARD OF 'escheatlaw12.EventBack'. -/
def eventBackCard : Claim7 := { stood := { row := eventBackRow, standIns := [], harness := (true, "ce0b18a71e9b74cb6c0655e7ca977d598959b48ffc01a042c1122b7c3a3fcfe3"), looks := false }, kinds := [], alts := [], laidByText := true, laidKinds := [.data, .data, .data, .data, .pinned, .pinned], laidTests := true, laidLooks := .later }
def EventBackCardSaid : Prop := Claim7.holds Tryd.pinned (.plain (OpenSpec.ofChange eventBackSpec)) eventBackCard

/-- THE TIED CARD OF 'escheatlaw12.EventEnds'. -/
def eventEndsCard : Claim7 := { stood := { row := eventEndsRow, standIns := [], harness := (true, "ce0b18a71e9b74cb6c0655e7ca977d598959b48ffc01a042c1122b7c3a3fcfe3"), looks := false }, kinds := [], alts := [], laidByText := true, laidKinds := [.data, .data, .data, .data, .pinned, .pinned], laidTests := true, laidLooks := .later }
def EventEndsCardSaid : Prop := Claim7.holds Tryd.pinned (.plain (OpenSpec.ofChange eventEndsSpec)) eventEndsCard

/-- THE TIED CARD OF 'escheatlaw12.EventAsks'. -/
def eventAsksCard : Claim7 := { stood := { row := eventAsksRow, standIns := [], harness := (true, "ce0b18a71e9b74cb6c0655e7ca977d598959b48ffc01a042c1122b7c3a3fcfe3"), looks := false }, kinds := [], alts := [], laidByText := true, laidKinds := [.data, .data, .data, .data, .pinned, .pinned], laidTests := true, laidLooks := .later }
def EventAsksCardSaid : Prop := Claim7.holds Tryd.pinned (.plain (OpenSpec.ofChange eventAsksSpec)) eventAsksCard

/-- THE SECOND FORM's CARD OF 'escheatlaw12.EventReads'. -/
def eventReadsUptoCard : Claim7 := { stood := { row := eventReadsUptoRow, standIns := [], harness := (true, "ce0b18a71e9b74cb6c0655e7ca977d598959b48ffc01a042c1122b7c3a3fcfe3"), looks := false }, kinds := [], alts := [], laidByText := true, laidKinds := [.data, .data, .data, .data, .pinned, .pinned], laidTests := true, laidLooks := .later }
def EventReadsUptoCardSaid : Prop := Claim7.holds Tryd.pinned (.plain (OpenSpec.upto eventReadsSpec)) eventReadsUptoCard

/-- THE SECOND FORM's CARD OF 'escheatlaw12.EventBack'. -/
def eventBackUptoCard : Claim7 := { stood := { row := eventBackUptoRow, standIns := [], harness := (true, "ce0b18a71e9b74cb6c0655e7ca977d598959b48ffc01a042c1122b7c3a3fcfe3"), looks := false }, kinds := [], alts := [], laidByText := true, laidKinds := [.data, .data, .data, .data, .pinned, .pinned], laidTests := true, laidLooks := .later }
def EventBackUptoCardSaid : Prop := Claim7.holds Tryd.pinned (.plain (OpenSpec.upto eventBackSpec)) eventBackUptoCard

/-- THE SECOND FORM's CARD OF 'escheatlaw12.EventEnds'. -/
def eventEndsUptoCard : Claim7 := { stood := { row := eventEndsUptoRow, standIns := [], harness := (true, "ce0b18a71e9b74cb6c0655e7ca977d598959b48ffc01a042c1122b7c3a3fcfe3"), looks := false }, kinds := [], alts := [], laidByText := true, laidKinds := [.data, .data, .data, .data, .pinned, .pinned], laidTests := true, laidLooks := .later }
def EventEndsUptoCardSaid : Prop := Claim7.holds Tryd.pinned (.plain (OpenSpec.upto eventEndsSpec)) eventEndsUptoCard

/-- THE SECOND FORM's CARD OF 'escheatlaw12.EventAsks'. -/
def eventAsksUptoCard : Claim7 := { stood := { row := eventAsksUptoRow, standIns := [], harness := (true, "ce0b18a71e9b74cb6c0655e7ca977d598959b48ffc01a042c1122b7c3a3fcfe3"), looks := false }, kinds := [], alts := [], laidByText := true, laidKinds := [.data, .data, .data, .data, .pinned, .pinned], laidTests := true, laidLooks := .later }
def EventAsksUptoCardSaid : Prop := Claim7.holds Tryd.pinned (.plain (OpenSpec.upto eventAsksSpec)) eventAsksUptoCard
end Rows
end Go.Proofs.YtllmhikoaklpbaaDoor
