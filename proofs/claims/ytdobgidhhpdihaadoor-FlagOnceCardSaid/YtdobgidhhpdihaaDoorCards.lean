/-
  DERIVED. GIVEN WITH THE SEED: THE CARDS: each row of YtdobgidhhpdihaaDoorRows.lean that lists a variable, with what it lists TIED to the program's text (the seventh form; the later family's looks); each row that meets fmt, with fmt's text TOLD by the authors' own Lean function (tested against real Go, not proved from fmt's source: count such statements apart). THE CARD IS WHAT COUNTS. Prove the row's statement (the work); the ties are given (YtdobgidhhpdihaaDoorTie.lean); close each card by the builder's one call (the guide's Derived/Test/ToyasCard.lean, 'card_holds'). Laid BY PROGRAM, IN A SANDBOX (cutbox-door.mjs). By AI agents, Wed Nov 11 2026. No macro, syntax, notation, axiom, sorry.
-/
import Derived.Test.YtdobgidhhpdihaaDoorRows
import GoSem.ClaimSeven
namespace Go.Proofs.YtdobgidhhpdihaaDoor
namespace Rows

/-- THE TIED CARD OF 'escheatlaw08.FlagOnce'. -/
def flagOnceCard : Claim7 := { stood := { row := flagOnceRow, standIns := [], harness := (true, "b777a2ac1c3d8abfddc602a0fea8972877cfb8d3be3ce6eeb3ad9c264d6195ef"), looks := false }, kinds := [], alts := [], laidByText := true, laidKinds := [.data, .data, .data, .data, .pinned, .pinned], laidTests := true, laidLooks := .later }
def FlagOnceCardSaid : Prop := Claim7.holds Tryd.pinned (.plain (OpenSpec.ofChange flagOnceSpec)) flagOnceCard

/-- THE TIED CARD OF 'escheatlaw08.FlagAsks'. -/
def flagAsksCard : Claim7 := { stood := { row := flagAsksRow, standIns := [], harness := (true, "b777a2ac1c3d8abfddc602a0fea8972877cfb8d3be3ce6eeb3ad9c264d6195ef"), looks := false }, kinds := [], alts := [], laidByText := true, laidKinds := [.data, .data, .data, .data, .pinned, .pinned], laidTests := true, laidLooks := .later }
def FlagAsksCardSaid : Prop := Claim7.holds Tryd.pinned (.plain (OpenSpec.ofChange flagAsksSpec)) flagAsksCard

/-- THE TIED CARD OF 'escheatlaw08.FlagBack'. -/
def flagBackCard : Claim7 := { stood := { row := flagBackRow, standIns := [], harness := (true, "b777a2ac1c3d8abfddc602a0fea8972877cfb8d3be3ce6eeb3ad9c264d6195ef"), looks := false }, kinds := [], alts := [], laidByText := true, laidKinds := [.data, .data, .data, .data, .pinned, .pinned], laidTests := true, laidLooks := .later }
def FlagBackCardSaid : Prop := Claim7.holds Tryd.pinned (.plain (OpenSpec.ofChange flagBackSpec)) flagBackCard

/-- THE SECOND FORM's CARD OF 'escheatlaw08.FlagOnce'. -/
def flagOnceUptoCard : Claim7 := { stood := { row := flagOnceUptoRow, standIns := [], harness := (true, "b777a2ac1c3d8abfddc602a0fea8972877cfb8d3be3ce6eeb3ad9c264d6195ef"), looks := false }, kinds := [], alts := [], laidByText := true, laidKinds := [.data, .data, .data, .data, .pinned, .pinned], laidTests := true, laidLooks := .later }
def FlagOnceUptoCardSaid : Prop := Claim7.holds Tryd.pinned (.plain (OpenSpec.upto flagOnceSpec)) flagOnceUptoCard

/-- THE SECOND FORM's CARD OF 'escheatlaw08.FlagAsks'. -/
def flagAsksUptoCard : Claim7 := { stood := { row := flagAsksUptoRow, standIns := [], harness := (true, "b777a2ac1c3d8abfddc602a0fea8972877cfb8d3be3ce6eeb3ad9c264d6195ef"), looks := false }, kinds := [], alts := [], laidByText := true, laidKinds := [.data, .data, .data, .data, .pinned, .pinned], laidTests := true, laidLooks := .later }
def FlagAsksUptoCardSaid : Prop := Claim7.holds Tryd.pinned (.plain (OpenSpec.upto flagAsksSpec)) flagAsksUptoCard

/-- THE SECOND FORM's CARD OF 'escheatlaw08.FlagBack'. -/
def flagBackUptoCard : Claim7 := { stood := { row := flagBackUptoRow, standIns := [], harness := (true, "b777a2ac1c3d8abfddc602a0fea8972877cfb8d3be3ce6eeb3ad9c264d6195ef"), looks := false }, kinds := [], alts := [], laidByText := true, laidKinds := [.data, .data, .data, .data, .pinned, .pinned], laidTests := true, laidLooks := .later }
def FlagBackUptoCardSaid : Prop := Claim7.holds Tryd.pinned (.plain (OpenSpec.upto flagBackSpec)) flagBackUptoCard
end Rows
end Go.Proofs.YtdobgidhhpdihaaDoor
