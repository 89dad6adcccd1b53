/-
  DERIVED. GIVEN WITH THE SEED: THE CARDS: each row of YtaaonbnjghjhlaaDoorRows.lean that lists a variable, with what it lists TIED to the program's text (the seventh form; the later family's looks); each row that meets fmt, with fmt's text TOLD by the authors' own Lean function (tested against real Go, not proved from fmt's source: count such statements apart). THE CARD IS WHAT COUNTS. Prove the row's statement (the work); the ties are given (YtaaonbnjghjhlaaDoorTie.lean); close each card by the builder's one call (the guide's Derived/Test/ToyasCard.lean, 'card_holds'). Laid BY PROGRAM, IN A SANDBOX (cutbox-door.mjs). By AI agents, Wed Nov 11 2026. No macro, syntax, notation, axiom, sorry.
-/
import Derived.Test.YtaaonbnjghjhlaaDoorRows
import GoSem.ClaimSeven
namespace Go.Proofs.YtaaonbnjghjhlaaDoor
namespace Rows

/-- THE TIED CARD OF 'escheatlaw10.NameCleans'. -/
def nameCleansCard : Claim7 := { stood := { row := nameCleansRow, standIns := [], harness := (true, "4b78a1c6bbf9ed4734b6a724ecdc24936c2d60d3c673846f4d552753ac40196a"), looks := false }, kinds := [], alts := [], laidByText := true, laidKinds := [.data, .data, .data, .pinned, .pinned], laidTests := true, laidLooks := .later }
def NameCleansCardSaid : Prop := Claim7.holds Tryd.pinned (.plain (OpenSpec.ofChange nameCleansSpec)) nameCleansCard

/-- THE TIED CARD OF 'escheatlaw10.NameClean'. -/
def nameCleanCard : Claim7 := { stood := { row := nameCleanRow, standIns := [], harness := (true, "4b78a1c6bbf9ed4734b6a724ecdc24936c2d60d3c673846f4d552753ac40196a"), looks := false }, kinds := [], alts := [], laidByText := true, laidKinds := [.data, .data, .data, .pinned, .pinned], laidTests := true, laidLooks := .later }
def NameCleanCardSaid : Prop := Claim7.holds Tryd.pinned (.plain (OpenSpec.ofChange nameCleanSpec)) nameCleanCard

/-- THE TIED CARD OF 'escheatlaw10.NameMore'. -/
def nameMoreCard : Claim7 := { stood := { row := nameMoreRow, standIns := [], harness := (true, "4b78a1c6bbf9ed4734b6a724ecdc24936c2d60d3c673846f4d552753ac40196a"), looks := false }, kinds := [], alts := [], laidByText := true, laidKinds := [.data, .data, .data, .pinned, .pinned], laidTests := true, laidLooks := .later }
def NameMoreCardSaid : Prop := Claim7.holds Tryd.pinned (.plain (OpenSpec.ofChange nameMoreSpec)) nameMoreCard

/-- THE TIED CARD OF 'escheatlaw10.NameLikes'. -/
def nameLikesCard : Claim7 := { stood := { row := nameLikesRow, standIns := [], harness := (true, "4b78a1c6bbf9ed4734b6a724ecdc24936c2d60d3c673846f4d552753ac40196a"), looks := false }, kinds := [], alts := [], laidByText := true, laidKinds := [.data, .data, .data, .pinned, .pinned], laidTests := true, laidLooks := .later }
def NameLikesCardSaid : Prop := Claim7.holds Tryd.pinned (.plain (OpenSpec.ofChange nameLikesSpec)) nameLikesCard

/-- THE SECOND FORM's CARD OF 'escheatlaw10.NameCleans'. -/
def nameCleansUptoCard : Claim7 := { stood := { row := nameCleansUptoRow, standIns := [], harness := (true, "4b78a1c6bbf9ed4734b6a724ecdc24936c2d60d3c673846f4d552753ac40196a"), looks := false }, kinds := [], alts := [], laidByText := true, laidKinds := [.data, .data, .data, .pinned, .pinned], laidTests := true, laidLooks := .later }
def NameCleansUptoCardSaid : Prop := Claim7.holds Tryd.pinned (.plain (OpenSpec.upto nameCleansSpec)) nameCleansUptoCard

/-- THE SECOND FORM's CARD OF 'escheatlaw10.NameClean'. -/
def nameCleanUptoCard : Claim7 := { stood := { row := nameCleanUptoRow, standIns := [], harness := (true, "4b78a1c6bbf9ed4734b6a724ecdc24936c2d60d3c673846f4d552753ac40196a"), looks := false }, kinds := [], alts := [], laidByText := true, laidKinds := [.data, .data, .data, .pinned, .pinned], laidTests := true, laidLooks := .later }
def NameCleanUptoCardSaid : Prop := Claim7.holds Tryd.pinned (.plain (OpenSpec.upto nameCleanSpec)) nameCleanUptoCard

/-- THE SECOND FORM's CARD OF 'escheatlaw10.NameMore'. -/
def nameMoreUptoCard : Claim7 := { stood := { row := nameMoreUptoRow, standIns := [], harness := (true, "4b78a1c6bbf9ed4734b6a724ecdc24936c2d60d3c673846f4d552753ac40196a"), looks := false }, kinds := [], alts := [], laidByText := true, laidKinds := [.data, .data, .data, .pinned, .pinned], laidTests := true, laidLooks := .later }
def NameMoreUptoCardSaid : Prop := Claim7.holds Tryd.pinned (.plain (OpenSpec.upto nameMoreSpec)) nameMoreUptoCard

/-- THE SECOND FORM's CARD OF 'escheatlaw10.NameLikes'. -/
def nameLikesUptoCard : Claim7 := { stood := { row := nameLikesUptoRow, standIns := [], harness := (true, "4b78a1c6bbf9ed4734b6a724ecdc24936c2d60d3c673846f4d552753ac40196a"), looks := false }, kinds := [], alts := [], laidByText := true, laidKinds := [.data, .data, .data, .pinned, .pinned], laidTests := true, laidLooks := .later }
def NameLikesUptoCardSaid : Prop := Claim7.holds Tryd.pinned (.plain (OpenSpec.upto nameLikesSpec)) nameLikesUptoCard
end Rows
end Go.Proofs.YtaaonbnjghjhlaaDoor
