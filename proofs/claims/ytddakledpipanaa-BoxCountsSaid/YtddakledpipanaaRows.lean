/-
  No cell of these rows narrows 'for every input' (looked for: loops, veiled, ifaces, maps, wideKeys, modest, calm, conditions, laid).
  DERIVED. THE GIVEN ROWS OF THIS SEAT. 6 by the template 'for every input the law returns true; each argument reads behind the call as it read before'; 0 by the template 'total and deterministic' (their statements: YtddakledpipanaaTotals.lean).
  GIVEN WITH THE SEED: the statements are not yours to turn. If you find one false, say at which input.
  Laid BY PROGRAM, IN A SANDBOX (cutbox-rows.mjs): the forced cells as the released guide's own fill.sh prints them over the translation 73dbf9f9fe3073b9… (all of the seat's roots in one cut). By AI agents, Wed Nov 11 2026. No macro, syntax, notation, axiom, sorry.
-/
import Derived.Test.YtddakledpipanaaChecked
import GoSem.Claim
import GoSem.ClaimJoined
import GoSem.ClaimMapViews
import Derived.JoinedTies
import Derived.KernelRfl
namespace Go.Proofs.Ytddakledpipanaa
/- THE CELL 'sum', in the pinned program and in every row, IS THE sha256 OF THE DUMP (.gsa) THAT YtddakledpipanaaProg.lean LOADS. Nothing in Lean hashes anything: it is a label: what it is worth is what the hold of that sum in a sandbox is worth. -/
noncomputable def Try.pinned : Pinned := { name := "ytddakledpipanaa", sum := "73dbf9f9fe3073b96af8bda46cfafa3e5793da9121fb9de118caeb639a8e05aa", checked := Try.checked }
namespace Rows
def none {H : Type} : Left H := { results := [], args := [] }

/-- 'escheatlaw11.BoxAdds': WHATEVER THE INPUT: true; the input reads as it did. -/
def boxAddsSpec : ChangeSpec := { name := "boxAdds", fn := fun _ => fun
  | [d1, d2] => { results := [.lit (.bool true)], args := [d1, d2] }
  | _ => none }
def boxAddsRow : OpenClaim := { program := "ytddakledpipanaa", sum := "73dbf9f9fe3073b96af8bda46cfafa3e5793da9121fb9de118caeb639a8e05aa", func := "escheat/escheatlaw11.BoxAdds", spec := "boxAdds", unfollowed := true, recurses := true, apart := false }
def BoxAddsSaid : Prop := boxAddsRow.holds Try.pinned (OpenSpec.ofChange boxAddsSpec)

/-- ITS FALSE NEIGHBOUR: 'it returns false'. Refute it at one input. -/
def boxAddsWrong : ChangeSpec := { name := "boxAdds", fn := fun _ => fun
  | [d1, d2] => { results := [.lit (.bool false)], args := [d1, d2] }
  | _ => none }
def BoxAddsWrongFalsely : Prop := boxAddsRow.holds Try.pinned (OpenSpec.ofChange boxAddsWrong)

/-- 'escheatlaw11.BoxTakes': WHATEVER THE INPUT: true; the input reads as it did. -/
def boxTakesSpec : ChangeSpec := { name := "boxTakes", fn := fun _ => fun
  | [d1, d2] => { results := [.lit (.bool true)], args := [d1, d2] }
  | _ => none }
def boxTakesRow : OpenClaim := { program := "ytddakledpipanaa", sum := "73dbf9f9fe3073b96af8bda46cfafa3e5793da9121fb9de118caeb639a8e05aa", func := "escheat/escheatlaw11.BoxTakes", spec := "boxTakes", unfollowed := true, recurses := true, apart := false }
def BoxTakesSaid : Prop := boxTakesRow.holds Try.pinned (OpenSpec.ofChange boxTakesSpec)

/-- ITS FALSE NEIGHBOUR: 'it returns false'. Refute it at one input. -/
def boxTakesWrong : ChangeSpec := { name := "boxTakes", fn := fun _ => fun
  | [d1, d2] => { results := [.lit (.bool false)], args := [d1, d2] }
  | _ => none }
def BoxTakesWrongFalsely : Prop := boxTakesRow.holds Try.pinned (OpenSpec.ofChange boxTakesWrong)

/-- 'escheatlaw11.BoxRise': WHATEVER THE INPUT: true; the input reads as it did. -/
def boxRiseSpec : ChangeSpec := { name := "boxRise", fn := fun _ => fun
  | [d1, d2] => { results := [.lit (.bool true)], args := [d1, d2] }
  | _ => none }
def boxRiseRow : OpenClaim := { program := "ytddakledpipanaa", sum := "73dbf9f9fe3073b96af8bda46cfafa3e5793da9121fb9de118caeb639a8e05aa", func := "escheat/escheatlaw11.BoxRise", spec := "boxRise", unfollowed := true, recurses := true, apart := false }
def BoxRiseSaid : Prop := boxRiseRow.holds Try.pinned (OpenSpec.ofChange boxRiseSpec)

/-- ITS FALSE NEIGHBOUR: 'it returns false'. Refute it at one input. -/
def boxRiseWrong : ChangeSpec := { name := "boxRise", fn := fun _ => fun
  | [d1, d2] => { results := [.lit (.bool false)], args := [d1, d2] }
  | _ => none }
def BoxRiseWrongFalsely : Prop := boxRiseRow.holds Try.pinned (OpenSpec.ofChange boxRiseWrong)

/-- 'escheatlaw11.BoxStores': WHATEVER THE INPUT: true; the input reads as it did. -/
def boxStoresSpec : ChangeSpec := { name := "boxStores", fn := fun _ => fun
  | [d1, d2, d3] => { results := [.lit (.bool true)], args := [d1, d2, d3] }
  | _ => none }
def boxStoresRow : OpenClaim := { program := "ytddakledpipanaa", sum := "73dbf9f9fe3073b96af8bda46cfafa3e5793da9121fb9de118caeb639a8e05aa", func := "escheat/escheatlaw11.BoxStores", spec := "boxStores", unfollowed := true, recurses := true, apart := false }
def BoxStoresSaid : Prop := boxStoresRow.holds Try.pinned (OpenSpec.ofChange boxStoresSpec)

/-- ITS FALSE NEIGHBOUR: 'it returns false'. Refute it at one input. -/
def boxStoresWrong : ChangeSpec := { name := "boxStores", fn := fun _ => fun
  | [d1, d2, d3] => { results := [.lit (.bool false)], args := [d1, d2, d3] }
  | _ => none }
def BoxStoresWrongFalsely : Prop := boxStoresRow.holds Try.pinned (OpenSpec.ofChange boxStoresWrong)

/-- 'escheatlaw11.BoxCounts': WHATEVER THE INPUT: true; the input reads as it did. -/
def boxCountsSpec : ChangeSpec := { name := "boxCounts", fn := fun _ => fun
  | [d1, d2, d3] => { results := [.lit (.bool true)], args := [d1, d2, d3] }
  | _ => none }
def boxCountsRow : OpenClaim := { program := "ytddakledpipanaa", sum := "73dbf9f9fe3073b96af8bda46cfafa3e5793da9121fb9de118caeb639a8e05aa", func := "escheat/escheatlaw11.BoxCounts", spec := "boxCounts", unfollowed := true, recurses := true, apart := false }
def BoxCountsSaid : Prop := boxCountsRow.holds Try.pinned (OpenSpec.ofChange boxCountsSpec)

/-- ITS FALSE NEIGHBOUR: 'it returns false'. Refute it at one input. -/
def boxCountsWrong : ChangeSpec := { name := "boxCounts", fn := fun _ => fun
  | [d1, d2, d3] => { results := [.lit (.bool false)], args := [d1, d2, d3] }
  | _ => none }
def BoxCountsWrongFalsely : Prop := boxCountsRow.holds Try.pinned (OpenSpec.ofChange boxCountsWrong)

/-- 'escheatlaw11.BoxAsks': WHATEVER THE INPUT: true; the input reads as it did. -/
def boxAsksSpec : ChangeSpec := { name := "boxAsks", fn := fun _ => fun
  | [d1, d2, d3] => { results := [.lit (.bool true)], args := [d1, d2, d3] }
  | _ => none }
def boxAsksRow : OpenClaim := { program := "ytddakledpipanaa", sum := "73dbf9f9fe3073b96af8bda46cfafa3e5793da9121fb9de118caeb639a8e05aa", func := "escheat/escheatlaw11.BoxAsks", spec := "boxAsks", unfollowed := true, recurses := true, apart := false }
def BoxAsksSaid : Prop := boxAsksRow.holds Try.pinned (OpenSpec.ofChange boxAsksSpec)

/-- ITS FALSE NEIGHBOUR: 'it returns false'. Refute it at one input. -/
def boxAsksWrong : ChangeSpec := { name := "boxAsks", fn := fun _ => fun
  | [d1, d2, d3] => { results := [.lit (.bool false)], args := [d1, d2, d3] }
  | _ => none }
def BoxAsksWrongFalsely : Prop := boxAsksRow.holds Try.pinned (OpenSpec.ofChange boxAsksWrong)

/- THE SECOND FORM. 'bulk': how many values and letters a reading holds, each counted each time it is reached (what is shared counts as often as it is met; a slice's spare places count too). A statement '..UptoSaid' is the law's where the arguments, and the package variables that the reading takes, are together of bulk at most 1048576: NARROWER than '..Said'. Prove '..Said' where nothing that the law and all that it calls make is longer than what came in: it says more and counts as full. Else prove '..UptoSaid'. A law counts once. -/
mutual
def uptoBulk {H : Type} : DataW H → Nat
  | .lit (.string bytes) => bytes.length + 1
  | .lit _ => 1
  | .nil => 1
  | .ptr d => uptoBulk d + 1
  | .slice elems spare => uptoBulkAll elems + uptoBulkAll spare + 1
  | .agg parts => uptoBulkAll parts + 1
  | .iface _ d => uptoBulk d + 1
  | .map entries => uptoBulkEntries entries + 1
  | .held _ => 1
def uptoBulkAll {H : Type} : List (DataW H) → Nat
  | [] => 0
  | d :: r => uptoBulk d + uptoBulkAll r
def uptoBulkEntries {H : Type} : List (Lit × DataW H) → Nat
  | [] => 0
  | x :: r => uptoBulkEntry x + uptoBulkEntries r
def uptoBulkEntry {H : Type} : Lit × DataW H → Nat
  | (.string bytes, d) => bytes.length + uptoBulk d + 1
  | (_, d) => uptoBulk d + 1
 end
def uptoSmall : (H : Type) → List (DataW H) → Bool := fun _ ds => decide (uptoBulkAll ds ≤ 1048576)
def OpenSpec.upto (s : _root_.Go.ChangeSpec) : _root_.Go.OpenSpec := { _root_.Go.OpenSpec.ofChange s with cond := some uptoSmall }

/-- 'escheatlaw11.BoxAdds', WHERE WHAT IT READS IS OF BULK AT MOST 1048576: true; the input reads as it did. -/
def boxAddsUptoRow : OpenClaim := { program := "ytddakledpipanaa", sum := "73dbf9f9fe3073b96af8bda46cfafa3e5793da9121fb9de118caeb639a8e05aa", func := "escheat/escheatlaw11.BoxAdds", spec := "boxAdds", unfollowed := true, recurses := true, apart := false, narrowed := true }
def BoxAddsUptoSaid : Prop := boxAddsUptoRow.holds Try.pinned (OpenSpec.upto boxAddsSpec)

/-- 'escheatlaw11.BoxTakes', WHERE WHAT IT READS IS OF BULK AT MOST 1048576: true; the input reads as it did. -/
def boxTakesUptoRow : OpenClaim := { program := "ytddakledpipanaa", sum := "73dbf9f9fe3073b96af8bda46cfafa3e5793da9121fb9de118caeb639a8e05aa", func := "escheat/escheatlaw11.BoxTakes", spec := "boxTakes", unfollowed := true, recurses := true, apart := false, narrowed := true }
def BoxTakesUptoSaid : Prop := boxTakesUptoRow.holds Try.pinned (OpenSpec.upto boxTakesSpec)

/-- 'escheatlaw11.BoxRise', WHERE WHAT IT READS IS OF BULK AT MOST 1048576: true; the input reads as it did. -/
def boxRiseUptoRow : OpenClaim := { program := "ytddakledpipanaa", sum := "73dbf9f9fe3073b96af8bda46cfafa3e5793da9121fb9de118caeb639a8e05aa", func := "escheat/escheatlaw11.BoxRise", spec := "boxRise", unfollowed := true, recurses := true, apart := false, narrowed := true }
def BoxRiseUptoSaid : Prop := boxRiseUptoRow.holds Try.pinned (OpenSpec.upto boxRiseSpec)

/-- 'escheatlaw11.BoxStores', WHERE WHAT IT READS IS OF BULK AT MOST 1048576: true; the input reads as it did. -/
def boxStoresUptoRow : OpenClaim := { program := "ytddakledpipanaa", sum := "73dbf9f9fe3073b96af8bda46cfafa3e5793da9121fb9de118caeb639a8e05aa", func := "escheat/escheatlaw11.BoxStores", spec := "boxStores", unfollowed := true, recurses := true, apart := false, narrowed := true }
def BoxStoresUptoSaid : Prop := boxStoresUptoRow.holds Try.pinned (OpenSpec.upto boxStoresSpec)

/-- 'escheatlaw11.BoxCounts', WHERE WHAT IT READS IS OF BULK AT MOST 1048576: true; the input reads as it did. -/
def boxCountsUptoRow : OpenClaim := { program := "ytddakledpipanaa", sum := "73dbf9f9fe3073b96af8bda46cfafa3e5793da9121fb9de118caeb639a8e05aa", func := "escheat/escheatlaw11.BoxCounts", spec := "boxCounts", unfollowed := true, recurses := true, apart := false, narrowed := true }
def BoxCountsUptoSaid : Prop := boxCountsUptoRow.holds Try.pinned (OpenSpec.upto boxCountsSpec)

/-- 'escheatlaw11.BoxAsks', WHERE WHAT IT READS IS OF BULK AT MOST 1048576: true; the input reads as it did. -/
def boxAsksUptoRow : OpenClaim := { program := "ytddakledpipanaa", sum := "73dbf9f9fe3073b96af8bda46cfafa3e5793da9121fb9de118caeb639a8e05aa", func := "escheat/escheatlaw11.BoxAsks", spec := "boxAsks", unfollowed := true, recurses := true, apart := false, narrowed := true }
def BoxAsksUptoSaid : Prop := boxAsksUptoRow.holds Try.pinned (OpenSpec.upto boxAsksSpec)

end Rows
end Go.Proofs.Ytddakledpipanaa
