/-
  No cell of these rows narrows 'for every input' (looked for: loops, veiled, ifaces, maps, wideKeys, modest, calm, conditions, laid).
  DERIVED. THE GIVEN ROWS OF THIS SEAT. 4 by the template 'for every input the law returns true; each argument reads behind the call as it read before'; 0 by the template 'total and deterministic' (their statements: YtekapagdkclokaaTotals.lean).
  GIVEN WITH THE SEED: the statements are not yours to turn. If you find one false, say at which input.
  Laid BY PROGRAM, IN A SANDBOX (cutbox-rows.mjs): the forced cells as the released guide's own fill.sh prints them over the translation b84297f3f7fb1bff… (all of the seat's roots in one cut). By AI agents, Wed Nov 11 2026. No macro, syntax, notation, axiom, sorry.
-/
import Derived.Test.YtekapagdkclokaaChecked
import GoSem.Claim
import GoSem.ClaimJoined
import GoSem.ClaimMapViews
import Derived.JoinedTies
import Derived.KernelRfl
namespace Go.Proofs.Ytekapagdkclokaa
/- THE CELL 'sum', in the pinned program and in every row, IS THE sha256 OF THE DUMP (.gsa) THAT YtekapagdkclokaaProg.lean LOADS. Nothing in Lean hashes anything: it is a label: what it is worth is what the hold of that sum in a sandbox is worth. -/
noncomputable def Try.pinned : Pinned := { name := "ytekapagdkclokaa", sum := "b84297f3f7fb1bffafc5d71c3942a13cf5f3bbbbf6b07dc600e9796247cbe7c0", checked := Try.checked }
namespace Rows
def none {H : Type} : Left H := { results := [], args := [] }

/-- 'escheatlaw13.RuleAsks': WHATEVER THE INPUT: true; the input reads as it did. -/
def ruleAsksSpec : ChangeSpec := { name := "ruleAsks", fn := fun _ => fun
  | [d1, d2, d3] => { results := [.lit (.bool true)], args := [d1, d2, d3] }
  | _ => none }
def ruleAsksRow : OpenClaim := { program := "ytekapagdkclokaa", sum := "b84297f3f7fb1bffafc5d71c3942a13cf5f3bbbbf6b07dc600e9796247cbe7c0", func := "escheat/escheatlaw13.RuleAsks", spec := "ruleAsks", inPlace := ["slices.overlaps[escheat/api.Rule]"], unfollowed := true, recurses := true, apart := false }
def RuleAsksSaid : Prop := ruleAsksRow.holds Try.pinned (OpenSpec.ofChange ruleAsksSpec)

/-- ITS FALSE NEIGHBOUR: 'it returns false'. Refute it at one input. -/
def ruleAsksWrong : ChangeSpec := { name := "ruleAsks", fn := fun _ => fun
  | [d1, d2, d3] => { results := [.lit (.bool false)], args := [d1, d2, d3] }
  | _ => none }
def RuleAsksWrongFalsely : Prop := ruleAsksRow.holds Try.pinned (OpenSpec.ofChange ruleAsksWrong)

/-- 'escheatlaw13.RuleSets': WHATEVER THE INPUT: true; the input reads as it did. -/
def ruleSetsSpec : ChangeSpec := { name := "ruleSets", fn := fun _ => fun
  | [d1, d2, d3] => { results := [.lit (.bool true)], args := [d1, d2, d3] }
  | _ => none }
def ruleSetsRow : OpenClaim := { program := "ytekapagdkclokaa", sum := "b84297f3f7fb1bffafc5d71c3942a13cf5f3bbbbf6b07dc600e9796247cbe7c0", func := "escheat/escheatlaw13.RuleSets", spec := "ruleSets", inPlace := ["slices.overlaps[escheat/api.Rule]"], unfollowed := true, recurses := true, apart := false }
def RuleSetsSaid : Prop := ruleSetsRow.holds Try.pinned (OpenSpec.ofChange ruleSetsSpec)

/-- ITS FALSE NEIGHBOUR: 'it returns false'. Refute it at one input. -/
def ruleSetsWrong : ChangeSpec := { name := "ruleSets", fn := fun _ => fun
  | [d1, d2, d3] => { results := [.lit (.bool false)], args := [d1, d2, d3] }
  | _ => none }
def RuleSetsWrongFalsely : Prop := ruleSetsRow.holds Try.pinned (OpenSpec.ofChange ruleSetsWrong)

/-- 'escheatlaw13.RuleTime': WHATEVER THE INPUT: true; the input reads as it did. -/
def ruleTimeSpec : ChangeSpec := { name := "ruleTime", fn := fun _ => fun
  | [d1, d2, d3] => { results := [.lit (.bool true)], args := [d1, d2, d3] }
  | _ => none }
def ruleTimeRow : OpenClaim := { program := "ytekapagdkclokaa", sum := "b84297f3f7fb1bffafc5d71c3942a13cf5f3bbbbf6b07dc600e9796247cbe7c0", func := "escheat/escheatlaw13.RuleTime", spec := "ruleTime", inPlace := ["slices.overlaps[escheat/api.Rule]"], unfollowed := true, recurses := true, apart := false }
def RuleTimeSaid : Prop := ruleTimeRow.holds Try.pinned (OpenSpec.ofChange ruleTimeSpec)

/-- ITS FALSE NEIGHBOUR: 'it returns false'. Refute it at one input. -/
def ruleTimeWrong : ChangeSpec := { name := "ruleTime", fn := fun _ => fun
  | [d1, d2, d3] => { results := [.lit (.bool false)], args := [d1, d2, d3] }
  | _ => none }
def RuleTimeWrongFalsely : Prop := ruleTimeRow.holds Try.pinned (OpenSpec.ofChange ruleTimeWrong)

/-- 'escheatlaw13.RuleTwice': WHATEVER THE INPUT: true; the input reads as it did. -/
def ruleTwiceSpec : ChangeSpec := { name := "ruleTwice", fn := fun _ => fun
  | [d1, d2, d3] => { results := [.lit (.bool true)], args := [d1, d2, d3] }
  | _ => none }
def ruleTwiceRow : OpenClaim := { program := "ytekapagdkclokaa", sum := "b84297f3f7fb1bffafc5d71c3942a13cf5f3bbbbf6b07dc600e9796247cbe7c0", func := "escheat/escheatlaw13.RuleTwice", spec := "ruleTwice", inPlace := ["slices.overlaps[escheat/api.Rule]"], unfollowed := true, recurses := true, apart := false }
def RuleTwiceSaid : Prop := ruleTwiceRow.holds Try.pinned (OpenSpec.ofChange ruleTwiceSpec)

/-- ITS FALSE NEIGHBOUR: 'it returns false'. Refute it at one input. -/
def ruleTwiceWrong : ChangeSpec := { name := "ruleTwice", fn := fun _ => fun
  | [d1, d2, d3] => { results := [.lit (.bool false)], args := [d1, d2, d3] }
  | _ => none }
def RuleTwiceWrongFalsely : Prop := ruleTwiceRow.holds Try.pinned (OpenSpec.ofChange ruleTwiceWrong)

/- THE SECOND FORM. 'bulk': how many values and letters a reading holds, each counted each time it is reached (what is shared counts as often as it is met; a slice's spare places count too). A statement '..UptoSaid' is the law's where the arguments, and the package variables that the reading takes, are together of bulk at most 1048576: NARROWER than '..Said'. Prove '..Said' where nothing that the law and all that it calls make is longer than what came in: it says more and counts as full. Else prove '..UptoSaid'. A law counts once. -/
mutual
def uptoBulk {H : Type} : DataW H → Nat
  | .lit (.string bytes) => bytes.length + 1
  | .lit _ => 1
  | .nil => 1
  | .ptr d => uptoBulk d + 1
  | .slice elems spare => uptoBulkAll elems + uptoBulkAll spare + 1
  | .agg parts => uptoBulkAll parts + 1
  | .iface _ d => uptoBulk d + 1
  | .map entries => uptoBulkEntries entries + 1
  | .held _ => 1
def uptoBulkAll {H : Type} : List (DataW H) → Nat
  | [] => 0
  | d :: r => uptoBulk d + uptoBulkAll r
def uptoBulkEntries {H : Type} : List (Lit × DataW H) → Nat
  | [] => 0
  | x :: r => uptoBulkEntry x + uptoBulkEntries r
def uptoBulkEntry {H : Type} : Lit × DataW H → Nat
  | (.string bytes, d) => bytes.length + uptoBulk d + 1
  | (_, d) => uptoBulk d + 1
 end
def uptoSmall : (H : Type) → List (DataW H) → Bool := fun _ ds => decide (uptoBulkAll ds ≤ 1048576)
def OpenSpec.upto (s : _root_.Go.ChangeSpec) : _root_.Go.OpenSpec := { _root_.Go.OpenSpec.ofChange s with cond := some uptoSmall }

/-- 'escheatlaw13.RuleAsks', WHERE WHAT IT READS IS OF BULK AT MOST 1048576: true; the input reads as it did. -/
def ruleAsksUptoRow : OpenClaim := { program := "ytekapagdkclokaa", sum := "b84297f3f7fb1bffafc5d71c3942a13cf5f3bbbbf6b07dc600e9796247cbe7c0", func := "escheat/escheatlaw13.RuleAsks", spec := "ruleAsks", inPlace := ["slices.overlaps[escheat/api.Rule]"], unfollowed := true, recurses := true, apart := false, narrowed := true }
def RuleAsksUptoSaid : Prop := ruleAsksUptoRow.holds Try.pinned (OpenSpec.upto ruleAsksSpec)

/-- 'escheatlaw13.RuleSets', WHERE WHAT IT READS IS OF BULK AT MOST 1048576: true; the input reads as it did. -/
def ruleSetsUptoRow : OpenClaim := { program := "ytekapagdkclokaa", sum := "b84297f3f7fb1bffafc5d71c3942a13cf5f3bbbbf6b07dc600e9796247cbe7c0", func := "escheat/escheatlaw13.RuleSets", spec := "ruleSets", inPlace := ["slices.overlaps[escheat/api.Rule]"], unfollowed := true, recurses := true, apart := false, narrowed := true }
def RuleSetsUptoSaid : Prop := ruleSetsUptoRow.holds Try.pinned (OpenSpec.upto ruleSetsSpec)

/-- 'escheatlaw13.RuleTime', WHERE WHAT IT READS IS OF BULK AT MOST 1048576: true; the input reads as it did. -/
def ruleTimeUptoRow : OpenClaim := { program := "ytekapagdkclokaa", sum := "b84297f3f7fb1bffafc5d71c3942a13cf5f3bbbbf6b07dc600e9796247cbe7c0", func := "escheat/escheatlaw13.RuleTime", spec := "ruleTime", inPlace := ["slices.overlaps[escheat/api.Rule]"], unfollowed := true, recurses := true, apart := false, narrowed := true }
def RuleTimeUptoSaid : Prop := ruleTimeUptoRow.holds Try.pinned (OpenSpec.upto ruleTimeSpec)

/-- 'escheatlaw13.RuleTwice', WHERE WHAT IT READS IS OF BULK AT MOST 1048576: true; the input reads as it did. -/
def ruleTwiceUptoRow : OpenClaim := { program := "ytekapagdkclokaa", sum := "b84297f3f7fb1bffafc5d71c3942a13cf5f3bbbbf6b07dc600e9796247cbe7c0", func := "escheat/escheatlaw13.RuleTwice", spec := "ruleTwice", inPlace := ["slices.overlaps[escheat/api.Rule]"], unfollowed := true, recurses := true, apart := false, narrowed := true }
def RuleTwiceUptoSaid : Prop := ruleTwiceUptoRow.holds Try.pinned (OpenSpec.upto ruleTwiceSpec)

end Rows
end Go.Proofs.Ytekapagdkclokaa
