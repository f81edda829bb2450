/-
  No cell of these rows narrows 'for every input' (looked for: loops, veiled, ifaces, maps, wideKeys, modest, calm, conditions, laid).
  DERIVED. THE GIVEN ROWS OF THIS SEAT. 11 by the template 'for every input the law returns true; each argument reads behind the call as it read before'; 0 by the template 'total and deterministic' (their statements: YteelmjkoncomiaaTotals.lean).
  GIVEN WITH THE SEED: the statements are not yours to turn. If you find one false, say at which input.
  Laid BY PROGRAM, IN A SANDBOX (cutbox-rows.mjs): the forced cells as the released guide's own fill.sh prints them over the translation ad38608ddabc8c46… (all of the seat's roots in one cut). By AI agents, Wed Nov 11 2026. No macro, syntax, notation, axiom, sorry.
-/
import Derived.Test.YteelmjkoncomiaaChecked
import GoSem.Claim
import GoSem.ClaimJoined
import GoSem.ClaimMapViews
import Derived.JoinedTies
import Derived.KernelRfl
namespace Go.Proofs.Yteelmjkoncomiaa
/- THE CELL 'sum', in the pinned program and in every row, IS THE sha256 OF THE DUMP (.gsa) THAT YteelmjkoncomiaaProg.lean LOADS. Nothing in Lean hashes anything: it is a label: what it is worth is what the hold of that sum in a sandbox is worth. -/
noncomputable def Try.pinned : Pinned := { name := "yteelmjkoncomiaa", sum := "ad38608ddabc8c46aaf2621a85d1d3eb3746890ce71d0fd55f9739fd7b1486aa", checked := Try.checked }
namespace Rows
def none {H : Type} : Left H := { results := [], args := [] }

/-- 'laws.FnExactReverseWay': WHATEVER THE INPUT: true; the input reads as it did. -/
def fnExactReverseWaySpec : ChangeSpec := { name := "fnExactReverseWay", fn := fun _ => fun
  | [d] => { results := [.lit (.bool true)], args := [d] }
  | _ => none }
def fnExactReverseWayRow : OpenClaim := { program := "yteelmjkoncomiaa", sum := "ad38608ddabc8c46aaf2621a85d1d3eb3746890ce71d0fd55f9739fd7b1486aa", func := "loop.example/g00205/laws.FnExactReverseWay", spec := "fnExactReverseWay", apart := false }
def FnExactReverseWaySaid : Prop := fnExactReverseWayRow.holds Try.pinned (OpenSpec.ofChange fnExactReverseWaySpec)

/-- ITS FALSE NEIGHBOUR: 'it returns false'. Refute it at one input. -/
def fnExactReverseWayWrong : ChangeSpec := { name := "fnExactReverseWay", fn := fun _ => fun
  | [d] => { results := [.lit (.bool false)], args := [d] }
  | _ => none }
def FnExactReverseWayWrongFalsely : Prop := fnExactReverseWayRow.holds Try.pinned (OpenSpec.ofChange fnExactReverseWayWrong)

/-- 'laws.FnExactHoldsAny': WHATEVER THE INPUT: true; the input reads as it did. -/
def fnExactHoldsAnySpec : ChangeSpec := { name := "fnExactHoldsAny", fn := fun _ => fun
  | [d1, d2] => { results := [.lit (.bool true)], args := [d1, d2] }
  | _ => none }
def fnExactHoldsAnyRow : OpenClaim := { program := "yteelmjkoncomiaa", sum := "ad38608ddabc8c46aaf2621a85d1d3eb3746890ce71d0fd55f9739fd7b1486aa", func := "loop.example/g00205/laws.FnExactHoldsAny", spec := "fnExactHoldsAny", unfollowed := true, recurses := true, apart := false }
def FnExactHoldsAnySaid : Prop := fnExactHoldsAnyRow.holds Try.pinned (OpenSpec.ofChange fnExactHoldsAnySpec)

/-- ITS FALSE NEIGHBOUR: 'it returns false'. Refute it at one input. -/
def fnExactHoldsAnyWrong : ChangeSpec := { name := "fnExactHoldsAny", fn := fun _ => fun
  | [d1, d2] => { results := [.lit (.bool false)], args := [d1, d2] }
  | _ => none }
def FnExactHoldsAnyWrongFalsely : Prop := fnExactHoldsAnyRow.holds Try.pinned (OpenSpec.ofChange fnExactHoldsAnyWrong)

/-- 'laws.FnExactBuildPacket': WHATEVER THE INPUT: true; the input reads as it did. -/
def fnExactBuildPacketSpec : ChangeSpec := { name := "fnExactBuildPacket", fn := fun _ => fun
  | [d] => { results := [.lit (.bool true)], args := [d] }
  | _ => none }
def fnExactBuildPacketRow : OpenClaim := { program := "yteelmjkoncomiaa", sum := "ad38608ddabc8c46aaf2621a85d1d3eb3746890ce71d0fd55f9739fd7b1486aa", func := "loop.example/g00205/laws.FnExactBuildPacket", spec := "fnExactBuildPacket", apart := false }
def FnExactBuildPacketSaid : Prop := fnExactBuildPacketRow.holds Try.pinned (OpenSpec.ofChange fnExactBuildPacketSpec)

/-- ITS FALSE NEIGHBOUR: 'it returns false'. Refute it at one input. -/
def fnExactBuildPacketWrong : ChangeSpec := { name := "fnExactBuildPacket", fn := fun _ => fun
  | [d] => { results := [.lit (.bool false)], args := [d] }
  | _ => none }
def FnExactBuildPacketWrongFalsely : Prop := fnExactBuildPacketRow.holds Try.pinned (OpenSpec.ofChange fnExactBuildPacketWrong)

/-- 'laws.FnWithin': WHATEVER THE INPUT: true; the input reads as it did. -/
def fnWithinSpec : ChangeSpec := { name := "fnWithin", fn := fun _ => fun
  | [d] => { results := [.lit (.bool true)], args := [d] }
  | _ => none }
def fnWithinRow : OpenClaim := { program := "yteelmjkoncomiaa", sum := "ad38608ddabc8c46aaf2621a85d1d3eb3746890ce71d0fd55f9739fd7b1486aa", func := "loop.example/g00205/laws.FnWithin", spec := "fnWithin", apart := false }
def FnWithinSaid : Prop := fnWithinRow.holds Try.pinned (OpenSpec.ofChange fnWithinSpec)

/-- ITS FALSE NEIGHBOUR: 'it returns false'. Refute it at one input. -/
def fnWithinWrong : ChangeSpec := { name := "fnWithin", fn := fun _ => fun
  | [d] => { results := [.lit (.bool false)], args := [d] }
  | _ => none }
def FnWithinWrongFalsely : Prop := fnWithinRow.holds Try.pinned (OpenSpec.ofChange fnWithinWrong)

/-- 'laws.FnExactShadowedRules': WHATEVER THE INPUT: true; the input reads as it did. -/
def fnExactShadowedRulesSpec : ChangeSpec := { name := "fnExactShadowedRules", fn := fun _ => fun
  | [d] => { results := [.lit (.bool true)], args := [d] }
  | _ => none }
def fnExactShadowedRulesRow : OpenClaim := { program := "yteelmjkoncomiaa", sum := "ad38608ddabc8c46aaf2621a85d1d3eb3746890ce71d0fd55f9739fd7b1486aa", func := "loop.example/g00205/laws.FnExactShadowedRules", spec := "fnExactShadowedRules", unfollowed := true, recurses := true, apart := false }
def FnExactShadowedRulesSaid : Prop := fnExactShadowedRulesRow.holds Try.pinned (OpenSpec.ofChange fnExactShadowedRulesSpec)

/-- ITS FALSE NEIGHBOUR: 'it returns false'. Refute it at one input. -/
def fnExactShadowedRulesWrong : ChangeSpec := { name := "fnExactShadowedRules", fn := fun _ => fun
  | [d] => { results := [.lit (.bool false)], args := [d] }
  | _ => none }
def FnExactShadowedRulesWrongFalsely : Prop := fnExactShadowedRulesRow.holds Try.pinned (OpenSpec.ofChange fnExactShadowedRulesWrong)

/-- 'laws.FnMeets': WHATEVER THE INPUT: true; the input reads as it did. -/
def fnMeetsSpec : ChangeSpec := { name := "fnMeets", fn := fun _ => fun
  | [d] => { results := [.lit (.bool true)], args := [d] }
  | _ => none }
def fnMeetsRow : OpenClaim := { program := "yteelmjkoncomiaa", sum := "ad38608ddabc8c46aaf2621a85d1d3eb3746890ce71d0fd55f9739fd7b1486aa", func := "loop.example/g00205/laws.FnMeets", spec := "fnMeets", apart := false }
def FnMeetsSaid : Prop := fnMeetsRow.holds Try.pinned (OpenSpec.ofChange fnMeetsSpec)

/-- ITS FALSE NEIGHBOUR: 'it returns false'. Refute it at one input. -/
def fnMeetsWrong : ChangeSpec := { name := "fnMeets", fn := fun _ => fun
  | [d] => { results := [.lit (.bool false)], args := [d] }
  | _ => none }
def FnMeetsWrongFalsely : Prop := fnMeetsRow.holds Try.pinned (OpenSpec.ofChange fnMeetsWrong)

/-- 'laws.FnExactRulesOf': WHATEVER THE INPUT: true; the input reads as it did. -/
def fnExactRulesOfSpec : ChangeSpec := { name := "fnExactRulesOf", fn := fun _ => fun
  | [d1, d2] => { results := [.lit (.bool true)], args := [d1, d2] }
  | _ => none }
def fnExactRulesOfRow : OpenClaim := { program := "yteelmjkoncomiaa", sum := "ad38608ddabc8c46aaf2621a85d1d3eb3746890ce71d0fd55f9739fd7b1486aa", func := "loop.example/g00205/laws.FnExactRulesOf", spec := "fnExactRulesOf", apart := false }
def FnExactRulesOfSaid : Prop := fnExactRulesOfRow.holds Try.pinned (OpenSpec.ofChange fnExactRulesOfSpec)

/-- ITS FALSE NEIGHBOUR: 'it returns false'. Refute it at one input. -/
def fnExactRulesOfWrong : ChangeSpec := { name := "fnExactRulesOf", fn := fun _ => fun
  | [d1, d2] => { results := [.lit (.bool false)], args := [d1, d2] }
  | _ => none }
def FnExactRulesOfWrongFalsely : Prop := fnExactRulesOfRow.holds Try.pinned (OpenSpec.ofChange fnExactRulesOfWrong)

/-- 'laws.FnExactTrimPolicy': WHATEVER THE INPUT: true; the input reads as it did. -/
def fnExactTrimPolicySpec : ChangeSpec := { name := "fnExactTrimPolicy", fn := fun _ => fun
  | [d] => { results := [.lit (.bool true)], args := [d] }
  | _ => none }
def fnExactTrimPolicyRow : OpenClaim := { program := "yteelmjkoncomiaa", sum := "ad38608ddabc8c46aaf2621a85d1d3eb3746890ce71d0fd55f9739fd7b1486aa", func := "loop.example/g00205/laws.FnExactTrimPolicy", spec := "fnExactTrimPolicy", unfollowed := true, recurses := true, apart := false }
def FnExactTrimPolicySaid : Prop := fnExactTrimPolicyRow.holds Try.pinned (OpenSpec.ofChange fnExactTrimPolicySpec)

/-- ITS FALSE NEIGHBOUR: 'it returns false'. Refute it at one input. -/
def fnExactTrimPolicyWrong : ChangeSpec := { name := "fnExactTrimPolicy", fn := fun _ => fun
  | [d] => { results := [.lit (.bool false)], args := [d] }
  | _ => none }
def FnExactTrimPolicyWrongFalsely : Prop := fnExactTrimPolicyRow.holds Try.pinned (OpenSpec.ofChange fnExactTrimPolicyWrong)

/-- 'laws.FnExactActionFor': WHATEVER THE INPUT: true; the input reads as it did. -/
def fnExactActionForSpec : ChangeSpec := { name := "fnExactActionFor", fn := fun _ => fun
  | [d1, d2] => { results := [.lit (.bool true)], args := [d1, d2] }
  | _ => none }
def fnExactActionForRow : OpenClaim := { program := "yteelmjkoncomiaa", sum := "ad38608ddabc8c46aaf2621a85d1d3eb3746890ce71d0fd55f9739fd7b1486aa", func := "loop.example/g00205/laws.FnExactActionFor", spec := "fnExactActionFor", unfollowed := true, recurses := true, apart := false }
def FnExactActionForSaid : Prop := fnExactActionForRow.holds Try.pinned (OpenSpec.ofChange fnExactActionForSpec)

/-- ITS FALSE NEIGHBOUR: 'it returns false'. Refute it at one input. -/
def fnExactActionForWrong : ChangeSpec := { name := "fnExactActionFor", fn := fun _ => fun
  | [d1, d2] => { results := [.lit (.bool false)], args := [d1, d2] }
  | _ => none }
def FnExactActionForWrongFalsely : Prop := fnExactActionForRow.holds Try.pinned (OpenSpec.ofChange fnExactActionForWrong)

/-- 'laws.FnExactFirstRule': WHATEVER THE INPUT: true; the input reads as it did. -/
def fnExactFirstRuleSpec : ChangeSpec := { name := "fnExactFirstRule", fn := fun _ => fun
  | [d1, d2] => { results := [.lit (.bool true)], args := [d1, d2] }
  | _ => none }
def fnExactFirstRuleRow : OpenClaim := { program := "yteelmjkoncomiaa", sum := "ad38608ddabc8c46aaf2621a85d1d3eb3746890ce71d0fd55f9739fd7b1486aa", func := "loop.example/g00205/laws.FnExactFirstRule", spec := "fnExactFirstRule", unfollowed := true, recurses := true, apart := false }
def FnExactFirstRuleSaid : Prop := fnExactFirstRuleRow.holds Try.pinned (OpenSpec.ofChange fnExactFirstRuleSpec)

/-- ITS FALSE NEIGHBOUR: 'it returns false'. Refute it at one input. -/
def fnExactFirstRuleWrong : ChangeSpec := { name := "fnExactFirstRule", fn := fun _ => fun
  | [d1, d2] => { results := [.lit (.bool false)], args := [d1, d2] }
  | _ => none }
def FnExactFirstRuleWrongFalsely : Prop := fnExactFirstRuleRow.holds Try.pinned (OpenSpec.ofChange fnExactFirstRuleWrong)

/-- 'laws.FnFirst': WHATEVER THE INPUT: true; the input reads as it did. -/
def fnFirstSpec : ChangeSpec := { name := "fnFirst", fn := fun _ => fun
  | [d] => { results := [.lit (.bool true)], args := [d] }
  | _ => none }
def fnFirstRow : OpenClaim := { program := "yteelmjkoncomiaa", sum := "ad38608ddabc8c46aaf2621a85d1d3eb3746890ce71d0fd55f9739fd7b1486aa", func := "loop.example/g00205/laws.FnFirst", spec := "fnFirst", unfollowed := true, recurses := true, apart := false }
def FnFirstSaid : Prop := fnFirstRow.holds Try.pinned (OpenSpec.ofChange fnFirstSpec)

/-- ITS FALSE NEIGHBOUR: 'it returns false'. Refute it at one input. -/
def fnFirstWrong : ChangeSpec := { name := "fnFirst", fn := fun _ => fun
  | [d] => { results := [.lit (.bool false)], args := [d] }
  | _ => none }
def FnFirstWrongFalsely : Prop := fnFirstRow.holds Try.pinned (OpenSpec.ofChange fnFirstWrong)

/- THE SECOND FORM. 'bulk': how many values and letters a reading holds, each counted each time it is reached (what is shared counts as often as it is met; a slice's spare places count too). A statement '..UptoSaid' is the law's where the arguments, and the package variables that the reading takes, are together of bulk at most 1048576: NARROWER than '..Said'. Prove '..Said' where nothing that the law and all that it calls make is longer than what came in: it says more and counts as full. Else prove '..UptoSaid'. A law counts once. -/
mutual
def uptoBulk {H : Type} : DataW H → Nat
  | .lit (.string bytes) => bytes.length + 1
  | .lit _ => 1
  | .nil => 1
  | .ptr d => uptoBulk d + 1
  | .slice elems spare => uptoBulkAll elems + uptoBulkAll spare + 1
  | .agg parts => uptoBulkAll parts + 1
  | .iface _ d => uptoBulk d + 1
  | .map entries => uptoBulkEntries entries + 1
  | .held _ => 1
def uptoBulkAll {H : Type} : List (DataW H) → Nat
  | [] => 0
  | d :: r => uptoBulk d + uptoBulkAll r
def uptoBulkEntries {H : Type} : List (Lit × DataW H) → Nat
  | [] => 0
  | x :: r => uptoBulkEntry x + uptoBulkEntries r
def uptoBulkEntry {H : Type} : Lit × DataW H → Nat
  | (.string bytes, d) => bytes.length + uptoBulk d + 1
  | (_, d) => uptoBulk d + 1
 end
def uptoSmall : (H : Type) → List (DataW H) → Bool := fun _ ds => decide (uptoBulkAll ds ≤ 1048576)
def OpenSpec.upto (s : _root_.Go.ChangeSpec) : _root_.Go.OpenSpec := { _root_.Go.OpenSpec.ofChange s with cond := some uptoSmall }

/-- 'laws.FnExactReverseWay', WHERE WHAT IT READS IS OF BULK AT MOST 1048576: true; the input reads as it did. -/
def fnExactReverseWayUptoRow : OpenClaim := { program := "yteelmjkoncomiaa", sum := "ad38608ddabc8c46aaf2621a85d1d3eb3746890ce71d0fd55f9739fd7b1486aa", func := "loop.example/g00205/laws.FnExactReverseWay", spec := "fnExactReverseWay", apart := false, narrowed := true }
def FnExactReverseWayUptoSaid : Prop := fnExactReverseWayUptoRow.holds Try.pinned (OpenSpec.upto fnExactReverseWaySpec)

/-- 'laws.FnExactHoldsAny', WHERE WHAT IT READS IS OF BULK AT MOST 1048576: true; the input reads as it did. -/
def fnExactHoldsAnyUptoRow : OpenClaim := { program := "yteelmjkoncomiaa", sum := "ad38608ddabc8c46aaf2621a85d1d3eb3746890ce71d0fd55f9739fd7b1486aa", func := "loop.example/g00205/laws.FnExactHoldsAny", spec := "fnExactHoldsAny", unfollowed := true, recurses := true, apart := false, narrowed := true }
def FnExactHoldsAnyUptoSaid : Prop := fnExactHoldsAnyUptoRow.holds Try.pinned (OpenSpec.upto fnExactHoldsAnySpec)

/-- 'laws.FnExactBuildPacket', WHERE WHAT IT READS IS OF BULK AT MOST 1048576: true; the input reads as it did. -/
def fnExactBuildPacketUptoRow : OpenClaim := { program := "yteelmjkoncomiaa", sum := "ad38608ddabc8c46aaf2621a85d1d3eb3746890ce71d0fd55f9739fd7b1486aa", func := "loop.example/g00205/laws.FnExactBuildPacket", spec := "fnExactBuildPacket", apart := false, narrowed := true }
def FnExactBuildPacketUptoSaid : Prop := fnExactBuildPacketUptoRow.holds Try.pinned (OpenSpec.upto fnExactBuildPacketSpec)

/-- 'laws.FnWithin', WHERE WHAT IT READS IS OF BULK AT MOST 1048576: true; the input reads as it did. -/
def fnWithinUptoRow : OpenClaim := { program := "yteelmjkoncomiaa", sum := "ad38608ddabc8c46aaf2621a85d1d3eb3746890ce71d0fd55f9739fd7b1486aa", func := "loop.example/g00205/laws.FnWithin", spec := "fnWithin", apart := false, narrowed := true }
def FnWithinUptoSaid : Prop := fnWithinUptoRow.holds Try.pinned (OpenSpec.upto fnWithinSpec)

/-- 'laws.FnExactShadowedRules', WHERE WHAT IT READS IS OF BULK AT MOST 1048576: true; the input reads as it did. -/
def fnExactShadowedRulesUptoRow : OpenClaim := { program := "yteelmjkoncomiaa", sum := "ad38608ddabc8c46aaf2621a85d1d3eb3746890ce71d0fd55f9739fd7b1486aa", func := "loop.example/g00205/laws.FnExactShadowedRules", spec := "fnExactShadowedRules", unfollowed := true, recurses := true, apart := false, narrowed := true }
def FnExactShadowedRulesUptoSaid : Prop := fnExactShadowedRulesUptoRow.holds Try.pinned (OpenSpec.upto fnExactShadowedRulesSpec)

/-- 'laws.FnMeets', WHERE WHAT IT READS IS OF BULK AT MOST 1048576: true; the input reads as it did. -/
def fnMeetsUptoRow : OpenClaim := { program := "yteelmjkoncomiaa", sum := "ad38608ddabc8c46aaf2621a85d1d3eb3746890ce71d0fd55f9739fd7b1486aa", func := "loop.example/g00205/laws.FnMeets", spec := "fnMeets", apart := false, narrowed := true }
def FnMeetsUptoSaid : Prop := fnMeetsUptoRow.holds Try.pinned (OpenSpec.upto fnMeetsSpec)

/-- 'laws.FnExactRulesOf', WHERE WHAT IT READS IS OF BULK AT MOST 1048576: true; the input reads as it did. -/
def fnExactRulesOfUptoRow : OpenClaim := { program := "yteelmjkoncomiaa", sum := "ad38608ddabc8c46aaf2621a85d1d3eb3746890ce71d0fd55f9739fd7b1486aa", func := "loop.example/g00205/laws.FnExactRulesOf", spec := "fnExactRulesOf", apart := false, narrowed := true }
def FnExactRulesOfUptoSaid : Prop := fnExactRulesOfUptoRow.holds Try.pinned (OpenSpec.upto fnExactRulesOfSpec)

/-- 'laws.FnExactTrimPolicy', WHERE WHAT IT READS IS OF BULK AT MOST 1048576: true; the input reads as it did. -/
def fnExactTrimPolicyUptoRow : OpenClaim := { program := "yteelmjkoncomiaa", sum := "ad38608ddabc8c46aaf2621a85d1d3eb3746890ce71d0fd55f9739fd7b1486aa", func := "loop.example/g00205/laws.FnExactTrimPolicy", spec := "fnExactTrimPolicy", unfollowed := true, recurses := true, apart := false, narrowed := true }
def FnExactTrimPolicyUptoSaid : Prop := fnExactTrimPolicyUptoRow.holds Try.pinned (OpenSpec.upto fnExactTrimPolicySpec)

/-- 'laws.FnExactActionFor', WHERE WHAT IT READS IS OF BULK AT MOST 1048576: true; the input reads as it did. -/
def fnExactActionForUptoRow : OpenClaim := { program := "yteelmjkoncomiaa", sum := "ad38608ddabc8c46aaf2621a85d1d3eb3746890ce71d0fd55f9739fd7b1486aa", func := "loop.example/g00205/laws.FnExactActionFor", spec := "fnExactActionFor", unfollowed := true, recurses := true, apart := false, narrowed := true }
def FnExactActionForUptoSaid : Prop := fnExactActionForUptoRow.holds Try.pinned (OpenSpec.upto fnExactActionForSpec)

/-- 'laws.FnExactFirstRule', WHERE WHAT IT READS IS OF BULK AT MOST 1048576: true; the input reads as it did. -/
def fnExactFirstRuleUptoRow : OpenClaim := { program := "yteelmjkoncomiaa", sum := "ad38608ddabc8c46aaf2621a85d1d3eb3746890ce71d0fd55f9739fd7b1486aa", func := "loop.example/g00205/laws.FnExactFirstRule", spec := "fnExactFirstRule", unfollowed := true, recurses := true, apart := false, narrowed := true }
def FnExactFirstRuleUptoSaid : Prop := fnExactFirstRuleUptoRow.holds Try.pinned (OpenSpec.upto fnExactFirstRuleSpec)

/-- 'laws.FnFirst', WHERE WHAT IT READS IS OF BULK AT MOST 1048576: true; the input reads as it did. -/
def fnFirstUptoRow : OpenClaim := { program := "yteelmjkoncomiaa", sum := "ad38608ddabc8c46aaf2621a85d1d3eb3746890ce71d0fd55f9739fd7b1486aa", func := "loop.example/g00205/laws.FnFirst", spec := "fnFirst", unfollowed := true, recurses := true, apart := false, narrowed := true }
def FnFirstUptoSaid : Prop := fnFirstUptoRow.holds Try.pinned (OpenSpec.upto fnFirstSpec)

end Rows
end Go.Proofs.Yteelmjkoncomiaa
