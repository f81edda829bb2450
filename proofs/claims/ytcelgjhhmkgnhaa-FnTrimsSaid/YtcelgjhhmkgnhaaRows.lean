/-
  No cell of these rows narrows 'for every input' (looked for: loops, veiled, ifaces, maps, wideKeys, modest, calm, conditions, laid).
  DERIVED. THE GIVEN ROWS OF THIS SEAT. 9 by the template 'for every input the law returns true; each argument reads behind the call as it read before'; 0 by the template 'total and deterministic' (their statements: YtcelgjhhmkgnhaaTotals.lean).
  GIVEN WITH THE SEED: the statements are not yours to turn. If you find one false, say at which input.
  Laid BY PROGRAM, IN A SANDBOX (cutbox-rows.mjs): the forced cells as the released guide's own fill.sh prints them over the translation e922bbb38acf5b50… (all of the seat's roots in one cut). By AI agents, Wed Nov 11 2026. No macro, syntax, notation, axiom, sorry.
-/
import Derived.Test.YtcelgjhhmkgnhaaChecked
import GoSem.Claim
import GoSem.ClaimJoined
import GoSem.ClaimMapViews
import Derived.JoinedTies
import Derived.KernelRfl
namespace Go.Proofs.Ytcelgjhhmkgnhaa
/- THE CELL 'sum', in the pinned program and in every row, IS THE sha256 OF THE DUMP (.gsa) THAT YtcelgjhhmkgnhaaProg.lean LOADS. Nothing in Lean hashes anything: it is a label: what it is worth is what the hold of that sum in a sandbox is worth. -/
noncomputable def Try.pinned : Pinned := { name := "ytcelgjhhmkgnhaa", sum := "e922bbb38acf5b505ae7c318151b3a4f07614c6b6853cb6dfb706d614708f1cd", checked := Try.checked }
namespace Rows
def none {H : Type} : Left H := { results := [], args := [] }

/-- 'laws.FnSums': WHATEVER THE INPUT: true; the input reads as it did. -/
def fnSumsSpec : ChangeSpec := { name := "fnSums", fn := fun _ => fun
  | [d] => { results := [.lit (.bool true)], args := [d] }
  | _ => none }
def fnSumsRow : OpenClaim := { program := "ytcelgjhhmkgnhaa", sum := "e922bbb38acf5b505ae7c318151b3a4f07614c6b6853cb6dfb706d614708f1cd", func := "loop.example/g00205/laws.FnSums", spec := "fnSums", apart := false }
def FnSumsSaid : Prop := fnSumsRow.holds Try.pinned (OpenSpec.ofChange fnSumsSpec)

/-- ITS FALSE NEIGHBOUR: 'it returns false'. Refute it at one input. -/
def fnSumsWrong : ChangeSpec := { name := "fnSums", fn := fun _ => fun
  | [d] => { results := [.lit (.bool false)], args := [d] }
  | _ => none }
def FnSumsWrongFalsely : Prop := fnSumsRow.holds Try.pinned (OpenSpec.ofChange fnSumsWrong)

/-- 'laws.FnLengths': WHATEVER THE INPUT: true; the input reads as it did. -/
def fnLengthsSpec : ChangeSpec := { name := "fnLengths", fn := fun _ => fun
  | [d] => { results := [.lit (.bool true)], args := [d] }
  | _ => none }
def fnLengthsRow : OpenClaim := { program := "ytcelgjhhmkgnhaa", sum := "e922bbb38acf5b505ae7c318151b3a4f07614c6b6853cb6dfb706d614708f1cd", func := "loop.example/g00205/laws.FnLengths", spec := "fnLengths", apart := false }
def FnLengthsSaid : Prop := fnLengthsRow.holds Try.pinned (OpenSpec.ofChange fnLengthsSpec)

/-- ITS FALSE NEIGHBOUR: 'it returns false'. Refute it at one input. -/
def fnLengthsWrong : ChangeSpec := { name := "fnLengths", fn := fun _ => fun
  | [d] => { results := [.lit (.bool false)], args := [d] }
  | _ => none }
def FnLengthsWrongFalsely : Prop := fnLengthsRow.holds Try.pinned (OpenSpec.ofChange fnLengthsWrong)

/-- 'laws.FnExactNarrowSels': WHATEVER THE INPUT: true; the input reads as it did. -/
def fnExactNarrowSelsSpec : ChangeSpec := { name := "fnExactNarrowSels", fn := fun _ => fun
  | [d1, d2] => { results := [.lit (.bool true)], args := [d1, d2] }
  | _ => none }
def fnExactNarrowSelsRow : OpenClaim := { program := "ytcelgjhhmkgnhaa", sum := "e922bbb38acf5b505ae7c318151b3a4f07614c6b6853cb6dfb706d614708f1cd", func := "loop.example/g00205/laws.FnExactNarrowSels", spec := "fnExactNarrowSels", unfollowed := true, recurses := true, apart := false }
def FnExactNarrowSelsSaid : Prop := fnExactNarrowSelsRow.holds Try.pinned (OpenSpec.ofChange fnExactNarrowSelsSpec)

/-- ITS FALSE NEIGHBOUR: 'it returns false'. Refute it at one input. -/
def fnExactNarrowSelsWrong : ChangeSpec := { name := "fnExactNarrowSels", fn := fun _ => fun
  | [d1, d2] => { results := [.lit (.bool false)], args := [d1, d2] }
  | _ => none }
def FnExactNarrowSelsWrongFalsely : Prop := fnExactNarrowSelsRow.holds Try.pinned (OpenSpec.ofChange fnExactNarrowSelsWrong)

/-- 'laws.FnExactSwapRules': WHATEVER THE INPUT: true; the input reads as it did. -/
def fnExactSwapRulesSpec : ChangeSpec := { name := "fnExactSwapRules", fn := fun _ => fun
  | [d1, d2] => { results := [.lit (.bool true)], args := [d1, d2] }
  | _ => none }
def fnExactSwapRulesRow : OpenClaim := { program := "ytcelgjhhmkgnhaa", sum := "e922bbb38acf5b505ae7c318151b3a4f07614c6b6853cb6dfb706d614708f1cd", func := "loop.example/g00205/laws.FnExactSwapRules", spec := "fnExactSwapRules", apart := false }
def FnExactSwapRulesSaid : Prop := fnExactSwapRulesRow.holds Try.pinned (OpenSpec.ofChange fnExactSwapRulesSpec)

/-- ITS FALSE NEIGHBOUR: 'it returns false'. Refute it at one input. -/
def fnExactSwapRulesWrong : ChangeSpec := { name := "fnExactSwapRules", fn := fun _ => fun
  | [d1, d2] => { results := [.lit (.bool false)], args := [d1, d2] }
  | _ => none }
def FnExactSwapRulesWrongFalsely : Prop := fnExactSwapRulesRow.holds Try.pinned (OpenSpec.ofChange fnExactSwapRulesWrong)

/-- 'laws.FnWithin': WHATEVER THE INPUT: true; the input reads as it did. -/
def fnWithinSpec : ChangeSpec := { name := "fnWithin", fn := fun _ => fun
  | [d] => { results := [.lit (.bool true)], args := [d] }
  | _ => none }
def fnWithinRow : OpenClaim := { program := "ytcelgjhhmkgnhaa", sum := "e922bbb38acf5b505ae7c318151b3a4f07614c6b6853cb6dfb706d614708f1cd", func := "loop.example/g00205/laws.FnWithin", spec := "fnWithin", apart := false }
def FnWithinSaid : Prop := fnWithinRow.holds Try.pinned (OpenSpec.ofChange fnWithinSpec)

/-- ITS FALSE NEIGHBOUR: 'it returns false'. Refute it at one input. -/
def fnWithinWrong : ChangeSpec := { name := "fnWithin", fn := fun _ => fun
  | [d] => { results := [.lit (.bool false)], args := [d] }
  | _ => none }
def FnWithinWrongFalsely : Prop := fnWithinRow.holds Try.pinned (OpenSpec.ofChange fnWithinWrong)

/-- 'laws.FnMeets': WHATEVER THE INPUT: true; the input reads as it did. -/
def fnMeetsSpec : ChangeSpec := { name := "fnMeets", fn := fun _ => fun
  | [d] => { results := [.lit (.bool true)], args := [d] }
  | _ => none }
def fnMeetsRow : OpenClaim := { program := "ytcelgjhhmkgnhaa", sum := "e922bbb38acf5b505ae7c318151b3a4f07614c6b6853cb6dfb706d614708f1cd", func := "loop.example/g00205/laws.FnMeets", spec := "fnMeets", apart := false }
def FnMeetsSaid : Prop := fnMeetsRow.holds Try.pinned (OpenSpec.ofChange fnMeetsSpec)

/-- ITS FALSE NEIGHBOUR: 'it returns false'. Refute it at one input. -/
def fnMeetsWrong : ChangeSpec := { name := "fnMeets", fn := fun _ => fun
  | [d] => { results := [.lit (.bool false)], args := [d] }
  | _ => none }
def FnMeetsWrongFalsely : Prop := fnMeetsRow.holds Try.pinned (OpenSpec.ofChange fnMeetsWrong)

/-- 'laws.FnFirst': WHATEVER THE INPUT: true; the input reads as it did. -/
def fnFirstSpec : ChangeSpec := { name := "fnFirst", fn := fun _ => fun
  | [d] => { results := [.lit (.bool true)], args := [d] }
  | _ => none }
def fnFirstRow : OpenClaim := { program := "ytcelgjhhmkgnhaa", sum := "e922bbb38acf5b505ae7c318151b3a4f07614c6b6853cb6dfb706d614708f1cd", func := "loop.example/g00205/laws.FnFirst", spec := "fnFirst", unfollowed := true, recurses := true, apart := false }
def FnFirstSaid : Prop := fnFirstRow.holds Try.pinned (OpenSpec.ofChange fnFirstSpec)

/-- ITS FALSE NEIGHBOUR: 'it returns false'. Refute it at one input. -/
def fnFirstWrong : ChangeSpec := { name := "fnFirst", fn := fun _ => fun
  | [d] => { results := [.lit (.bool false)], args := [d] }
  | _ => none }
def FnFirstWrongFalsely : Prop := fnFirstRow.holds Try.pinned (OpenSpec.ofChange fnFirstWrong)

/-- 'laws.FnNarrows': WHATEVER THE INPUT: true; the input reads as it did. -/
def fnNarrowsSpec : ChangeSpec := { name := "fnNarrows", fn := fun _ => fun
  | [d] => { results := [.lit (.bool true)], args := [d] }
  | _ => none }
def fnNarrowsRow : OpenClaim := { program := "ytcelgjhhmkgnhaa", sum := "e922bbb38acf5b505ae7c318151b3a4f07614c6b6853cb6dfb706d614708f1cd", func := "loop.example/g00205/laws.FnNarrows", spec := "fnNarrows", unfollowed := true, recurses := true, apart := false }
def FnNarrowsSaid : Prop := fnNarrowsRow.holds Try.pinned (OpenSpec.ofChange fnNarrowsSpec)

/-- ITS FALSE NEIGHBOUR: 'it returns false'. Refute it at one input. -/
def fnNarrowsWrong : ChangeSpec := { name := "fnNarrows", fn := fun _ => fun
  | [d] => { results := [.lit (.bool false)], args := [d] }
  | _ => none }
def FnNarrowsWrongFalsely : Prop := fnNarrowsRow.holds Try.pinned (OpenSpec.ofChange fnNarrowsWrong)

/-- 'laws.FnTrims': WHATEVER THE INPUT: true; the input reads as it did. -/
def fnTrimsSpec : ChangeSpec := { name := "fnTrims", fn := fun _ => fun
  | [d] => { results := [.lit (.bool true)], args := [d] }
  | _ => none }
def fnTrimsRow : OpenClaim := { program := "ytcelgjhhmkgnhaa", sum := "e922bbb38acf5b505ae7c318151b3a4f07614c6b6853cb6dfb706d614708f1cd", func := "loop.example/g00205/laws.FnTrims", spec := "fnTrims", unfollowed := true, recurses := true, apart := false }
def FnTrimsSaid : Prop := fnTrimsRow.holds Try.pinned (OpenSpec.ofChange fnTrimsSpec)

/-- ITS FALSE NEIGHBOUR: 'it returns false'. Refute it at one input. -/
def fnTrimsWrong : ChangeSpec := { name := "fnTrims", fn := fun _ => fun
  | [d] => { results := [.lit (.bool false)], args := [d] }
  | _ => none }
def FnTrimsWrongFalsely : Prop := fnTrimsRow.holds Try.pinned (OpenSpec.ofChange fnTrimsWrong)

/- THE SECOND FORM. 'bulk': how many values and letters a reading holds, each counted each time it is reached (what is shared counts as often as it is met; a slice's spare places count too). A statement '..UptoSaid' is the law's where the arguments, and the package variables that the reading takes, are together of bulk at most 1048576: NARROWER than '..Said'. Prove '..Said' where nothing that the law and all that it calls make is longer than what came in: it says more and counts as full. Else prove '..UptoSaid'. A law counts once. -/
mutual
def uptoBulk {H : Type} : DataW H → Nat
  | .lit (.string bytes) => bytes.length + 1
  | .lit _ => 1
  | .nil => 1
  | .ptr d => uptoBulk d + 1
  | .slice elems spare => uptoBulkAll elems + uptoBulkAll spare + 1
  | .agg parts => uptoBulkAll parts + 1
  | .iface _ d => uptoBulk d + 1
  | .map entries => uptoBulkEntries entries + 1
  | .held _ => 1
def uptoBulkAll {H : Type} : List (DataW H) → Nat
  | [] => 0
  | d :: r => uptoBulk d + uptoBulkAll r
def uptoBulkEntries {H : Type} : List (Lit × DataW H) → Nat
  | [] => 0
  | x :: r => uptoBulkEntry x + uptoBulkEntries r
def uptoBulkEntry {H : Type} : Lit × DataW H → Nat
  | (.string bytes, d) => bytes.length + uptoBulk d + 1
  | (_, d) => uptoBulk d + 1
 end
def uptoSmall : (H : Type) → List (DataW H) → Bool := fun _ ds => decide (uptoBulkAll ds ≤ 1048576)
def OpenSpec.upto (s : _root_.Go.ChangeSpec) : _root_.Go.OpenSpec := { _root_.Go.OpenSpec.ofChange s with cond := some uptoSmall }

/-- 'laws.FnSums', WHERE WHAT IT READS IS OF BULK AT MOST 1048576: true; the input reads as it did. -/
def fnSumsUptoRow : OpenClaim := { program := "ytcelgjhhmkgnhaa", sum := "e922bbb38acf5b505ae7c318151b3a4f07614c6b6853cb6dfb706d614708f1cd", func := "loop.example/g00205/laws.FnSums", spec := "fnSums", apart := false, narrowed := true }
def FnSumsUptoSaid : Prop := fnSumsUptoRow.holds Try.pinned (OpenSpec.upto fnSumsSpec)

/-- 'laws.FnLengths', WHERE WHAT IT READS IS OF BULK AT MOST 1048576: true; the input reads as it did. -/
def fnLengthsUptoRow : OpenClaim := { program := "ytcelgjhhmkgnhaa", sum := "e922bbb38acf5b505ae7c318151b3a4f07614c6b6853cb6dfb706d614708f1cd", func := "loop.example/g00205/laws.FnLengths", spec := "fnLengths", apart := false, narrowed := true }
def FnLengthsUptoSaid : Prop := fnLengthsUptoRow.holds Try.pinned (OpenSpec.upto fnLengthsSpec)

/-- 'laws.FnExactNarrowSels', WHERE WHAT IT READS IS OF BULK AT MOST 1048576: true; the input reads as it did. -/
def fnExactNarrowSelsUptoRow : OpenClaim := { program := "ytcelgjhhmkgnhaa", sum := "e922bbb38acf5b505ae7c318151b3a4f07614c6b6853cb6dfb706d614708f1cd", func := "loop.example/g00205/laws.FnExactNarrowSels", spec := "fnExactNarrowSels", unfollowed := true, recurses := true, apart := false, narrowed := true }
def FnExactNarrowSelsUptoSaid : Prop := fnExactNarrowSelsUptoRow.holds Try.pinned (OpenSpec.upto fnExactNarrowSelsSpec)

/-- 'laws.FnExactSwapRules', WHERE WHAT IT READS IS OF BULK AT MOST 1048576: true; the input reads as it did. -/
def fnExactSwapRulesUptoRow : OpenClaim := { program := "ytcelgjhhmkgnhaa", sum := "e922bbb38acf5b505ae7c318151b3a4f07614c6b6853cb6dfb706d614708f1cd", func := "loop.example/g00205/laws.FnExactSwapRules", spec := "fnExactSwapRules", apart := false, narrowed := true }
def FnExactSwapRulesUptoSaid : Prop := fnExactSwapRulesUptoRow.holds Try.pinned (OpenSpec.upto fnExactSwapRulesSpec)

/-- 'laws.FnWithin', WHERE WHAT IT READS IS OF BULK AT MOST 1048576: true; the input reads as it did. -/
def fnWithinUptoRow : OpenClaim := { program := "ytcelgjhhmkgnhaa", sum := "e922bbb38acf5b505ae7c318151b3a4f07614c6b6853cb6dfb706d614708f1cd", func := "loop.example/g00205/laws.FnWithin", spec := "fnWithin", apart := false, narrowed := true }
def FnWithinUptoSaid : Prop := fnWithinUptoRow.holds Try.pinned (OpenSpec.upto fnWithinSpec)

/-- 'laws.FnMeets', WHERE WHAT IT READS IS OF BULK AT MOST 1048576: true; the input reads as it did. -/
def fnMeetsUptoRow : OpenClaim := { program := "ytcelgjhhmkgnhaa", sum := "e922bbb38acf5b505ae7c318151b3a4f07614c6b6853cb6dfb706d614708f1cd", func := "loop.example/g00205/laws.FnMeets", spec := "fnMeets", apart := false, narrowed := true }
def FnMeetsUptoSaid : Prop := fnMeetsUptoRow.holds Try.pinned (OpenSpec.upto fnMeetsSpec)

/-- 'laws.FnFirst', WHERE WHAT IT READS IS OF BULK AT MOST 1048576: true; the input reads as it did. -/
def fnFirstUptoRow : OpenClaim := { program := "ytcelgjhhmkgnhaa", sum := "e922bbb38acf5b505ae7c318151b3a4f07614c6b6853cb6dfb706d614708f1cd", func := "loop.example/g00205/laws.FnFirst", spec := "fnFirst", unfollowed := true, recurses := true, apart := false, narrowed := true }
def FnFirstUptoSaid : Prop := fnFirstUptoRow.holds Try.pinned (OpenSpec.upto fnFirstSpec)

/-- 'laws.FnNarrows', WHERE WHAT IT READS IS OF BULK AT MOST 1048576: true; the input reads as it did. -/
def fnNarrowsUptoRow : OpenClaim := { program := "ytcelgjhhmkgnhaa", sum := "e922bbb38acf5b505ae7c318151b3a4f07614c6b6853cb6dfb706d614708f1cd", func := "loop.example/g00205/laws.FnNarrows", spec := "fnNarrows", unfollowed := true, recurses := true, apart := false, narrowed := true }
def FnNarrowsUptoSaid : Prop := fnNarrowsUptoRow.holds Try.pinned (OpenSpec.upto fnNarrowsSpec)

/-- 'laws.FnTrims', WHERE WHAT IT READS IS OF BULK AT MOST 1048576: true; the input reads as it did. -/
def fnTrimsUptoRow : OpenClaim := { program := "ytcelgjhhmkgnhaa", sum := "e922bbb38acf5b505ae7c318151b3a4f07614c6b6853cb6dfb706d614708f1cd", func := "loop.example/g00205/laws.FnTrims", spec := "fnTrims", unfollowed := true, recurses := true, apart := false, narrowed := true }
def FnTrimsUptoSaid : Prop := fnTrimsUptoRow.holds Try.pinned (OpenSpec.upto fnTrimsSpec)

end Rows
end Go.Proofs.Ytcelgjhhmkgnhaa
