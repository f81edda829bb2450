/-
  No cell of these rows narrows 'for every input' (looked for: loops, veiled, ifaces, maps, wideKeys, modest, calm, conditions, laid).
  DERIVED. THE GIVEN ROWS OF THIS SEAT. 12 by the template 'for every input the law returns true; each argument reads behind the call as it read before'; 0 by the template 'total and deterministic' (their statements: YthmlhnfoibbhaaaTotals.lean).
  GIVEN WITH THE SEED: the statements are not yours to turn. If you find one false, say at which input.
  Laid BY PROGRAM, IN A SANDBOX (cutbox-rows.mjs): the forced cells as the released guide's own fill.sh prints them over the translation c048e9c861cbe617… (all of the seat's roots in one cut). By AI agents, Wed Nov 11 2026. No macro, syntax, notation, axiom, sorry.
-/
import Derived.Test.YthmlhnfoibbhaaaChecked
import GoSem.Claim
import GoSem.ClaimJoined
import GoSem.ClaimMapViews
import Derived.JoinedTies
import Derived.KernelRfl
namespace Go.Proofs.Ythmlhnfoibbhaaa
/- THE CELL 'sum', in the pinned program and in every row, IS THE sha256 OF THE DUMP (.gsa) THAT YthmlhnfoibbhaaaProg.lean LOADS. Nothing in Lean hashes anything: it is a label: what it is worth is what the hold of that sum in a sandbox is worth. -/
noncomputable def Try.pinned : Pinned := { name := "ythmlhnfoibbhaaa", sum := "c048e9c861cbe617ee86477c0478c7b65021eb5044e4bc9a7bc01226462ad4a8", checked := Try.checked }
namespace Rows
def none {H : Type} : Left H := { results := [], args := [] }

/-- 'laws.FnExactPutNumber': WHATEVER THE INPUT: true; the input reads as it did. -/
def fnExactPutNumberSpec : ChangeSpec := { name := "fnExactPutNumber", fn := fun _ => fun
  | [d1, d2] => { results := [.lit (.bool true)], args := [d1, d2] }
  | _ => none }
def fnExactPutNumberRow : OpenClaim := { program := "ythmlhnfoibbhaaa", sum := "c048e9c861cbe617ee86477c0478c7b65021eb5044e4bc9a7bc01226462ad4a8", func := "loop.example/g00205/laws.FnExactPutNumber", spec := "fnExactPutNumber", apart := false }
def FnExactPutNumberSaid : Prop := fnExactPutNumberRow.holds Try.pinned (OpenSpec.ofChange fnExactPutNumberSpec)

/-- ITS FALSE NEIGHBOUR: 'it returns false'. Refute it at one input. -/
def fnExactPutNumberWrong : ChangeSpec := { name := "fnExactPutNumber", fn := fun _ => fun
  | [d1, d2] => { results := [.lit (.bool false)], args := [d1, d2] }
  | _ => none }
def FnExactPutNumberWrongFalsely : Prop := fnExactPutNumberRow.holds Try.pinned (OpenSpec.ofChange fnExactPutNumberWrong)

/-- 'laws.FnExactReverseSel': WHATEVER THE INPUT: true; the input reads as it did. -/
def fnExactReverseSelSpec : ChangeSpec := { name := "fnExactReverseSel", fn := fun _ => fun
  | [d] => { results := [.lit (.bool true)], args := [d] }
  | _ => none }
def fnExactReverseSelRow : OpenClaim := { program := "ythmlhnfoibbhaaa", sum := "c048e9c861cbe617ee86477c0478c7b65021eb5044e4bc9a7bc01226462ad4a8", func := "loop.example/g00205/laws.FnExactReverseSel", spec := "fnExactReverseSel", apart := false }
def FnExactReverseSelSaid : Prop := fnExactReverseSelRow.holds Try.pinned (OpenSpec.ofChange fnExactReverseSelSpec)

/-- ITS FALSE NEIGHBOUR: 'it returns false'. Refute it at one input. -/
def fnExactReverseSelWrong : ChangeSpec := { name := "fnExactReverseSel", fn := fun _ => fun
  | [d] => { results := [.lit (.bool false)], args := [d] }
  | _ => none }
def FnExactReverseSelWrongFalsely : Prop := fnExactReverseSelRow.holds Try.pinned (OpenSpec.ofChange fnExactReverseSelWrong)

/-- 'laws.FnExactPacketFault': WHATEVER THE INPUT: true; the input reads as it did. -/
def fnExactPacketFaultSpec : ChangeSpec := { name := "fnExactPacketFault", fn := fun _ => fun
  | [d] => { results := [.lit (.bool true)], args := [d] }
  | _ => none }
def fnExactPacketFaultRow : OpenClaim := { program := "ythmlhnfoibbhaaa", sum := "c048e9c861cbe617ee86477c0478c7b65021eb5044e4bc9a7bc01226462ad4a8", func := "loop.example/g00205/laws.FnExactPacketFault", spec := "fnExactPacketFault", apart := false }
def FnExactPacketFaultSaid : Prop := fnExactPacketFaultRow.holds Try.pinned (OpenSpec.ofChange fnExactPacketFaultSpec)

/-- ITS FALSE NEIGHBOUR: 'it returns false'. Refute it at one input. -/
def fnExactPacketFaultWrong : ChangeSpec := { name := "fnExactPacketFault", fn := fun _ => fun
  | [d] => { results := [.lit (.bool false)], args := [d] }
  | _ => none }
def FnExactPacketFaultWrongFalsely : Prop := fnExactPacketFaultRow.holds Try.pinned (OpenSpec.ofChange fnExactPacketFaultWrong)

/-- 'laws.FnExactTakeParts': WHATEVER THE INPUT: true; the input reads as it did. -/
def fnExactTakePartsSpec : ChangeSpec := { name := "fnExactTakeParts", fn := fun _ => fun
  | [d] => { results := [.lit (.bool true)], args := [d] }
  | _ => none }
def fnExactTakePartsRow : OpenClaim := { program := "ythmlhnfoibbhaaa", sum := "c048e9c861cbe617ee86477c0478c7b65021eb5044e4bc9a7bc01226462ad4a8", func := "loop.example/g00205/laws.FnExactTakeParts", spec := "fnExactTakeParts", apart := false }
def FnExactTakePartsSaid : Prop := fnExactTakePartsRow.holds Try.pinned (OpenSpec.ofChange fnExactTakePartsSpec)

/-- ITS FALSE NEIGHBOUR: 'it returns false'. Refute it at one input. -/
def fnExactTakePartsWrong : ChangeSpec := { name := "fnExactTakeParts", fn := fun _ => fun
  | [d] => { results := [.lit (.bool false)], args := [d] }
  | _ => none }
def FnExactTakePartsWrongFalsely : Prop := fnExactTakePartsRow.holds Try.pinned (OpenSpec.ofChange fnExactTakePartsWrong)

/-- 'laws.FnExactSelsFault': WHATEVER THE INPUT: true; the input reads as it did. -/
def fnExactSelsFaultSpec : ChangeSpec := { name := "fnExactSelsFault", fn := fun _ => fun
  | [d] => { results := [.lit (.bool true)], args := [d] }
  | _ => none }
def fnExactSelsFaultRow : OpenClaim := { program := "ythmlhnfoibbhaaa", sum := "c048e9c861cbe617ee86477c0478c7b65021eb5044e4bc9a7bc01226462ad4a8", func := "loop.example/g00205/laws.FnExactSelsFault", spec := "fnExactSelsFault", apart := false }
def FnExactSelsFaultSaid : Prop := fnExactSelsFaultRow.holds Try.pinned (OpenSpec.ofChange fnExactSelsFaultSpec)

/-- ITS FALSE NEIGHBOUR: 'it returns false'. Refute it at one input. -/
def fnExactSelsFaultWrong : ChangeSpec := { name := "fnExactSelsFault", fn := fun _ => fun
  | [d] => { results := [.lit (.bool false)], args := [d] }
  | _ => none }
def FnExactSelsFaultWrongFalsely : Prop := fnExactSelsFaultRow.holds Try.pinned (OpenSpec.ofChange fnExactSelsFaultWrong)

/-- 'laws.FnExactEncodeFrame': WHATEVER THE INPUT: true; the input reads as it did. -/
def fnExactEncodeFrameSpec : ChangeSpec := { name := "fnExactEncodeFrame", fn := fun _ => fun
  | [d1, d2, d3, d4, d5] => { results := [.lit (.bool true)], args := [d1, d2, d3, d4, d5] }
  | _ => none }
def fnExactEncodeFrameRow : OpenClaim := { program := "ythmlhnfoibbhaaa", sum := "c048e9c861cbe617ee86477c0478c7b65021eb5044e4bc9a7bc01226462ad4a8", func := "loop.example/g00205/laws.FnExactEncodeFrame", spec := "fnExactEncodeFrame", apart := false }
def FnExactEncodeFrameSaid : Prop := fnExactEncodeFrameRow.holds Try.pinned (OpenSpec.ofChange fnExactEncodeFrameSpec)

/-- ITS FALSE NEIGHBOUR: 'it returns false'. Refute it at one input. -/
def fnExactEncodeFrameWrong : ChangeSpec := { name := "fnExactEncodeFrame", fn := fun _ => fun
  | [d1, d2, d3, d4, d5] => { results := [.lit (.bool false)], args := [d1, d2, d3, d4, d5] }
  | _ => none }
def FnExactEncodeFrameWrongFalsely : Prop := fnExactEncodeFrameRow.holds Try.pinned (OpenSpec.ofChange fnExactEncodeFrameWrong)

/-- 'laws.FnLengths': WHATEVER THE INPUT: true; the input reads as it did. -/
def fnLengthsSpec : ChangeSpec := { name := "fnLengths", fn := fun _ => fun
  | [d] => { results := [.lit (.bool true)], args := [d] }
  | _ => none }
def fnLengthsRow : OpenClaim := { program := "ythmlhnfoibbhaaa", sum := "c048e9c861cbe617ee86477c0478c7b65021eb5044e4bc9a7bc01226462ad4a8", func := "loop.example/g00205/laws.FnLengths", spec := "fnLengths", apart := false }
def FnLengthsSaid : Prop := fnLengthsRow.holds Try.pinned (OpenSpec.ofChange fnLengthsSpec)

/-- ITS FALSE NEIGHBOUR: 'it returns false'. Refute it at one input. -/
def fnLengthsWrong : ChangeSpec := { name := "fnLengths", fn := fun _ => fun
  | [d] => { results := [.lit (.bool false)], args := [d] }
  | _ => none }
def FnLengthsWrongFalsely : Prop := fnLengthsRow.holds Try.pinned (OpenSpec.ofChange fnLengthsWrong)

/-- 'laws.FnExactPutParts': WHATEVER THE INPUT: true; the input reads as it did. -/
def fnExactPutPartsSpec : ChangeSpec := { name := "fnExactPutParts", fn := fun _ => fun
  | [d] => { results := [.lit (.bool true)], args := [d] }
  | _ => none }
def fnExactPutPartsRow : OpenClaim := { program := "ythmlhnfoibbhaaa", sum := "c048e9c861cbe617ee86477c0478c7b65021eb5044e4bc9a7bc01226462ad4a8", func := "loop.example/g00205/laws.FnExactPutParts", spec := "fnExactPutParts", apart := false }
def FnExactPutPartsSaid : Prop := fnExactPutPartsRow.holds Try.pinned (OpenSpec.ofChange fnExactPutPartsSpec)

/-- ITS FALSE NEIGHBOUR: 'it returns false'. Refute it at one input. -/
def fnExactPutPartsWrong : ChangeSpec := { name := "fnExactPutParts", fn := fun _ => fun
  | [d] => { results := [.lit (.bool false)], args := [d] }
  | _ => none }
def FnExactPutPartsWrongFalsely : Prop := fnExactPutPartsRow.holds Try.pinned (OpenSpec.ofChange fnExactPutPartsWrong)

/-- 'laws.FnExactPolicyFault': WHATEVER THE INPUT: true; the input reads as it did. -/
def fnExactPolicyFaultSpec : ChangeSpec := { name := "fnExactPolicyFault", fn := fun _ => fun
  | [d] => { results := [.lit (.bool true)], args := [d] }
  | _ => none }
def fnExactPolicyFaultRow : OpenClaim := { program := "ythmlhnfoibbhaaa", sum := "c048e9c861cbe617ee86477c0478c7b65021eb5044e4bc9a7bc01226462ad4a8", func := "loop.example/g00205/laws.FnExactPolicyFault", spec := "fnExactPolicyFault", apart := false }
def FnExactPolicyFaultSaid : Prop := fnExactPolicyFaultRow.holds Try.pinned (OpenSpec.ofChange fnExactPolicyFaultSpec)

/-- ITS FALSE NEIGHBOUR: 'it returns false'. Refute it at one input. -/
def fnExactPolicyFaultWrong : ChangeSpec := { name := "fnExactPolicyFault", fn := fun _ => fun
  | [d] => { results := [.lit (.bool false)], args := [d] }
  | _ => none }
def FnExactPolicyFaultWrongFalsely : Prop := fnExactPolicyFaultRow.holds Try.pinned (OpenSpec.ofChange fnExactPolicyFaultWrong)

/-- 'laws.FnExactHolds': WHATEVER THE INPUT: true; the input reads as it did. -/
def fnExactHoldsSpec : ChangeSpec := { name := "fnExactHolds", fn := fun _ => fun
  | [d1, d2] => { results := [.lit (.bool true)], args := [d1, d2] }
  | _ => none }
def fnExactHoldsRow : OpenClaim := { program := "ythmlhnfoibbhaaa", sum := "c048e9c861cbe617ee86477c0478c7b65021eb5044e4bc9a7bc01226462ad4a8", func := "loop.example/g00205/laws.FnExactHolds", spec := "fnExactHolds", apart := false }
def FnExactHoldsSaid : Prop := fnExactHoldsRow.holds Try.pinned (OpenSpec.ofChange fnExactHoldsSpec)

/-- ITS FALSE NEIGHBOUR: 'it returns false'. Refute it at one input. -/
def fnExactHoldsWrong : ChangeSpec := { name := "fnExactHolds", fn := fun _ => fun
  | [d1, d2] => { results := [.lit (.bool false)], args := [d1, d2] }
  | _ => none }
def FnExactHoldsWrongFalsely : Prop := fnExactHoldsRow.holds Try.pinned (OpenSpec.ofChange fnExactHoldsWrong)

/-- 'laws.FnExactSampleOf': WHATEVER THE INPUT: true; the input reads as it did. -/
def fnExactSampleOfSpec : ChangeSpec := { name := "fnExactSampleOf", fn := fun _ => fun
  | [d] => { results := [.lit (.bool true)], args := [d] }
  | _ => none }
def fnExactSampleOfRow : OpenClaim := { program := "ythmlhnfoibbhaaa", sum := "c048e9c861cbe617ee86477c0478c7b65021eb5044e4bc9a7bc01226462ad4a8", func := "loop.example/g00205/laws.FnExactSampleOf", spec := "fnExactSampleOf", apart := false }
def FnExactSampleOfSaid : Prop := fnExactSampleOfRow.holds Try.pinned (OpenSpec.ofChange fnExactSampleOfSpec)

/-- ITS FALSE NEIGHBOUR: 'it returns false'. Refute it at one input. -/
def fnExactSampleOfWrong : ChangeSpec := { name := "fnExactSampleOf", fn := fun _ => fun
  | [d] => { results := [.lit (.bool false)], args := [d] }
  | _ => none }
def FnExactSampleOfWrongFalsely : Prop := fnExactSampleOfRow.holds Try.pinned (OpenSpec.ofChange fnExactSampleOfWrong)

/-- 'laws.FnExactMeetSels': WHATEVER THE INPUT: true; the input reads as it did. -/
def fnExactMeetSelsSpec : ChangeSpec := { name := "fnExactMeetSels", fn := fun _ => fun
  | [d1, d2] => { results := [.lit (.bool true)], args := [d1, d2] }
  | _ => none }
def fnExactMeetSelsRow : OpenClaim := { program := "ythmlhnfoibbhaaa", sum := "c048e9c861cbe617ee86477c0478c7b65021eb5044e4bc9a7bc01226462ad4a8", func := "loop.example/g00205/laws.FnExactMeetSels", spec := "fnExactMeetSels", apart := false }
def FnExactMeetSelsSaid : Prop := fnExactMeetSelsRow.holds Try.pinned (OpenSpec.ofChange fnExactMeetSelsSpec)

/-- ITS FALSE NEIGHBOUR: 'it returns false'. Refute it at one input. -/
def fnExactMeetSelsWrong : ChangeSpec := { name := "fnExactMeetSels", fn := fun _ => fun
  | [d1, d2] => { results := [.lit (.bool false)], args := [d1, d2] }
  | _ => none }
def FnExactMeetSelsWrongFalsely : Prop := fnExactMeetSelsRow.holds Try.pinned (OpenSpec.ofChange fnExactMeetSelsWrong)

/- THE SECOND FORM. 'bulk': how many values and letters a reading holds, each counted each time it is reached (what is shared counts as often as it is met; a slice's spare places count too). A statement '..UptoSaid' is the law's where the arguments, and the package variables that the reading takes, are together of bulk at most 1048576: NARROWER than '..Said'. Prove '..Said' where nothing that the law and all that it calls make is longer than what came in: it says more and counts as full. Else prove '..UptoSaid'. A law counts once. -/
mutual
def uptoBulk {H : Type} : DataW H → Nat
  | .lit (.string bytes) => bytes.length + 1
  | .lit _ => 1
  | .nil => 1
  | .ptr d => uptoBulk d + 1
  | .slice elems spare => uptoBulkAll elems + uptoBulkAll spare + 1
  | .agg parts => uptoBulkAll parts + 1
  | .iface _ d => uptoBulk d + 1
  | .map entries => uptoBulkEntries entries + 1
  | .held _ => 1
def uptoBulkAll {H : Type} : List (DataW H) → Nat
  | [] => 0
  | d :: r => uptoBulk d + uptoBulkAll r
def uptoBulkEntries {H : Type} : List (Lit × DataW H) → Nat
  | [] => 0
  | x :: r => uptoBulkEntry x + uptoBulkEntries r
def uptoBulkEntry {H : Type} : Lit × DataW H → Nat
  | (.string bytes, d) => bytes.length + uptoBulk d + 1
  | (_, d) => uptoBulk d + 1
 end
def uptoSmall : (H : Type) → List (DataW H) → Bool := fun _ ds => decide (uptoBulkAll ds ≤ 1048576)
def OpenSpec.upto (s : _root_.Go.ChangeSpec) : _root_.Go.OpenSpec := { _root_.Go.OpenSpec.ofChange s with cond := some uptoSmall }

/-- 'laws.FnExactPutNumber', WHERE WHAT IT READS IS OF BULK AT MOST 1048576: true; the input reads as it did. -/
def fnExactPutNumberUptoRow : OpenClaim := { program := "ythmlhnfoibbhaaa", sum := "c048e9c861cbe617ee86477c0478c7b65021eb5044e4bc9a7bc01226462ad4a8", func := "loop.example/g00205/laws.FnExactPutNumber", spec := "fnExactPutNumber", apart := false, narrowed := true }
def FnExactPutNumberUptoSaid : Prop := fnExactPutNumberUptoRow.holds Try.pinned (OpenSpec.upto fnExactPutNumberSpec)

/-- 'laws.FnExactReverseSel', WHERE WHAT IT READS IS OF BULK AT MOST 1048576: true; the input reads as it did. -/
def fnExactReverseSelUptoRow : OpenClaim := { program := "ythmlhnfoibbhaaa", sum := "c048e9c861cbe617ee86477c0478c7b65021eb5044e4bc9a7bc01226462ad4a8", func := "loop.example/g00205/laws.FnExactReverseSel", spec := "fnExactReverseSel", apart := false, narrowed := true }
def FnExactReverseSelUptoSaid : Prop := fnExactReverseSelUptoRow.holds Try.pinned (OpenSpec.upto fnExactReverseSelSpec)

/-- 'laws.FnExactPacketFault', WHERE WHAT IT READS IS OF BULK AT MOST 1048576: true; the input reads as it did. -/
def fnExactPacketFaultUptoRow : OpenClaim := { program := "ythmlhnfoibbhaaa", sum := "c048e9c861cbe617ee86477c0478c7b65021eb5044e4bc9a7bc01226462ad4a8", func := "loop.example/g00205/laws.FnExactPacketFault", spec := "fnExactPacketFault", apart := false, narrowed := true }
def FnExactPacketFaultUptoSaid : Prop := fnExactPacketFaultUptoRow.holds Try.pinned (OpenSpec.upto fnExactPacketFaultSpec)

/-- 'laws.FnExactTakeParts', WHERE WHAT IT READS IS OF BULK AT MOST 1048576: true; the input reads as it did. -/
def fnExactTakePartsUptoRow : OpenClaim := { program := "ythmlhnfoibbhaaa", sum := "c048e9c861cbe617ee86477c0478c7b65021eb5044e4bc9a7bc01226462ad4a8", func := "loop.example/g00205/laws.FnExactTakeParts", spec := "fnExactTakeParts", apart := false, narrowed := true }
def FnExactTakePartsUptoSaid : Prop := fnExactTakePartsUptoRow.holds Try.pinned (OpenSpec.upto fnExactTakePartsSpec)

/-- 'laws.FnExactSelsFault', WHERE WHAT IT READS IS OF BULK AT MOST 1048576: true; the input reads as it did. -/
def fnExactSelsFaultUptoRow : OpenClaim := { program := "ythmlhnfoibbhaaa", sum := "c048e9c861cbe617ee86477c0478c7b65021eb5044e4bc9a7bc01226462ad4a8", func := "loop.example/g00205/laws.FnExactSelsFault", spec := "fnExactSelsFault", apart := false, narrowed := true }
def FnExactSelsFaultUptoSaid : Prop := fnExactSelsFaultUptoRow.holds Try.pinned (OpenSpec.upto fnExactSelsFaultSpec)

/-- 'laws.FnExactEncodeFrame', WHERE WHAT IT READS IS OF BULK AT MOST 1048576: true; the input reads as it did. -/
def fnExactEncodeFrameUptoRow : OpenClaim := { program := "ythmlhnfoibbhaaa", sum := "c048e9c861cbe617ee86477c0478c7b65021eb5044e4bc9a7bc01226462ad4a8", func := "loop.example/g00205/laws.FnExactEncodeFrame", spec := "fnExactEncodeFrame", apart := false, narrowed := true }
def FnExactEncodeFrameUptoSaid : Prop := fnExactEncodeFrameUptoRow.holds Try.pinned (OpenSpec.upto fnExactEncodeFrameSpec)

/-- 'laws.FnLengths', WHERE WHAT IT READS IS OF BULK AT MOST 1048576: true; the input reads as it did. -/
def fnLengthsUptoRow : OpenClaim := { program := "ythmlhnfoibbhaaa", sum := "c048e9c861cbe617ee86477c0478c7b65021eb5044e4bc9a7bc01226462ad4a8", func := "loop.example/g00205/laws.FnLengths", spec := "fnLengths", apart := false, narrowed := true }
def FnLengthsUptoSaid : Prop := fnLengthsUptoRow.holds Try.pinned (OpenSpec.upto fnLengthsSpec)

/-- 'laws.FnExactPutParts', WHERE WHAT IT READS IS OF BULK AT MOST 1048576: true; the input reads as it did. -/
def fnExactPutPartsUptoRow : OpenClaim := { program := "ythmlhnfoibbhaaa", sum := "c048e9c861cbe617ee86477c0478c7b65021eb5044e4bc9a7bc01226462ad4a8", func := "loop.example/g00205/laws.FnExactPutParts", spec := "fnExactPutParts", apart := false, narrowed := true }
def FnExactPutPartsUptoSaid : Prop := fnExactPutPartsUptoRow.holds Try.pinned (OpenSpec.upto fnExactPutPartsSpec)

/-- 'laws.FnExactPolicyFault', WHERE WHAT IT READS IS OF BULK AT MOST 1048576: true; the input reads as it did. -/
def fnExactPolicyFaultUptoRow : OpenClaim := { program := "ythmlhnfoibbhaaa", sum := "c048e9c861cbe617ee86477c0478c7b65021eb5044e4bc9a7bc01226462ad4a8", func := "loop.example/g00205/laws.FnExactPolicyFault", spec := "fnExactPolicyFault", apart := false, narrowed := true }
def FnExactPolicyFaultUptoSaid : Prop := fnExactPolicyFaultUptoRow.holds Try.pinned (OpenSpec.upto fnExactPolicyFaultSpec)

/-- 'laws.FnExactHolds', WHERE WHAT IT READS IS OF BULK AT MOST 1048576: true; the input reads as it did. -/
def fnExactHoldsUptoRow : OpenClaim := { program := "ythmlhnfoibbhaaa", sum := "c048e9c861cbe617ee86477c0478c7b65021eb5044e4bc9a7bc01226462ad4a8", func := "loop.example/g00205/laws.FnExactHolds", spec := "fnExactHolds", apart := false, narrowed := true }
def FnExactHoldsUptoSaid : Prop := fnExactHoldsUptoRow.holds Try.pinned (OpenSpec.upto fnExactHoldsSpec)

/-- 'laws.FnExactSampleOf', WHERE WHAT IT READS IS OF BULK AT MOST 1048576: true; the input reads as it did. -/
def fnExactSampleOfUptoRow : OpenClaim := { program := "ythmlhnfoibbhaaa", sum := "c048e9c861cbe617ee86477c0478c7b65021eb5044e4bc9a7bc01226462ad4a8", func := "loop.example/g00205/laws.FnExactSampleOf", spec := "fnExactSampleOf", apart := false, narrowed := true }
def FnExactSampleOfUptoSaid : Prop := fnExactSampleOfUptoRow.holds Try.pinned (OpenSpec.upto fnExactSampleOfSpec)

/-- 'laws.FnExactMeetSels', WHERE WHAT IT READS IS OF BULK AT MOST 1048576: true; the input reads as it did. -/
def fnExactMeetSelsUptoRow : OpenClaim := { program := "ythmlhnfoibbhaaa", sum := "c048e9c861cbe617ee86477c0478c7b65021eb5044e4bc9a7bc01226462ad4a8", func := "loop.example/g00205/laws.FnExactMeetSels", spec := "fnExactMeetSels", apart := false, narrowed := true }
def FnExactMeetSelsUptoSaid : Prop := fnExactMeetSelsUptoRow.holds Try.pinned (OpenSpec.upto fnExactMeetSelsSpec)

end Rows
end Go.Proofs.Ythmlhnfoibbhaaa
