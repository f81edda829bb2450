/-
  No cell of these rows narrows 'for every input' (looked for: loops, veiled, ifaces, maps, wideKeys, modest, calm, conditions, laid).
  DERIVED. THE GIVEN ROWS OF THIS SEAT. 7 by the template 'for every input the law returns true; each argument reads behind the call as it read before'; 0 by the template 'total and deterministic' (their statements: YtodlogjkhnieoaaTotals.lean).
  GIVEN WITH THE SEED: the statements are not yours to turn. If you find one false, say at which input.
  Laid BY PROGRAM, IN A SANDBOX (cutbox-rows.mjs): the forced cells as the released guide's own fill.sh prints them over the translation 0f23cb7c7878ba8c… (all of the seat's roots in one cut). By AI agents, Wed Nov 11 2026. No macro, syntax, notation, axiom, sorry.
-/
import Derived.Test.YtodlogjkhnieoaaChecked
import GoSem.Claim
import GoSem.ClaimJoined
import GoSem.ClaimMapViews
import Derived.JoinedTies
import Derived.KernelRfl
namespace Go.Proofs.Ytodlogjkhnieoaa
/- THE CELL 'sum', in the pinned program and in every row, IS THE sha256 OF THE DUMP (.gsa) THAT YtodlogjkhnieoaaProg.lean LOADS. Nothing in Lean hashes anything: it is a label: what it is worth is what the hold of that sum in a sandbox is worth. -/
noncomputable def Try.pinned : Pinned := { name := "ytodlogjkhnieoaa", sum := "0f23cb7c7878ba8c25ffb546ef93da2f179d449b31dfa0119ee496aaf2a7a810", checked := Try.checked }
namespace Rows
def none {H : Type} : Left H := { results := [], args := [] }

/-- 'laws.FnExactHexText': WHATEVER THE INPUT: true; the input reads as it did. -/
def fnExactHexTextSpec : ChangeSpec := { name := "fnExactHexText", fn := fun _ => fun
  | [d] => { results := [.lit (.bool true)], args := [d] }
  | _ => none }
def fnExactHexTextRow : OpenClaim := { program := "ytodlogjkhnieoaa", sum := "0f23cb7c7878ba8c25ffb546ef93da2f179d449b31dfa0119ee496aaf2a7a810", func := "loop.example/g00205/laws.FnExactHexText", spec := "fnExactHexText", apart := false }
def FnExactHexTextSaid : Prop := fnExactHexTextRow.holds Try.pinned (OpenSpec.ofChange fnExactHexTextSpec)

/-- ITS FALSE NEIGHBOUR: 'it returns false'. Refute it at one input. -/
def fnExactHexTextWrong : ChangeSpec := { name := "fnExactHexText", fn := fun _ => fun
  | [d] => { results := [.lit (.bool false)], args := [d] }
  | _ => none }
def FnExactHexTextWrongFalsely : Prop := fnExactHexTextRow.holds Try.pinned (OpenSpec.ofChange fnExactHexTextWrong)

/-- 'laws.FnExactTakeParts': WHATEVER THE INPUT: true; the input reads as it did. -/
def fnExactTakePartsSpec : ChangeSpec := { name := "fnExactTakeParts", fn := fun _ => fun
  | [d] => { results := [.lit (.bool true)], args := [d] }
  | _ => none }
def fnExactTakePartsRow : OpenClaim := { program := "ytodlogjkhnieoaa", sum := "0f23cb7c7878ba8c25ffb546ef93da2f179d449b31dfa0119ee496aaf2a7a810", func := "loop.example/g00205/laws.FnExactTakeParts", spec := "fnExactTakeParts", apart := false }
def FnExactTakePartsSaid : Prop := fnExactTakePartsRow.holds Try.pinned (OpenSpec.ofChange fnExactTakePartsSpec)

/-- ITS FALSE NEIGHBOUR: 'it returns false'. Refute it at one input. -/
def fnExactTakePartsWrong : ChangeSpec := { name := "fnExactTakeParts", fn := fun _ => fun
  | [d] => { results := [.lit (.bool false)], args := [d] }
  | _ => none }
def FnExactTakePartsWrongFalsely : Prop := fnExactTakePartsRow.holds Try.pinned (OpenSpec.ofChange fnExactTakePartsWrong)

/-- 'laws.FnExactEncodeFrame': WHATEVER THE INPUT: true; the input reads as it did. -/
def fnExactEncodeFrameSpec : ChangeSpec := { name := "fnExactEncodeFrame", fn := fun _ => fun
  | [d1, d2, d3, d4, d5] => { results := [.lit (.bool true)], args := [d1, d2, d3, d4, d5] }
  | _ => none }
def fnExactEncodeFrameRow : OpenClaim := { program := "ytodlogjkhnieoaa", sum := "0f23cb7c7878ba8c25ffb546ef93da2f179d449b31dfa0119ee496aaf2a7a810", func := "loop.example/g00205/laws.FnExactEncodeFrame", spec := "fnExactEncodeFrame", apart := false }
def FnExactEncodeFrameSaid : Prop := fnExactEncodeFrameRow.holds Try.pinned (OpenSpec.ofChange fnExactEncodeFrameSpec)

/-- ITS FALSE NEIGHBOUR: 'it returns false'. Refute it at one input. -/
def fnExactEncodeFrameWrong : ChangeSpec := { name := "fnExactEncodeFrame", fn := fun _ => fun
  | [d1, d2, d3, d4, d5] => { results := [.lit (.bool false)], args := [d1, d2, d3, d4, d5] }
  | _ => none }
def FnExactEncodeFrameWrongFalsely : Prop := fnExactEncodeFrameRow.holds Try.pinned (OpenSpec.ofChange fnExactEncodeFrameWrong)

/-- 'laws.FnExactPutParts': WHATEVER THE INPUT: true; the input reads as it did. -/
def fnExactPutPartsSpec : ChangeSpec := { name := "fnExactPutParts", fn := fun _ => fun
  | [d] => { results := [.lit (.bool true)], args := [d] }
  | _ => none }
def fnExactPutPartsRow : OpenClaim := { program := "ytodlogjkhnieoaa", sum := "0f23cb7c7878ba8c25ffb546ef93da2f179d449b31dfa0119ee496aaf2a7a810", func := "loop.example/g00205/laws.FnExactPutParts", spec := "fnExactPutParts", apart := false }
def FnExactPutPartsSaid : Prop := fnExactPutPartsRow.holds Try.pinned (OpenSpec.ofChange fnExactPutPartsSpec)

/-- ITS FALSE NEIGHBOUR: 'it returns false'. Refute it at one input. -/
def fnExactPutPartsWrong : ChangeSpec := { name := "fnExactPutParts", fn := fun _ => fun
  | [d] => { results := [.lit (.bool false)], args := [d] }
  | _ => none }
def FnExactPutPartsWrongFalsely : Prop := fnExactPutPartsRow.holds Try.pinned (OpenSpec.ofChange fnExactPutPartsWrong)

/-- 'laws.FnExactSampleOf': WHATEVER THE INPUT: true; the input reads as it did. -/
def fnExactSampleOfSpec : ChangeSpec := { name := "fnExactSampleOf", fn := fun _ => fun
  | [d] => { results := [.lit (.bool true)], args := [d] }
  | _ => none }
def fnExactSampleOfRow : OpenClaim := { program := "ytodlogjkhnieoaa", sum := "0f23cb7c7878ba8c25ffb546ef93da2f179d449b31dfa0119ee496aaf2a7a810", func := "loop.example/g00205/laws.FnExactSampleOf", spec := "fnExactSampleOf", apart := false }
def FnExactSampleOfSaid : Prop := fnExactSampleOfRow.holds Try.pinned (OpenSpec.ofChange fnExactSampleOfSpec)

/-- ITS FALSE NEIGHBOUR: 'it returns false'. Refute it at one input. -/
def fnExactSampleOfWrong : ChangeSpec := { name := "fnExactSampleOf", fn := fun _ => fun
  | [d] => { results := [.lit (.bool false)], args := [d] }
  | _ => none }
def FnExactSampleOfWrongFalsely : Prop := fnExactSampleOfRow.holds Try.pinned (OpenSpec.ofChange fnExactSampleOfWrong)

/-- 'laws.FnExactReverseWay': WHATEVER THE INPUT: true; the input reads as it did. -/
def fnExactReverseWaySpec : ChangeSpec := { name := "fnExactReverseWay", fn := fun _ => fun
  | [d] => { results := [.lit (.bool true)], args := [d] }
  | _ => none }
def fnExactReverseWayRow : OpenClaim := { program := "ytodlogjkhnieoaa", sum := "0f23cb7c7878ba8c25ffb546ef93da2f179d449b31dfa0119ee496aaf2a7a810", func := "loop.example/g00205/laws.FnExactReverseWay", spec := "fnExactReverseWay", apart := false }
def FnExactReverseWaySaid : Prop := fnExactReverseWayRow.holds Try.pinned (OpenSpec.ofChange fnExactReverseWaySpec)

/-- ITS FALSE NEIGHBOUR: 'it returns false'. Refute it at one input. -/
def fnExactReverseWayWrong : ChangeSpec := { name := "fnExactReverseWay", fn := fun _ => fun
  | [d] => { results := [.lit (.bool false)], args := [d] }
  | _ => none }
def FnExactReverseWayWrongFalsely : Prop := fnExactReverseWayRow.holds Try.pinned (OpenSpec.ofChange fnExactReverseWayWrong)

/-- 'laws.FnExactBuildPacket': WHATEVER THE INPUT: true; the input reads as it did. -/
def fnExactBuildPacketSpec : ChangeSpec := { name := "fnExactBuildPacket", fn := fun _ => fun
  | [d] => { results := [.lit (.bool true)], args := [d] }
  | _ => none }
def fnExactBuildPacketRow : OpenClaim := { program := "ytodlogjkhnieoaa", sum := "0f23cb7c7878ba8c25ffb546ef93da2f179d449b31dfa0119ee496aaf2a7a810", func := "loop.example/g00205/laws.FnExactBuildPacket", spec := "fnExactBuildPacket", apart := false }
def FnExactBuildPacketSaid : Prop := fnExactBuildPacketRow.holds Try.pinned (OpenSpec.ofChange fnExactBuildPacketSpec)

/-- ITS FALSE NEIGHBOUR: 'it returns false'. Refute it at one input. -/
def fnExactBuildPacketWrong : ChangeSpec := { name := "fnExactBuildPacket", fn := fun _ => fun
  | [d] => { results := [.lit (.bool false)], args := [d] }
  | _ => none }
def FnExactBuildPacketWrongFalsely : Prop := fnExactBuildPacketRow.holds Try.pinned (OpenSpec.ofChange fnExactBuildPacketWrong)

/- THE SECOND FORM. 'bulk': how many values and letters a reading holds, each counted each time it is reached (what is shared counts as often as it is met; a slice's spare places count too). A statement '..UptoSaid' is the law's where the arguments, and the package variables that the reading takes, are together of bulk at most 1048576: NARROWER than '..Said'. Prove '..Said' where nothing that the law and all that it calls make is longer than what came in: it says more and counts as full. Else prove '..UptoSaid'. A law counts once. -/
mutual
def uptoBulk {H : Type} : DataW H → Nat
  | .lit (.string bytes) => bytes.length + 1
  | .lit _ => 1
  | .nil => 1
  | .ptr d => uptoBulk d + 1
  | .slice elems spare => uptoBulkAll elems + uptoBulkAll spare + 1
  | .agg parts => uptoBulkAll parts + 1
  | .iface _ d => uptoBulk d + 1
  | .map entries => uptoBulkEntries entries + 1
  | .held _ => 1
def uptoBulkAll {H : Type} : List (DataW H) → Nat
  | [] => 0
  | d :: r => uptoBulk d + uptoBulkAll r
def uptoBulkEntries {H : Type} : List (Lit × DataW H) → Nat
  | [] => 0
  | x :: r => uptoBulkEntry x + uptoBulkEntries r
def uptoBulkEntry {H : Type} : Lit × DataW H → Nat
  | (.string bytes, d) => bytes.length + uptoBulk d + 1
  | (_, d) => uptoBulk d + 1
 end
def uptoSmall : (H : Type) → List (DataW H) → Bool := fun _ ds => decide (uptoBulkAll ds ≤ 1048576)
def OpenSpec.upto (s : _root_.Go.ChangeSpec) : _root_.Go.OpenSpec := { _root_.Go.OpenSpec.ofChange s with cond := some uptoSmall }

/-- 'laws.FnExactHexText', WHERE WHAT IT READS IS OF BULK AT MOST 1048576: true; the input reads as it did. -/
def fnExactHexTextUptoRow : OpenClaim := { program := "ytodlogjkhnieoaa", sum := "0f23cb7c7878ba8c25ffb546ef93da2f179d449b31dfa0119ee496aaf2a7a810", func := "loop.example/g00205/laws.FnExactHexText", spec := "fnExactHexText", apart := false, narrowed := true }
def FnExactHexTextUptoSaid : Prop := fnExactHexTextUptoRow.holds Try.pinned (OpenSpec.upto fnExactHexTextSpec)

/-- 'laws.FnExactTakeParts', WHERE WHAT IT READS IS OF BULK AT MOST 1048576: true; the input reads as it did. -/
def fnExactTakePartsUptoRow : OpenClaim := { program := "ytodlogjkhnieoaa", sum := "0f23cb7c7878ba8c25ffb546ef93da2f179d449b31dfa0119ee496aaf2a7a810", func := "loop.example/g00205/laws.FnExactTakeParts", spec := "fnExactTakeParts", apart := false, narrowed := true }
def FnExactTakePartsUptoSaid : Prop := fnExactTakePartsUptoRow.holds Try.pinned (OpenSpec.upto fnExactTakePartsSpec)

/-- 'laws.FnExactEncodeFrame', WHERE WHAT IT READS IS OF BULK AT MOST 1048576: true; the input reads as it did. -/
def fnExactEncodeFrameUptoRow : OpenClaim := { program := "ytodlogjkhnieoaa", sum := "0f23cb7c7878ba8c25ffb546ef93da2f179d449b31dfa0119ee496aaf2a7a810", func := "loop.example/g00205/laws.FnExactEncodeFrame", spec := "fnExactEncodeFrame", apart := false, narrowed := true }
def FnExactEncodeFrameUptoSaid : Prop := fnExactEncodeFrameUptoRow.holds Try.pinned (OpenSpec.upto fnExactEncodeFrameSpec)

/-- 'laws.FnExactPutParts', WHERE WHAT IT READS IS OF BULK AT MOST 1048576: true; the input reads as it did. -/
def fnExactPutPartsUptoRow : OpenClaim := { program := "ytodlogjkhnieoaa", sum := "0f23cb7c7878ba8c25ffb546ef93da2f179d449b31dfa0119ee496aaf2a7a810", func := "loop.example/g00205/laws.FnExactPutParts", spec := "fnExactPutParts", apart := false, narrowed := true }
def FnExactPutPartsUptoSaid : Prop := fnExactPutPartsUptoRow.holds Try.pinned (OpenSpec.upto fnExactPutPartsSpec)

/-- 'laws.FnExactSampleOf', WHERE WHAT IT READS IS OF BULK AT MOST 1048576: true; the input reads as it did. -/
def fnExactSampleOfUptoRow : OpenClaim := { program := "ytodlogjkhnieoaa", sum := "0f23cb7c7878ba8c25ffb546ef93da2f179d449b31dfa0119ee496aaf2a7a810", func := "loop.example/g00205/laws.FnExactSampleOf", spec := "fnExactSampleOf", apart := false, narrowed := true }
def FnExactSampleOfUptoSaid : Prop := fnExactSampleOfUptoRow.holds Try.pinned (OpenSpec.upto fnExactSampleOfSpec)

/-- 'laws.FnExactReverseWay', WHERE WHAT IT READS IS OF BULK AT MOST 1048576: true; the input reads as it did. -/
def fnExactReverseWayUptoRow : OpenClaim := { program := "ytodlogjkhnieoaa", sum := "0f23cb7c7878ba8c25ffb546ef93da2f179d449b31dfa0119ee496aaf2a7a810", func := "loop.example/g00205/laws.FnExactReverseWay", spec := "fnExactReverseWay", apart := false, narrowed := true }
def FnExactReverseWayUptoSaid : Prop := fnExactReverseWayUptoRow.holds Try.pinned (OpenSpec.upto fnExactReverseWaySpec)

/-- 'laws.FnExactBuildPacket', WHERE WHAT IT READS IS OF BULK AT MOST 1048576: true; the input reads as it did. -/
def fnExactBuildPacketUptoRow : OpenClaim := { program := "ytodlogjkhnieoaa", sum := "0f23cb7c7878ba8c25ffb546ef93da2f179d449b31dfa0119ee496aaf2a7a810", func := "loop.example/g00205/laws.FnExactBuildPacket", spec := "fnExactBuildPacket", apart := false, narrowed := true }
def FnExactBuildPacketUptoSaid : Prop := fnExactBuildPacketUptoRow.holds Try.pinned (OpenSpec.upto fnExactBuildPacketSpec)

end Rows
end Go.Proofs.Ytodlogjkhnieoaa
