/-
  No cell of these rows narrows 'for every input' (looked for: loops, veiled, ifaces, maps, wideKeys, modest, calm, conditions, laid).
  DERIVED. THE GIVEN ROWS OF THIS SEAT. 12 by the template 'for every input the law returns true; each argument reads behind the call as it read before'; 0 by the template 'total and deterministic' (their statements: YtfggalllhcohaaaTotals.lean).
  GIVEN WITH THE SEED: the statements are not yours to turn. If you find one false, say at which input.
  Laid BY PROGRAM, IN A SANDBOX (cutbox-rows.mjs): the forced cells as the released guide's own fill.sh prints them over the translation c3988ae587c855ce… (all of the seat's roots in one cut). By AI agents, Wed Nov 11 2026. No macro, syntax, notation, axiom, sorry.
-/
import Derived.Test.YtfggalllhcohaaaChecked
import GoSem.Claim
import GoSem.ClaimJoined
import GoSem.ClaimMapViews
import Derived.JoinedTies
import Derived.KernelRfl
namespace Go.Proofs.Ytfggalllhcohaaa
/- THE CELL 'sum', in the pinned program and in every row, IS THE sha256 OF THE DUMP (.gsa) THAT YtfggalllhcohaaaProg.lean LOADS. Nothing in Lean hashes anything: it is a label: what it is worth is what the hold of that sum in a sandbox is worth. -/
noncomputable def Try.pinned : Pinned := { name := "ytfggalllhcohaaa", sum := "c3988ae587c855ce5600d7b89e99a2bba62666ef5ac4f9820515d90bed2a61d2", checked := Try.checked }
namespace Rows
def none {H : Type} : Left H := { results := [], args := [] }

/-- 'laws.FnExactConstants': WHATEVER THE INPUT: true; the input reads as it did. -/
def fnExactConstantsSpec : ChangeSpec := { name := "fnExactConstants", fn := fun _ => fun
  | [] => { results := [.lit (.bool true)], args := [] }
  | _ => none }
def fnExactConstantsRow : OpenClaim := { program := "ytfggalllhcohaaa", sum := "c3988ae587c855ce5600d7b89e99a2bba62666ef5ac4f9820515d90bed2a61d2", func := "loop.example/g00205/laws.FnExactConstants", spec := "fnExactConstants", apart := false }
def FnExactConstantsSaid : Prop := fnExactConstantsRow.holds Try.pinned (OpenSpec.ofChange fnExactConstantsSpec)

/-- ITS FALSE NEIGHBOUR: 'it returns false'. Refute it at one input. -/
def fnExactConstantsWrong : ChangeSpec := { name := "fnExactConstants", fn := fun _ => fun
  | [] => { results := [.lit (.bool false)], args := [] }
  | _ => none }
def FnExactConstantsWrongFalsely : Prop := fnExactConstantsRow.holds Try.pinned (OpenSpec.ofChange fnExactConstantsWrong)

/-- 'laws.FnExactHasPorts': WHATEVER THE INPUT: true; the input reads as it did. -/
def fnExactHasPortsSpec : ChangeSpec := { name := "fnExactHasPorts", fn := fun _ => fun
  | [d] => { results := [.lit (.bool true)], args := [d] }
  | _ => none }
def fnExactHasPortsRow : OpenClaim := { program := "ytfggalllhcohaaa", sum := "c3988ae587c855ce5600d7b89e99a2bba62666ef5ac4f9820515d90bed2a61d2", func := "loop.example/g00205/laws.FnExactHasPorts", spec := "fnExactHasPorts", apart := false }
def FnExactHasPortsSaid : Prop := fnExactHasPortsRow.holds Try.pinned (OpenSpec.ofChange fnExactHasPortsSpec)

/-- ITS FALSE NEIGHBOUR: 'it returns false'. Refute it at one input. -/
def fnExactHasPortsWrong : ChangeSpec := { name := "fnExactHasPorts", fn := fun _ => fun
  | [d] => { results := [.lit (.bool false)], args := [d] }
  | _ => none }
def FnExactHasPortsWrongFalsely : Prop := fnExactHasPortsRow.holds Try.pinned (OpenSpec.ofChange fnExactHasPortsWrong)

/-- 'laws.FnExactSuiteFault': WHATEVER THE INPUT: true; the input reads as it did. -/
def fnExactSuiteFaultSpec : ChangeSpec := { name := "fnExactSuiteFault", fn := fun _ => fun
  | [d] => { results := [.lit (.bool true)], args := [d] }
  | _ => none }
def fnExactSuiteFaultRow : OpenClaim := { program := "ytfggalllhcohaaa", sum := "c3988ae587c855ce5600d7b89e99a2bba62666ef5ac4f9820515d90bed2a61d2", func := "loop.example/g00205/laws.FnExactSuiteFault", spec := "fnExactSuiteFault", apart := false }
def FnExactSuiteFaultSaid : Prop := fnExactSuiteFaultRow.holds Try.pinned (OpenSpec.ofChange fnExactSuiteFaultSpec)

/-- ITS FALSE NEIGHBOUR: 'it returns false'. Refute it at one input. -/
def fnExactSuiteFaultWrong : ChangeSpec := { name := "fnExactSuiteFault", fn := fun _ => fun
  | [d] => { results := [.lit (.bool false)], args := [d] }
  | _ => none }
def FnExactSuiteFaultWrongFalsely : Prop := fnExactSuiteFaultRow.holds Try.pinned (OpenSpec.ofChange fnExactSuiteFaultWrong)

/-- 'laws.FnExactFoldSum': WHATEVER THE INPUT: true; the input reads as it did. -/
def fnExactFoldSumSpec : ChangeSpec := { name := "fnExactFoldSum", fn := fun _ => fun
  | [d] => { results := [.lit (.bool true)], args := [d] }
  | _ => none }
def fnExactFoldSumRow : OpenClaim := { program := "ytfggalllhcohaaa", sum := "c3988ae587c855ce5600d7b89e99a2bba62666ef5ac4f9820515d90bed2a61d2", func := "loop.example/g00205/laws.FnExactFoldSum", spec := "fnExactFoldSum", apart := false }
def FnExactFoldSumSaid : Prop := fnExactFoldSumRow.holds Try.pinned (OpenSpec.ofChange fnExactFoldSumSpec)

/-- ITS FALSE NEIGHBOUR: 'it returns false'. Refute it at one input. -/
def fnExactFoldSumWrong : ChangeSpec := { name := "fnExactFoldSum", fn := fun _ => fun
  | [d] => { results := [.lit (.bool false)], args := [d] }
  | _ => none }
def FnExactFoldSumWrongFalsely : Prop := fnExactFoldSumRow.holds Try.pinned (OpenSpec.ofChange fnExactFoldSumWrong)

/-- 'laws.FnExactSelFault': WHATEVER THE INPUT: true; the input reads as it did. -/
def fnExactSelFaultSpec : ChangeSpec := { name := "fnExactSelFault", fn := fun _ => fun
  | [d] => { results := [.lit (.bool true)], args := [d] }
  | _ => none }
def fnExactSelFaultRow : OpenClaim := { program := "ytfggalllhcohaaa", sum := "c3988ae587c855ce5600d7b89e99a2bba62666ef5ac4f9820515d90bed2a61d2", func := "loop.example/g00205/laws.FnExactSelFault", spec := "fnExactSelFault", apart := false }
def FnExactSelFaultSaid : Prop := fnExactSelFaultRow.holds Try.pinned (OpenSpec.ofChange fnExactSelFaultSpec)

/-- ITS FALSE NEIGHBOUR: 'it returns false'. Refute it at one input. -/
def fnExactSelFaultWrong : ChangeSpec := { name := "fnExactSelFault", fn := fun _ => fun
  | [d] => { results := [.lit (.bool false)], args := [d] }
  | _ => none }
def FnExactSelFaultWrongFalsely : Prop := fnExactSelFaultRow.holds Try.pinned (OpenSpec.ofChange fnExactSelFaultWrong)

/-- 'laws.FnExactHexText': WHATEVER THE INPUT: true; the input reads as it did. -/
def fnExactHexTextSpec : ChangeSpec := { name := "fnExactHexText", fn := fun _ => fun
  | [d] => { results := [.lit (.bool true)], args := [d] }
  | _ => none }
def fnExactHexTextRow : OpenClaim := { program := "ytfggalllhcohaaa", sum := "c3988ae587c855ce5600d7b89e99a2bba62666ef5ac4f9820515d90bed2a61d2", func := "loop.example/g00205/laws.FnExactHexText", spec := "fnExactHexText", apart := false }
def FnExactHexTextSaid : Prop := fnExactHexTextRow.holds Try.pinned (OpenSpec.ofChange fnExactHexTextSpec)

/-- ITS FALSE NEIGHBOUR: 'it returns false'. Refute it at one input. -/
def fnExactHexTextWrong : ChangeSpec := { name := "fnExactHexText", fn := fun _ => fun
  | [d] => { results := [.lit (.bool false)], args := [d] }
  | _ => none }
def FnExactHexTextWrongFalsely : Prop := fnExactHexTextRow.holds Try.pinned (OpenSpec.ofChange fnExactHexTextWrong)

/-- 'laws.FnExactSumWords': WHATEVER THE INPUT: true; the input reads as it did. -/
def fnExactSumWordsSpec : ChangeSpec := { name := "fnExactSumWords", fn := fun _ => fun
  | [d] => { results := [.lit (.bool true)], args := [d] }
  | _ => none }
def fnExactSumWordsRow : OpenClaim := { program := "ytfggalllhcohaaa", sum := "c3988ae587c855ce5600d7b89e99a2bba62666ef5ac4f9820515d90bed2a61d2", func := "loop.example/g00205/laws.FnExactSumWords", spec := "fnExactSumWords", apart := false }
def FnExactSumWordsSaid : Prop := fnExactSumWordsRow.holds Try.pinned (OpenSpec.ofChange fnExactSumWordsSpec)

/-- ITS FALSE NEIGHBOUR: 'it returns false'. Refute it at one input. -/
def fnExactSumWordsWrong : ChangeSpec := { name := "fnExactSumWords", fn := fun _ => fun
  | [d] => { results := [.lit (.bool false)], args := [d] }
  | _ => none }
def FnExactSumWordsWrongFalsely : Prop := fnExactSumWordsRow.holds Try.pinned (OpenSpec.ofChange fnExactSumWordsWrong)

/-- 'laws.FnExactCheckWords': WHATEVER THE INPUT: true; the input reads as it did. -/
def fnExactCheckWordsSpec : ChangeSpec := { name := "fnExactCheckWords", fn := fun _ => fun
  | [d] => { results := [.lit (.bool true)], args := [d] }
  | _ => none }
def fnExactCheckWordsRow : OpenClaim := { program := "ytfggalllhcohaaa", sum := "c3988ae587c855ce5600d7b89e99a2bba62666ef5ac4f9820515d90bed2a61d2", func := "loop.example/g00205/laws.FnExactCheckWords", spec := "fnExactCheckWords", apart := false }
def FnExactCheckWordsSaid : Prop := fnExactCheckWordsRow.holds Try.pinned (OpenSpec.ofChange fnExactCheckWordsSpec)

/-- ITS FALSE NEIGHBOUR: 'it returns false'. Refute it at one input. -/
def fnExactCheckWordsWrong : ChangeSpec := { name := "fnExactCheckWords", fn := fun _ => fun
  | [d] => { results := [.lit (.bool false)], args := [d] }
  | _ => none }
def FnExactCheckWordsWrongFalsely : Prop := fnExactCheckWordsRow.holds Try.pinned (OpenSpec.ofChange fnExactCheckWordsWrong)

/-- 'laws.FnExactAnySel': WHATEVER THE INPUT: true; the input reads as it did. -/
def fnExactAnySelSpec : ChangeSpec := { name := "fnExactAnySel", fn := fun _ => fun
  | [d] => { results := [.lit (.bool true)], args := [d] }
  | _ => none }
def fnExactAnySelRow : OpenClaim := { program := "ytfggalllhcohaaa", sum := "c3988ae587c855ce5600d7b89e99a2bba62666ef5ac4f9820515d90bed2a61d2", func := "loop.example/g00205/laws.FnExactAnySel", spec := "fnExactAnySel", apart := false }
def FnExactAnySelSaid : Prop := fnExactAnySelRow.holds Try.pinned (OpenSpec.ofChange fnExactAnySelSpec)

/-- ITS FALSE NEIGHBOUR: 'it returns false'. Refute it at one input. -/
def fnExactAnySelWrong : ChangeSpec := { name := "fnExactAnySel", fn := fun _ => fun
  | [d] => { results := [.lit (.bool false)], args := [d] }
  | _ => none }
def FnExactAnySelWrongFalsely : Prop := fnExactAnySelRow.holds Try.pinned (OpenSpec.ofChange fnExactAnySelWrong)

/-- 'laws.FnExactWithinSel': WHATEVER THE INPUT: true; the input reads as it did. -/
def fnExactWithinSelSpec : ChangeSpec := { name := "fnExactWithinSel", fn := fun _ => fun
  | [d1, d2] => { results := [.lit (.bool true)], args := [d1, d2] }
  | _ => none }
def fnExactWithinSelRow : OpenClaim := { program := "ytfggalllhcohaaa", sum := "c3988ae587c855ce5600d7b89e99a2bba62666ef5ac4f9820515d90bed2a61d2", func := "loop.example/g00205/laws.FnExactWithinSel", spec := "fnExactWithinSel", apart := false }
def FnExactWithinSelSaid : Prop := fnExactWithinSelRow.holds Try.pinned (OpenSpec.ofChange fnExactWithinSelSpec)

/-- ITS FALSE NEIGHBOUR: 'it returns false'. Refute it at one input. -/
def fnExactWithinSelWrong : ChangeSpec := { name := "fnExactWithinSel", fn := fun _ => fun
  | [d1, d2] => { results := [.lit (.bool false)], args := [d1, d2] }
  | _ => none }
def FnExactWithinSelWrongFalsely : Prop := fnExactWithinSelRow.holds Try.pinned (OpenSpec.ofChange fnExactWithinSelWrong)

/-- 'laws.FnExactSamePacket': WHATEVER THE INPUT: true; the input reads as it did. -/
def fnExactSamePacketSpec : ChangeSpec := { name := "fnExactSamePacket", fn := fun _ => fun
  | [d1, d2] => { results := [.lit (.bool true)], args := [d1, d2] }
  | _ => none }
def fnExactSamePacketRow : OpenClaim := { program := "ytfggalllhcohaaa", sum := "c3988ae587c855ce5600d7b89e99a2bba62666ef5ac4f9820515d90bed2a61d2", func := "loop.example/g00205/laws.FnExactSamePacket", spec := "fnExactSamePacket", apart := false }
def FnExactSamePacketSaid : Prop := fnExactSamePacketRow.holds Try.pinned (OpenSpec.ofChange fnExactSamePacketSpec)

/-- ITS FALSE NEIGHBOUR: 'it returns false'. Refute it at one input. -/
def fnExactSamePacketWrong : ChangeSpec := { name := "fnExactSamePacket", fn := fun _ => fun
  | [d1, d2] => { results := [.lit (.bool false)], args := [d1, d2] }
  | _ => none }
def FnExactSamePacketWrongFalsely : Prop := fnExactSamePacketRow.holds Try.pinned (OpenSpec.ofChange fnExactSamePacketWrong)

/-- 'laws.FnSums': WHATEVER THE INPUT: true; the input reads as it did. -/
def fnSumsSpec : ChangeSpec := { name := "fnSums", fn := fun _ => fun
  | [d] => { results := [.lit (.bool true)], args := [d] }
  | _ => none }
def fnSumsRow : OpenClaim := { program := "ytfggalllhcohaaa", sum := "c3988ae587c855ce5600d7b89e99a2bba62666ef5ac4f9820515d90bed2a61d2", func := "loop.example/g00205/laws.FnSums", spec := "fnSums", apart := false }
def FnSumsSaid : Prop := fnSumsRow.holds Try.pinned (OpenSpec.ofChange fnSumsSpec)

/-- ITS FALSE NEIGHBOUR: 'it returns false'. Refute it at one input. -/
def fnSumsWrong : ChangeSpec := { name := "fnSums", fn := fun _ => fun
  | [d] => { results := [.lit (.bool false)], args := [d] }
  | _ => none }
def FnSumsWrongFalsely : Prop := fnSumsRow.holds Try.pinned (OpenSpec.ofChange fnSumsWrong)

/- THE SECOND FORM. 'bulk': how many values and letters a reading holds, each counted each time it is reached (what is shared counts as often as it is met; a slice's spare places count too). A statement '..UptoSaid' is the law's where the arguments, and the package variables that the reading takes, are together of bulk at most 1048576: NARROWER than '..Said'. Prove '..Said' where nothing that the law and all that it calls make is longer than what came in: it says more and counts as full. Else prove '..UptoSaid'. A law counts once. -/
mutual
def uptoBulk {H : Type} : DataW H → Nat
  | .lit (.string bytes) => bytes.length + 1
  | .lit _ => 1
  | .nil => 1
  | .ptr d => uptoBulk d + 1
  | .slice elems spare => uptoBulkAll elems + uptoBulkAll spare + 1
  | .agg parts => uptoBulkAll parts + 1
  | .iface _ d => uptoBulk d + 1
  | .map entries => uptoBulkEntries entries + 1
  | .held _ => 1
def uptoBulkAll {H : Type} : List (DataW H) → Nat
  | [] => 0
  | d :: r => uptoBulk d + uptoBulkAll r
def uptoBulkEntries {H : Type} : List (Lit × DataW H) → Nat
  | [] => 0
  | x :: r => uptoBulkEntry x + uptoBulkEntries r
def uptoBulkEntry {H : Type} : Lit × DataW H → Nat
  | (.string bytes, d) => bytes.length + uptoBulk d + 1
  | (_, d) => uptoBulk d + 1
 end
def uptoSmall : (H : Type) → List (DataW H) → Bool := fun _ ds => decide (uptoBulkAll ds ≤ 1048576)
def OpenSpec.upto (s : _root_.Go.ChangeSpec) : _root_.Go.OpenSpec := { _root_.Go.OpenSpec.ofChange s with cond := some uptoSmall }

/-- 'laws.FnExactConstants', WHERE WHAT IT READS IS OF BULK AT MOST 1048576: true; the input reads as it did. -/
def fnExactConstantsUptoRow : OpenClaim := { program := "ytfggalllhcohaaa", sum := "c3988ae587c855ce5600d7b89e99a2bba62666ef5ac4f9820515d90bed2a61d2", func := "loop.example/g00205/laws.FnExactConstants", spec := "fnExactConstants", apart := false, narrowed := true }
def FnExactConstantsUptoSaid : Prop := fnExactConstantsUptoRow.holds Try.pinned (OpenSpec.upto fnExactConstantsSpec)

/-- 'laws.FnExactHasPorts', WHERE WHAT IT READS IS OF BULK AT MOST 1048576: true; the input reads as it did. -/
def fnExactHasPortsUptoRow : OpenClaim := { program := "ytfggalllhcohaaa", sum := "c3988ae587c855ce5600d7b89e99a2bba62666ef5ac4f9820515d90bed2a61d2", func := "loop.example/g00205/laws.FnExactHasPorts", spec := "fnExactHasPorts", apart := false, narrowed := true }
def FnExactHasPortsUptoSaid : Prop := fnExactHasPortsUptoRow.holds Try.pinned (OpenSpec.upto fnExactHasPortsSpec)

/-- 'laws.FnExactSuiteFault', WHERE WHAT IT READS IS OF BULK AT MOST 1048576: true; the input reads as it did. -/
def fnExactSuiteFaultUptoRow : OpenClaim := { program := "ytfggalllhcohaaa", sum := "c3988ae587c855ce5600d7b89e99a2bba62666ef5ac4f9820515d90bed2a61d2", func := "loop.example/g00205/laws.FnExactSuiteFault", spec := "fnExactSuiteFault", apart := false, narrowed := true }
def FnExactSuiteFaultUptoSaid : Prop := fnExactSuiteFaultUptoRow.holds Try.pinned (OpenSpec.upto fnExactSuiteFaultSpec)

/-- 'laws.FnExactFoldSum', WHERE WHAT IT READS IS OF BULK AT MOST 1048576: true; the input reads as it did. -/
def fnExactFoldSumUptoRow : OpenClaim := { program := "ytfggalllhcohaaa", sum := "c3988ae587c855ce5600d7b89e99a2bba62666ef5ac4f9820515d90bed2a61d2", func := "loop.example/g00205/laws.FnExactFoldSum", spec := "fnExactFoldSum", apart := false, narrowed := true }
def FnExactFoldSumUptoSaid : Prop := fnExactFoldSumUptoRow.holds Try.pinned (OpenSpec.upto fnExactFoldSumSpec)

/-- 'laws.FnExactSelFault', WHERE WHAT IT READS IS OF BULK AT MOST 1048576: true; the input reads as it did. -/
def fnExactSelFaultUptoRow : OpenClaim := { program := "ytfggalllhcohaaa", sum := "c3988ae587c855ce5600d7b89e99a2bba62666ef5ac4f9820515d90bed2a61d2", func := "loop.example/g00205/laws.FnExactSelFault", spec := "fnExactSelFault", apart := false, narrowed := true }
def FnExactSelFaultUptoSaid : Prop := fnExactSelFaultUptoRow.holds Try.pinned (OpenSpec.upto fnExactSelFaultSpec)

/-- 'laws.FnExactHexText', WHERE WHAT IT READS IS OF BULK AT MOST 1048576: true; the input reads as it did. -/
def fnExactHexTextUptoRow : OpenClaim := { program := "ytfggalllhcohaaa", sum := "c3988ae587c855ce5600d7b89e99a2bba62666ef5ac4f9820515d90bed2a61d2", func := "loop.example/g00205/laws.FnExactHexText", spec := "fnExactHexText", apart := false, narrowed := true }
def FnExactHexTextUptoSaid : Prop := fnExactHexTextUptoRow.holds Try.pinned (OpenSpec.upto fnExactHexTextSpec)

/-- 'laws.FnExactSumWords', WHERE WHAT IT READS IS OF BULK AT MOST 1048576: true; the input reads as it did. -/
def fnExactSumWordsUptoRow : OpenClaim := { program := "ytfggalllhcohaaa", sum := "c3988ae587c855ce5600d7b89e99a2bba62666ef5ac4f9820515d90bed2a61d2", func := "loop.example/g00205/laws.FnExactSumWords", spec := "fnExactSumWords", apart := false, narrowed := true }
def FnExactSumWordsUptoSaid : Prop := fnExactSumWordsUptoRow.holds Try.pinned (OpenSpec.upto fnExactSumWordsSpec)

/-- 'laws.FnExactCheckWords', WHERE WHAT IT READS IS OF BULK AT MOST 1048576: true; the input reads as it did. -/
def fnExactCheckWordsUptoRow : OpenClaim := { program := "ytfggalllhcohaaa", sum := "c3988ae587c855ce5600d7b89e99a2bba62666ef5ac4f9820515d90bed2a61d2", func := "loop.example/g00205/laws.FnExactCheckWords", spec := "fnExactCheckWords", apart := false, narrowed := true }
def FnExactCheckWordsUptoSaid : Prop := fnExactCheckWordsUptoRow.holds Try.pinned (OpenSpec.upto fnExactCheckWordsSpec)

/-- 'laws.FnExactAnySel', WHERE WHAT IT READS IS OF BULK AT MOST 1048576: true; the input reads as it did. -/
def fnExactAnySelUptoRow : OpenClaim := { program := "ytfggalllhcohaaa", sum := "c3988ae587c855ce5600d7b89e99a2bba62666ef5ac4f9820515d90bed2a61d2", func := "loop.example/g00205/laws.FnExactAnySel", spec := "fnExactAnySel", apart := false, narrowed := true }
def FnExactAnySelUptoSaid : Prop := fnExactAnySelUptoRow.holds Try.pinned (OpenSpec.upto fnExactAnySelSpec)

/-- 'laws.FnExactWithinSel', WHERE WHAT IT READS IS OF BULK AT MOST 1048576: true; the input reads as it did. -/
def fnExactWithinSelUptoRow : OpenClaim := { program := "ytfggalllhcohaaa", sum := "c3988ae587c855ce5600d7b89e99a2bba62666ef5ac4f9820515d90bed2a61d2", func := "loop.example/g00205/laws.FnExactWithinSel", spec := "fnExactWithinSel", apart := false, narrowed := true }
def FnExactWithinSelUptoSaid : Prop := fnExactWithinSelUptoRow.holds Try.pinned (OpenSpec.upto fnExactWithinSelSpec)

/-- 'laws.FnExactSamePacket', WHERE WHAT IT READS IS OF BULK AT MOST 1048576: true; the input reads as it did. -/
def fnExactSamePacketUptoRow : OpenClaim := { program := "ytfggalllhcohaaa", sum := "c3988ae587c855ce5600d7b89e99a2bba62666ef5ac4f9820515d90bed2a61d2", func := "loop.example/g00205/laws.FnExactSamePacket", spec := "fnExactSamePacket", apart := false, narrowed := true }
def FnExactSamePacketUptoSaid : Prop := fnExactSamePacketUptoRow.holds Try.pinned (OpenSpec.upto fnExactSamePacketSpec)

/-- 'laws.FnSums', WHERE WHAT IT READS IS OF BULK AT MOST 1048576: true; the input reads as it did. -/
def fnSumsUptoRow : OpenClaim := { program := "ytfggalllhcohaaa", sum := "c3988ae587c855ce5600d7b89e99a2bba62666ef5ac4f9820515d90bed2a61d2", func := "loop.example/g00205/laws.FnSums", spec := "fnSums", apart := false, narrowed := true }
def FnSumsUptoSaid : Prop := fnSumsUptoRow.holds Try.pinned (OpenSpec.upto fnSumsSpec)

end Rows
end Go.Proofs.Ytfggalllhcohaaa
