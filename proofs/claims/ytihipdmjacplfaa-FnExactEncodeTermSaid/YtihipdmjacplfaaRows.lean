/-
  No cell of these rows narrows 'for every input' (looked for: loops, veiled, ifaces, maps, wideKeys, modest, calm, conditions, laid).
  DERIVED. THE GIVEN ROWS OF THIS SEAT. 15 by the template 'for every input the law returns true; each argument reads behind the call as it read before'; 0 by the template 'total and deterministic' (their statements: YtihipdmjacplfaaTotals.lean).
  GIVEN WITH THE SEED: the statements are not yours to turn. If you find one false, say at which input.
  Laid BY PROGRAM, IN A SANDBOX (cutbox-rows.mjs): the forced cells as the released guide's own fill.sh prints them over the translation b56ba32e666174eb… (all of the seat's roots in one cut). By AI agents, Wed Nov 11 2026. No macro, syntax, notation, axiom, sorry.
-/
import Derived.Test.YtihipdmjacplfaaChecked
import GoSem.Claim
import GoSem.ClaimJoined
import GoSem.ClaimMapViews
import Derived.JoinedTies
import Derived.KernelRfl
namespace Go.Proofs.Ytihipdmjacplfaa
/- THE CELL 'sum', in the pinned program and in every row, IS THE sha256 OF THE DUMP (.gsa) THAT YtihipdmjacplfaaProg.lean LOADS. Nothing in Lean hashes anything: it is a label: what it is worth is what the hold of that sum in a sandbox is worth. -/
noncomputable def Try.pinned : Pinned := { name := "ytihipdmjacplfaa", sum := "b56ba32e666174ebe7474c73b4f904d5690ab471d4ca0caa68807c0920f28433", checked := Try.checked }
namespace Rows
def none {H : Type} : Left H := { results := [], args := [] }

/-- 'laws.FnExactTermsFault': WHATEVER THE INPUT: true; the input reads as it did. -/
def fnExactTermsFaultSpec : ChangeSpec := { name := "fnExactTermsFault", fn := fun _ => fun
  | [d] => { results := [.lit (.bool true)], args := [d] }
  | _ => none }
def fnExactTermsFaultRow : OpenClaim := { program := "ytihipdmjacplfaa", sum := "b56ba32e666174ebe7474c73b4f904d5690ab471d4ca0caa68807c0920f28433", func := "loop.example/g00205/laws.FnExactTermsFault", spec := "fnExactTermsFault", unfollowed := true, recurses := true, plainKeys := false, apart := false }
def FnExactTermsFaultSaid : Prop := fnExactTermsFaultRow.holds Try.pinned (OpenSpec.ofChange fnExactTermsFaultSpec)

/-- ITS FALSE NEIGHBOUR: 'it returns false'. Refute it at one input. -/
def fnExactTermsFaultWrong : ChangeSpec := { name := "fnExactTermsFault", fn := fun _ => fun
  | [d] => { results := [.lit (.bool false)], args := [d] }
  | _ => none }
def FnExactTermsFaultWrongFalsely : Prop := fnExactTermsFaultRow.holds Try.pinned (OpenSpec.ofChange fnExactTermsFaultWrong)

/-- 'laws.FnExactKnownFault': WHATEVER THE INPUT: true; the input reads as it did. -/
def fnExactKnownFaultSpec : ChangeSpec := { name := "fnExactKnownFault", fn := fun _ => fun
  | [d1, d2] => { results := [.lit (.bool true)], args := [d1, d2] }
  | _ => none }
def fnExactKnownFaultRow : OpenClaim := { program := "ytihipdmjacplfaa", sum := "b56ba32e666174ebe7474c73b4f904d5690ab471d4ca0caa68807c0920f28433", func := "loop.example/g00205/laws.FnExactKnownFault", spec := "fnExactKnownFault", unfollowed := true, recurses := true, plainKeys := false, apart := false }
def FnExactKnownFaultSaid : Prop := fnExactKnownFaultRow.holds Try.pinned (OpenSpec.ofChange fnExactKnownFaultSpec)

/-- ITS FALSE NEIGHBOUR: 'it returns false'. Refute it at one input. -/
def fnExactKnownFaultWrong : ChangeSpec := { name := "fnExactKnownFault", fn := fun _ => fun
  | [d1, d2] => { results := [.lit (.bool false)], args := [d1, d2] }
  | _ => none }
def FnExactKnownFaultWrongFalsely : Prop := fnExactKnownFaultRow.holds Try.pinned (OpenSpec.ofChange fnExactKnownFaultWrong)

/-- 'laws.FnExactDepthOf': WHATEVER THE INPUT: true; the input reads as it did. -/
def fnExactDepthOfSpec : ChangeSpec := { name := "fnExactDepthOf", fn := fun _ => fun
  | [d1, d2] => { results := [.lit (.bool true)], args := [d1, d2] }
  | _ => none }
def fnExactDepthOfRow : OpenClaim := { program := "ytihipdmjacplfaa", sum := "b56ba32e666174ebe7474c73b4f904d5690ab471d4ca0caa68807c0920f28433", func := "loop.example/g00205/laws.FnExactDepthOf", spec := "fnExactDepthOf", unfollowed := true, recurses := true, plainKeys := false, apart := false }
def FnExactDepthOfSaid : Prop := fnExactDepthOfRow.holds Try.pinned (OpenSpec.ofChange fnExactDepthOfSpec)

/-- ITS FALSE NEIGHBOUR: 'it returns false'. Refute it at one input. -/
def fnExactDepthOfWrong : ChangeSpec := { name := "fnExactDepthOf", fn := fun _ => fun
  | [d1, d2] => { results := [.lit (.bool false)], args := [d1, d2] }
  | _ => none }
def FnExactDepthOfWrongFalsely : Prop := fnExactDepthOfRow.holds Try.pinned (OpenSpec.ofChange fnExactDepthOfWrong)

/-- 'laws.FnExactSizeOf': WHATEVER THE INPUT: true; the input reads as it did. -/
def fnExactSizeOfSpec : ChangeSpec := { name := "fnExactSizeOf", fn := fun _ => fun
  | [d1, d2] => { results := [.lit (.bool true)], args := [d1, d2] }
  | _ => none }
def fnExactSizeOfRow : OpenClaim := { program := "ytihipdmjacplfaa", sum := "b56ba32e666174ebe7474c73b4f904d5690ab471d4ca0caa68807c0920f28433", func := "loop.example/g00205/laws.FnExactSizeOf", spec := "fnExactSizeOf", unfollowed := true, recurses := true, plainKeys := false, apart := false }
def FnExactSizeOfSaid : Prop := fnExactSizeOfRow.holds Try.pinned (OpenSpec.ofChange fnExactSizeOfSpec)

/-- ITS FALSE NEIGHBOUR: 'it returns false'. Refute it at one input. -/
def fnExactSizeOfWrong : ChangeSpec := { name := "fnExactSizeOf", fn := fun _ => fun
  | [d1, d2] => { results := [.lit (.bool false)], args := [d1, d2] }
  | _ => none }
def FnExactSizeOfWrongFalsely : Prop := fnExactSizeOfRow.holds Try.pinned (OpenSpec.ofChange fnExactSizeOfWrong)

/-- 'laws.FnExactOccursIn': WHATEVER THE INPUT: true; the input reads as it did. -/
def fnExactOccursInSpec : ChangeSpec := { name := "fnExactOccursIn", fn := fun _ => fun
  | [d1, d2, d3] => { results := [.lit (.bool true)], args := [d1, d2, d3] }
  | _ => none }
def fnExactOccursInRow : OpenClaim := { program := "ytihipdmjacplfaa", sum := "b56ba32e666174ebe7474c73b4f904d5690ab471d4ca0caa68807c0920f28433", func := "loop.example/g00205/laws.FnExactOccursIn", spec := "fnExactOccursIn", unfollowed := true, recurses := true, plainKeys := false, apart := false }
def FnExactOccursInSaid : Prop := fnExactOccursInRow.holds Try.pinned (OpenSpec.ofChange fnExactOccursInSpec)

/-- ITS FALSE NEIGHBOUR: 'it returns false'. Refute it at one input. -/
def fnExactOccursInWrong : ChangeSpec := { name := "fnExactOccursIn", fn := fun _ => fun
  | [d1, d2, d3] => { results := [.lit (.bool false)], args := [d1, d2, d3] }
  | _ => none }
def FnExactOccursInWrongFalsely : Prop := fnExactOccursInRow.holds Try.pinned (OpenSpec.ofChange fnExactOccursInWrong)

/-- 'laws.FnExactPartsOf': WHATEVER THE INPUT: true; the input reads as it did. -/
def fnExactPartsOfSpec : ChangeSpec := { name := "fnExactPartsOf", fn := fun _ => fun
  | [d1, d2] => { results := [.lit (.bool true)], args := [d1, d2] }
  | _ => none }
def fnExactPartsOfRow : OpenClaim := { program := "ytihipdmjacplfaa", sum := "b56ba32e666174ebe7474c73b4f904d5690ab471d4ca0caa68807c0920f28433", func := "loop.example/g00205/laws.FnExactPartsOf", spec := "fnExactPartsOf", unfollowed := true, recurses := true, plainKeys := false, apart := false }
def FnExactPartsOfSaid : Prop := fnExactPartsOfRow.holds Try.pinned (OpenSpec.ofChange fnExactPartsOfSpec)

/-- ITS FALSE NEIGHBOUR: 'it returns false'. Refute it at one input. -/
def fnExactPartsOfWrong : ChangeSpec := { name := "fnExactPartsOf", fn := fun _ => fun
  | [d1, d2] => { results := [.lit (.bool false)], args := [d1, d2] }
  | _ => none }
def FnExactPartsOfWrongFalsely : Prop := fnExactPartsOfRow.holds Try.pinned (OpenSpec.ofChange fnExactPartsOfWrong)

/-- 'laws.FnExactCanMake': WHATEVER THE INPUT: true; the input reads as it did. -/
def fnExactCanMakeSpec : ChangeSpec := { name := "fnExactCanMake", fn := fun _ => fun
  | [d1, d2, d3] => { results := [.lit (.bool true)], args := [d1, d2, d3] }
  | _ => none }
def fnExactCanMakeRow : OpenClaim := { program := "ytihipdmjacplfaa", sum := "b56ba32e666174ebe7474c73b4f904d5690ab471d4ca0caa68807c0920f28433", func := "loop.example/g00205/laws.FnExactCanMake", spec := "fnExactCanMake", unfollowed := true, recurses := true, plainKeys := false, apart := false }
def FnExactCanMakeSaid : Prop := fnExactCanMakeRow.holds Try.pinned (OpenSpec.ofChange fnExactCanMakeSpec)

/-- ITS FALSE NEIGHBOUR: 'it returns false'. Refute it at one input. -/
def fnExactCanMakeWrong : ChangeSpec := { name := "fnExactCanMake", fn := fun _ => fun
  | [d1, d2, d3] => { results := [.lit (.bool false)], args := [d1, d2, d3] }
  | _ => none }
def FnExactCanMakeWrongFalsely : Prop := fnExactCanMakeRow.holds Try.pinned (OpenSpec.ofChange fnExactCanMakeWrong)

/-- 'laws.FnExactSameTerms': WHATEVER THE INPUT: true; the input reads as it did. -/
def fnExactSameTermsSpec : ChangeSpec := { name := "fnExactSameTerms", fn := fun _ => fun
  | [d1, d2, d3, d4] => { results := [.lit (.bool true)], args := [d1, d2, d3, d4] }
  | _ => none }
def fnExactSameTermsRow : OpenClaim := { program := "ytihipdmjacplfaa", sum := "b56ba32e666174ebe7474c73b4f904d5690ab471d4ca0caa68807c0920f28433", func := "loop.example/g00205/laws.FnExactSameTerms", spec := "fnExactSameTerms", unfollowed := true, recurses := true, plainKeys := false, apart := false }
def FnExactSameTermsSaid : Prop := fnExactSameTermsRow.holds Try.pinned (OpenSpec.ofChange fnExactSameTermsSpec)

/-- ITS FALSE NEIGHBOUR: 'it returns false'. Refute it at one input. -/
def fnExactSameTermsWrong : ChangeSpec := { name := "fnExactSameTerms", fn := fun _ => fun
  | [d1, d2, d3, d4] => { results := [.lit (.bool false)], args := [d1, d2, d3, d4] }
  | _ => none }
def FnExactSameTermsWrongFalsely : Prop := fnExactSameTermsRow.holds Try.pinned (OpenSpec.ofChange fnExactSameTermsWrong)

/-- 'laws.FnExactDerives': WHATEVER THE INPUT: true; the input reads as it did. -/
def fnExactDerivesSpec : ChangeSpec := { name := "fnExactDerives", fn := fun _ => fun
  | [d1, d2, d3] => { results := [.lit (.bool true)], args := [d1, d2, d3] }
  | _ => none }
def fnExactDerivesRow : OpenClaim := { program := "ytihipdmjacplfaa", sum := "b56ba32e666174ebe7474c73b4f904d5690ab471d4ca0caa68807c0920f28433", func := "loop.example/g00205/laws.FnExactDerives", spec := "fnExactDerives", unfollowed := true, recurses := true, plainKeys := false, apart := false }
def FnExactDerivesSaid : Prop := fnExactDerivesRow.holds Try.pinned (OpenSpec.ofChange fnExactDerivesSpec)

/-- ITS FALSE NEIGHBOUR: 'it returns false'. Refute it at one input. -/
def fnExactDerivesWrong : ChangeSpec := { name := "fnExactDerives", fn := fun _ => fun
  | [d1, d2, d3] => { results := [.lit (.bool false)], args := [d1, d2, d3] }
  | _ => none }
def FnExactDerivesWrongFalsely : Prop := fnExactDerivesRow.holds Try.pinned (OpenSpec.ofChange fnExactDerivesWrong)

/-- 'laws.FnExactIsSecret': WHATEVER THE INPUT: true; the input reads as it did. -/
def fnExactIsSecretSpec : ChangeSpec := { name := "fnExactIsSecret", fn := fun _ => fun
  | [d1, d2, d3] => { results := [.lit (.bool true)], args := [d1, d2, d3] }
  | _ => none }
def fnExactIsSecretRow : OpenClaim := { program := "ytihipdmjacplfaa", sum := "b56ba32e666174ebe7474c73b4f904d5690ab471d4ca0caa68807c0920f28433", func := "loop.example/g00205/laws.FnExactIsSecret", spec := "fnExactIsSecret", unfollowed := true, recurses := true, plainKeys := false, apart := false }
def FnExactIsSecretSaid : Prop := fnExactIsSecretRow.holds Try.pinned (OpenSpec.ofChange fnExactIsSecretSpec)

/-- ITS FALSE NEIGHBOUR: 'it returns false'. Refute it at one input. -/
def fnExactIsSecretWrong : ChangeSpec := { name := "fnExactIsSecret", fn := fun _ => fun
  | [d1, d2, d3] => { results := [.lit (.bool false)], args := [d1, d2, d3] }
  | _ => none }
def FnExactIsSecretWrongFalsely : Prop := fnExactIsSecretRow.holds Try.pinned (OpenSpec.ofChange fnExactIsSecretWrong)

/-- 'laws.FnExactEncodeTerm': WHATEVER THE INPUT: true; the input reads as it did. -/
def fnExactEncodeTermSpec : ChangeSpec := { name := "fnExactEncodeTerm", fn := fun _ => fun
  | [d1, d2] => { results := [.lit (.bool true)], args := [d1, d2] }
  | _ => none }
def fnExactEncodeTermRow : OpenClaim := { program := "ytihipdmjacplfaa", sum := "b56ba32e666174ebe7474c73b4f904d5690ab471d4ca0caa68807c0920f28433", func := "loop.example/g00205/laws.FnExactEncodeTerm", spec := "fnExactEncodeTerm", unfollowed := true, recurses := true, plainKeys := false, apart := false }
def FnExactEncodeTermSaid : Prop := fnExactEncodeTermRow.holds Try.pinned (OpenSpec.ofChange fnExactEncodeTermSpec)

/-- ITS FALSE NEIGHBOUR: 'it returns false'. Refute it at one input. -/
def fnExactEncodeTermWrong : ChangeSpec := { name := "fnExactEncodeTerm", fn := fun _ => fun
  | [d1, d2] => { results := [.lit (.bool false)], args := [d1, d2] }
  | _ => none }
def FnExactEncodeTermWrongFalsely : Prop := fnExactEncodeTermRow.holds Try.pinned (OpenSpec.ofChange fnExactEncodeTermWrong)

/-- 'laws.FnExactOpenAll': WHATEVER THE INPUT: true; the input reads as it did. -/
def fnExactOpenAllSpec : ChangeSpec := { name := "fnExactOpenAll", fn := fun _ => fun
  | [d1, d2] => { results := [.lit (.bool true)], args := [d1, d2] }
  | _ => none }
def fnExactOpenAllRow : OpenClaim := { program := "ytihipdmjacplfaa", sum := "b56ba32e666174ebe7474c73b4f904d5690ab471d4ca0caa68807c0920f28433", func := "loop.example/g00205/laws.FnExactOpenAll", spec := "fnExactOpenAll", unfollowed := true, recurses := true, plainKeys := false, apart := false }
def FnExactOpenAllSaid : Prop := fnExactOpenAllRow.holds Try.pinned (OpenSpec.ofChange fnExactOpenAllSpec)

/-- ITS FALSE NEIGHBOUR: 'it returns false'. Refute it at one input. -/
def fnExactOpenAllWrong : ChangeSpec := { name := "fnExactOpenAll", fn := fun _ => fun
  | [d1, d2] => { results := [.lit (.bool false)], args := [d1, d2] }
  | _ => none }
def FnExactOpenAllWrongFalsely : Prop := fnExactOpenAllRow.holds Try.pinned (OpenSpec.ofChange fnExactOpenAllWrong)

/-- 'laws.FnExactDerivesSome': WHATEVER THE INPUT: true; the input reads as it did. -/
def fnExactDerivesSomeSpec : ChangeSpec := { name := "fnExactDerivesSome", fn := fun _ => fun
  | [d1, d2] => { results := [.lit (.bool true)], args := [d1, d2] }
  | _ => none }
def fnExactDerivesSomeRow : OpenClaim := { program := "ytihipdmjacplfaa", sum := "b56ba32e666174ebe7474c73b4f904d5690ab471d4ca0caa68807c0920f28433", func := "loop.example/g00205/laws.FnExactDerivesSome", spec := "fnExactDerivesSome", unfollowed := true, recurses := true, plainKeys := false, apart := false }
def FnExactDerivesSomeSaid : Prop := fnExactDerivesSomeRow.holds Try.pinned (OpenSpec.ofChange fnExactDerivesSomeSpec)

/-- ITS FALSE NEIGHBOUR: 'it returns false'. Refute it at one input. -/
def fnExactDerivesSomeWrong : ChangeSpec := { name := "fnExactDerivesSome", fn := fun _ => fun
  | [d1, d2] => { results := [.lit (.bool false)], args := [d1, d2] }
  | _ => none }
def FnExactDerivesSomeWrongFalsely : Prop := fnExactDerivesSomeRow.holds Try.pinned (OpenSpec.ofChange fnExactDerivesSomeWrong)

/-- 'laws.FnMore': WHATEVER THE INPUT: true; the input reads as it did. -/
def fnMoreSpec : ChangeSpec := { name := "fnMore", fn := fun _ => fun
  | [d] => { results := [.lit (.bool true)], args := [d] }
  | _ => none }
def fnMoreRow : OpenClaim := { program := "ytihipdmjacplfaa", sum := "b56ba32e666174ebe7474c73b4f904d5690ab471d4ca0caa68807c0920f28433", func := "loop.example/g00205/laws.FnMore", spec := "fnMore", unfollowed := true, recurses := true, plainKeys := false, apart := false }
def FnMoreSaid : Prop := fnMoreRow.holds Try.pinned (OpenSpec.ofChange fnMoreSpec)

/-- ITS FALSE NEIGHBOUR: 'it returns false'. Refute it at one input. -/
def fnMoreWrong : ChangeSpec := { name := "fnMore", fn := fun _ => fun
  | [d] => { results := [.lit (.bool false)], args := [d] }
  | _ => none }
def FnMoreWrongFalsely : Prop := fnMoreRow.holds Try.pinned (OpenSpec.ofChange fnMoreWrong)

/-- 'laws.FnOpens': WHATEVER THE INPUT: true; the input reads as it did. -/
def fnOpensSpec : ChangeSpec := { name := "fnOpens", fn := fun _ => fun
  | [d] => { results := [.lit (.bool true)], args := [d] }
  | _ => none }
def fnOpensRow : OpenClaim := { program := "ytihipdmjacplfaa", sum := "b56ba32e666174ebe7474c73b4f904d5690ab471d4ca0caa68807c0920f28433", func := "loop.example/g00205/laws.FnOpens", spec := "fnOpens", unfollowed := true, recurses := true, plainKeys := false, apart := false }
def FnOpensSaid : Prop := fnOpensRow.holds Try.pinned (OpenSpec.ofChange fnOpensSpec)

/-- ITS FALSE NEIGHBOUR: 'it returns false'. Refute it at one input. -/
def fnOpensWrong : ChangeSpec := { name := "fnOpens", fn := fun _ => fun
  | [d] => { results := [.lit (.bool false)], args := [d] }
  | _ => none }
def FnOpensWrongFalsely : Prop := fnOpensRow.holds Try.pinned (OpenSpec.ofChange fnOpensWrong)

/- THE SECOND FORM. 'bulk': how many values and letters a reading holds, each counted each time it is reached (what is shared counts as often as it is met; a slice's spare places count too). A statement '..UptoSaid' is the law's where the arguments, and the package variables that the reading takes, are together of bulk at most 1048576: NARROWER than '..Said'. Prove '..Said' where nothing that the law and all that it calls make is longer than what came in: it says more and counts as full. Else prove '..UptoSaid'. A law counts once. -/
mutual
def uptoBulk {H : Type} : DataW H → Nat
  | .lit (.string bytes) => bytes.length + 1
  | .lit _ => 1
  | .nil => 1
  | .ptr d => uptoBulk d + 1
  | .slice elems spare => uptoBulkAll elems + uptoBulkAll spare + 1
  | .agg parts => uptoBulkAll parts + 1
  | .iface _ d => uptoBulk d + 1
  | .map entries => uptoBulkEntries entries + 1
  | .held _ => 1
def uptoBulkAll {H : Type} : List (DataW H) → Nat
  | [] => 0
  | d :: r => uptoBulk d + uptoBulkAll r
def uptoBulkEntries {H : Type} : List (Lit × DataW H) → Nat
  | [] => 0
  | x :: r => uptoBulkEntry x + uptoBulkEntries r
def uptoBulkEntry {H : Type} : Lit × DataW H → Nat
  | (.string bytes, d) => bytes.length + uptoBulk d + 1
  | (_, d) => uptoBulk d + 1
 end
def uptoSmall : (H : Type) → List (DataW H) → Bool := fun _ ds => decide (uptoBulkAll ds ≤ 1048576)
def OpenSpec.upto (s : _root_.Go.ChangeSpec) : _root_.Go.OpenSpec := { _root_.Go.OpenSpec.ofChange s with cond := some uptoSmall }

/-- 'laws.FnExactTermsFault', WHERE WHAT IT READS IS OF BULK AT MOST 1048576: true; the input reads as it did. -/
def fnExactTermsFaultUptoRow : OpenClaim := { program := "ytihipdmjacplfaa", sum := "b56ba32e666174ebe7474c73b4f904d5690ab471d4ca0caa68807c0920f28433", func := "loop.example/g00205/laws.FnExactTermsFault", spec := "fnExactTermsFault", unfollowed := true, recurses := true, plainKeys := false, apart := false, narrowed := true }
def FnExactTermsFaultUptoSaid : Prop := fnExactTermsFaultUptoRow.holds Try.pinned (OpenSpec.upto fnExactTermsFaultSpec)

/-- 'laws.FnExactKnownFault', WHERE WHAT IT READS IS OF BULK AT MOST 1048576: true; the input reads as it did. -/
def fnExactKnownFaultUptoRow : OpenClaim := { program := "ytihipdmjacplfaa", sum := "b56ba32e666174ebe7474c73b4f904d5690ab471d4ca0caa68807c0920f28433", func := "loop.example/g00205/laws.FnExactKnownFault", spec := "fnExactKnownFault", unfollowed := true, recurses := true, plainKeys := false, apart := false, narrowed := true }
def FnExactKnownFaultUptoSaid : Prop := fnExactKnownFaultUptoRow.holds Try.pinned (OpenSpec.upto fnExactKnownFaultSpec)

/-- 'laws.FnExactDepthOf', WHERE WHAT IT READS IS OF BULK AT MOST 1048576: true; the input reads as it did. -/
def fnExactDepthOfUptoRow : OpenClaim := { program := "ytihipdmjacplfaa", sum := "b56ba32e666174ebe7474c73b4f904d5690ab471d4ca0caa68807c0920f28433", func := "loop.example/g00205/laws.FnExactDepthOf", spec := "fnExactDepthOf", unfollowed := true, recurses := true, plainKeys := false, apart := false, narrowed := true }
def FnExactDepthOfUptoSaid : Prop := fnExactDepthOfUptoRow.holds Try.pinned (OpenSpec.upto fnExactDepthOfSpec)

/-- 'laws.FnExactSizeOf', WHERE WHAT IT READS IS OF BULK AT MOST 1048576: true; the input reads as it did. -/
def fnExactSizeOfUptoRow : OpenClaim := { program := "ytihipdmjacplfaa", sum := "b56ba32e666174ebe7474c73b4f904d5690ab471d4ca0caa68807c0920f28433", func := "loop.example/g00205/laws.FnExactSizeOf", spec := "fnExactSizeOf", unfollowed := true, recurses := true, plainKeys := false, apart := false, narrowed := true }
def FnExactSizeOfUptoSaid : Prop := fnExactSizeOfUptoRow.holds Try.pinned (OpenSpec.upto fnExactSizeOfSpec)

/-- 'laws.FnExactOccursIn', WHERE WHAT IT READS IS OF BULK AT MOST 1048576: true; the input reads as it did. -/
def fnExactOccursInUptoRow : OpenClaim := { program := "ytihipdmjacplfaa", sum := "b56ba32e666174ebe7474c73b4f904d5690ab471d4ca0caa68807c0920f28433", func := "loop.example/g00205/laws.FnExactOccursIn", spec := "fnExactOccursIn", unfollowed := true, recurses := true, plainKeys := false, apart := false, narrowed := true }
def FnExactOccursInUptoSaid : Prop := fnExactOccursInUptoRow.holds Try.pinned (OpenSpec.upto fnExactOccursInSpec)

/-- 'laws.FnExactPartsOf', WHERE WHAT IT READS IS OF BULK AT MOST 1048576: true; the input reads as it did. -/
def fnExactPartsOfUptoRow : OpenClaim := { program := "ytihipdmjacplfaa", sum := "b56ba32e666174ebe7474c73b4f904d5690ab471d4ca0caa68807c0920f28433", func := "loop.example/g00205/laws.FnExactPartsOf", spec := "fnExactPartsOf", unfollowed := true, recurses := true, plainKeys := false, apart := false, narrowed := true }
def FnExactPartsOfUptoSaid : Prop := fnExactPartsOfUptoRow.holds Try.pinned (OpenSpec.upto fnExactPartsOfSpec)

/-- 'laws.FnExactCanMake', WHERE WHAT IT READS IS OF BULK AT MOST 1048576: true; the input reads as it did. -/
def fnExactCanMakeUptoRow : OpenClaim := { program := "ytihipdmjacplfaa", sum := "b56ba32e666174ebe7474c73b4f904d5690ab471d4ca0caa68807c0920f28433", func := "loop.example/g00205/laws.FnExactCanMake", spec := "fnExactCanMake", unfollowed := true, recurses := true, plainKeys := false, apart := false, narrowed := true }
def FnExactCanMakeUptoSaid : Prop := fnExactCanMakeUptoRow.holds Try.pinned (OpenSpec.upto fnExactCanMakeSpec)

/-- 'laws.FnExactSameTerms', WHERE WHAT IT READS IS OF BULK AT MOST 1048576: true; the input reads as it did. -/
def fnExactSameTermsUptoRow : OpenClaim := { program := "ytihipdmjacplfaa", sum := "b56ba32e666174ebe7474c73b4f904d5690ab471d4ca0caa68807c0920f28433", func := "loop.example/g00205/laws.FnExactSameTerms", spec := "fnExactSameTerms", unfollowed := true, recurses := true, plainKeys := false, apart := false, narrowed := true }
def FnExactSameTermsUptoSaid : Prop := fnExactSameTermsUptoRow.holds Try.pinned (OpenSpec.upto fnExactSameTermsSpec)

/-- 'laws.FnExactDerives', WHERE WHAT IT READS IS OF BULK AT MOST 1048576: true; the input reads as it did. -/
def fnExactDerivesUptoRow : OpenClaim := { program := "ytihipdmjacplfaa", sum := "b56ba32e666174ebe7474c73b4f904d5690ab471d4ca0caa68807c0920f28433", func := "loop.example/g00205/laws.FnExactDerives", spec := "fnExactDerives", unfollowed := true, recurses := true, plainKeys := false, apart := false, narrowed := true }
def FnExactDerivesUptoSaid : Prop := fnExactDerivesUptoRow.holds Try.pinned (OpenSpec.upto fnExactDerivesSpec)

/-- 'laws.FnExactIsSecret', WHERE WHAT IT READS IS OF BULK AT MOST 1048576: true; the input reads as it did. -/
def fnExactIsSecretUptoRow : OpenClaim := { program := "ytihipdmjacplfaa", sum := "b56ba32e666174ebe7474c73b4f904d5690ab471d4ca0caa68807c0920f28433", func := "loop.example/g00205/laws.FnExactIsSecret", spec := "fnExactIsSecret", unfollowed := true, recurses := true, plainKeys := false, apart := false, narrowed := true }
def FnExactIsSecretUptoSaid : Prop := fnExactIsSecretUptoRow.holds Try.pinned (OpenSpec.upto fnExactIsSecretSpec)

/-- 'laws.FnExactEncodeTerm', WHERE WHAT IT READS IS OF BULK AT MOST 1048576: true; the input reads as it did. -/
def fnExactEncodeTermUptoRow : OpenClaim := { program := "ytihipdmjacplfaa", sum := "b56ba32e666174ebe7474c73b4f904d5690ab471d4ca0caa68807c0920f28433", func := "loop.example/g00205/laws.FnExactEncodeTerm", spec := "fnExactEncodeTerm", unfollowed := true, recurses := true, plainKeys := false, apart := false, narrowed := true }
def FnExactEncodeTermUptoSaid : Prop := fnExactEncodeTermUptoRow.holds Try.pinned (OpenSpec.upto fnExactEncodeTermSpec)

/-- 'laws.FnExactOpenAll', WHERE WHAT IT READS IS OF BULK AT MOST 1048576: true; the input reads as it did. -/
def fnExactOpenAllUptoRow : OpenClaim := { program := "ytihipdmjacplfaa", sum := "b56ba32e666174ebe7474c73b4f904d5690ab471d4ca0caa68807c0920f28433", func := "loop.example/g00205/laws.FnExactOpenAll", spec := "fnExactOpenAll", unfollowed := true, recurses := true, plainKeys := false, apart := false, narrowed := true }
def FnExactOpenAllUptoSaid : Prop := fnExactOpenAllUptoRow.holds Try.pinned (OpenSpec.upto fnExactOpenAllSpec)

/-- 'laws.FnExactDerivesSome', WHERE WHAT IT READS IS OF BULK AT MOST 1048576: true; the input reads as it did. -/
def fnExactDerivesSomeUptoRow : OpenClaim := { program := "ytihipdmjacplfaa", sum := "b56ba32e666174ebe7474c73b4f904d5690ab471d4ca0caa68807c0920f28433", func := "loop.example/g00205/laws.FnExactDerivesSome", spec := "fnExactDerivesSome", unfollowed := true, recurses := true, plainKeys := false, apart := false, narrowed := true }
def FnExactDerivesSomeUptoSaid : Prop := fnExactDerivesSomeUptoRow.holds Try.pinned (OpenSpec.upto fnExactDerivesSomeSpec)

/-- 'laws.FnMore', WHERE WHAT IT READS IS OF BULK AT MOST 1048576: true; the input reads as it did. -/
def fnMoreUptoRow : OpenClaim := { program := "ytihipdmjacplfaa", sum := "b56ba32e666174ebe7474c73b4f904d5690ab471d4ca0caa68807c0920f28433", func := "loop.example/g00205/laws.FnMore", spec := "fnMore", unfollowed := true, recurses := true, plainKeys := false, apart := false, narrowed := true }
def FnMoreUptoSaid : Prop := fnMoreUptoRow.holds Try.pinned (OpenSpec.upto fnMoreSpec)

/-- 'laws.FnOpens', WHERE WHAT IT READS IS OF BULK AT MOST 1048576: true; the input reads as it did. -/
def fnOpensUptoRow : OpenClaim := { program := "ytihipdmjacplfaa", sum := "b56ba32e666174ebe7474c73b4f904d5690ab471d4ca0caa68807c0920f28433", func := "loop.example/g00205/laws.FnOpens", spec := "fnOpens", unfollowed := true, recurses := true, plainKeys := false, apart := false, narrowed := true }
def FnOpensUptoSaid : Prop := fnOpensUptoRow.holds Try.pinned (OpenSpec.upto fnOpensSpec)

end Rows
end Go.Proofs.Ytihipdmjacplfaa
