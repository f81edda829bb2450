/-
  No cell of these rows narrows 'for every input' (looked for: loops, veiled, ifaces, maps, wideKeys, modest, calm, conditions, laid).
  DERIVED. THE GIVEN ROWS OF THIS SEAT. 7 by the template 'for every input the law returns true; each argument reads behind the call as it read before'; 0 by the template 'total and deterministic' (their statements: YtidfgmekhededaaTotals.lean).
  GIVEN WITH THE SEED: the statements are not yours to turn. If you find one false, say at which input.
  Laid BY PROGRAM, IN A SANDBOX (cutbox-rows.mjs): the forced cells as the released guide's own fill.sh prints them over the translation 6ca157f5d681480d… (all of the seat's roots in one cut). By AI agents, Wed Nov 11 2026. No macro, syntax, notation, axiom, sorry.
-/
import Derived.Test.YtidfgmekhededaaChecked
import GoSem.Claim
import GoSem.ClaimJoined
import GoSem.ClaimMapViews
import Derived.JoinedTies
import Derived.KernelRfl
namespace Go.Proofs.Ytidfgmekhededaa
/- THE CELL 'sum', in the pinned program and in every row, IS THE sha256 OF THE DUMP (.gsa) THAT YtidfgmekhededaaProg.lean LOADS. Nothing in Lean hashes anything: it is a label: what it is worth is what the hold of that sum in a sandbox is worth. -/
noncomputable def Try.pinned : Pinned := { name := "ytidfgmekhededaa", sum := "6ca157f5d681480dcaffc8b45e3b3f6af2cb2a01e4e4df5239274ef46da9bc1c", checked := Try.checked }
namespace Rows
def none {H : Type} : Left H := { results := [], args := [] }

/-- 'laws.FnExactSameTerms': WHATEVER THE INPUT: true; the input reads as it did. -/
def fnExactSameTermsSpec : ChangeSpec := { name := "fnExactSameTerms", fn := fun _ => fun
  | [d1, d2, d3, d4] => { results := [.lit (.bool true)], args := [d1, d2, d3, d4] }
  | _ => none }
def fnExactSameTermsRow : OpenClaim := { program := "ytidfgmekhededaa", sum := "6ca157f5d681480dcaffc8b45e3b3f6af2cb2a01e4e4df5239274ef46da9bc1c", func := "loop.example/g00205/laws.FnExactSameTerms", spec := "fnExactSameTerms", unfollowed := true, recurses := true, plainKeys := false, apart := false }
def FnExactSameTermsSaid : Prop := fnExactSameTermsRow.holds Try.pinned (OpenSpec.ofChange fnExactSameTermsSpec)

/-- ITS FALSE NEIGHBOUR: 'it returns false'. Refute it at one input. -/
def fnExactSameTermsWrong : ChangeSpec := { name := "fnExactSameTerms", fn := fun _ => fun
  | [d1, d2, d3, d4] => { results := [.lit (.bool false)], args := [d1, d2, d3, d4] }
  | _ => none }
def FnExactSameTermsWrongFalsely : Prop := fnExactSameTermsRow.holds Try.pinned (OpenSpec.ofChange fnExactSameTermsWrong)

/-- 'laws.FnExactDerives': WHATEVER THE INPUT: true; the input reads as it did. -/
def fnExactDerivesSpec : ChangeSpec := { name := "fnExactDerives", fn := fun _ => fun
  | [d1, d2, d3] => { results := [.lit (.bool true)], args := [d1, d2, d3] }
  | _ => none }
def fnExactDerivesRow : OpenClaim := { program := "ytidfgmekhededaa", sum := "6ca157f5d681480dcaffc8b45e3b3f6af2cb2a01e4e4df5239274ef46da9bc1c", func := "loop.example/g00205/laws.FnExactDerives", spec := "fnExactDerives", unfollowed := true, recurses := true, plainKeys := false, apart := false }
def FnExactDerivesSaid : Prop := fnExactDerivesRow.holds Try.pinned (OpenSpec.ofChange fnExactDerivesSpec)

/-- ITS FALSE NEIGHBOUR: 'it returns false'. Refute it at one input. -/
def fnExactDerivesWrong : ChangeSpec := { name := "fnExactDerives", fn := fun _ => fun
  | [d1, d2, d3] => { results := [.lit (.bool false)], args := [d1, d2, d3] }
  | _ => none }
def FnExactDerivesWrongFalsely : Prop := fnExactDerivesRow.holds Try.pinned (OpenSpec.ofChange fnExactDerivesWrong)

/-- 'laws.FnExactIsSecret': WHATEVER THE INPUT: true; the input reads as it did. -/
def fnExactIsSecretSpec : ChangeSpec := { name := "fnExactIsSecret", fn := fun _ => fun
  | [d1, d2, d3] => { results := [.lit (.bool true)], args := [d1, d2, d3] }
  | _ => none }
def fnExactIsSecretRow : OpenClaim := { program := "ytidfgmekhededaa", sum := "6ca157f5d681480dcaffc8b45e3b3f6af2cb2a01e4e4df5239274ef46da9bc1c", func := "loop.example/g00205/laws.FnExactIsSecret", spec := "fnExactIsSecret", unfollowed := true, recurses := true, plainKeys := false, apart := false }
def FnExactIsSecretSaid : Prop := fnExactIsSecretRow.holds Try.pinned (OpenSpec.ofChange fnExactIsSecretSpec)

/-- ITS FALSE NEIGHBOUR: 'it returns false'. Refute it at one input. -/
def fnExactIsSecretWrong : ChangeSpec := { name := "fnExactIsSecret", fn := fun _ => fun
  | [d1, d2, d3] => { results := [.lit (.bool false)], args := [d1, d2, d3] }
  | _ => none }
def FnExactIsSecretWrongFalsely : Prop := fnExactIsSecretRow.holds Try.pinned (OpenSpec.ofChange fnExactIsSecretWrong)

/-- 'laws.FnExactOpenAll': WHATEVER THE INPUT: true; the input reads as it did. -/
def fnExactOpenAllSpec : ChangeSpec := { name := "fnExactOpenAll", fn := fun _ => fun
  | [d1, d2] => { results := [.lit (.bool true)], args := [d1, d2] }
  | _ => none }
def fnExactOpenAllRow : OpenClaim := { program := "ytidfgmekhededaa", sum := "6ca157f5d681480dcaffc8b45e3b3f6af2cb2a01e4e4df5239274ef46da9bc1c", func := "loop.example/g00205/laws.FnExactOpenAll", spec := "fnExactOpenAll", unfollowed := true, recurses := true, plainKeys := false, apart := false }
def FnExactOpenAllSaid : Prop := fnExactOpenAllRow.holds Try.pinned (OpenSpec.ofChange fnExactOpenAllSpec)

/-- ITS FALSE NEIGHBOUR: 'it returns false'. Refute it at one input. -/
def fnExactOpenAllWrong : ChangeSpec := { name := "fnExactOpenAll", fn := fun _ => fun
  | [d1, d2] => { results := [.lit (.bool false)], args := [d1, d2] }
  | _ => none }
def FnExactOpenAllWrongFalsely : Prop := fnExactOpenAllRow.holds Try.pinned (OpenSpec.ofChange fnExactOpenAllWrong)

/-- 'laws.FnExactDerivesSome': WHATEVER THE INPUT: true; the input reads as it did. -/
def fnExactDerivesSomeSpec : ChangeSpec := { name := "fnExactDerivesSome", fn := fun _ => fun
  | [d1, d2] => { results := [.lit (.bool true)], args := [d1, d2] }
  | _ => none }
def fnExactDerivesSomeRow : OpenClaim := { program := "ytidfgmekhededaa", sum := "6ca157f5d681480dcaffc8b45e3b3f6af2cb2a01e4e4df5239274ef46da9bc1c", func := "loop.example/g00205/laws.FnExactDerivesSome", spec := "fnExactDerivesSome", unfollowed := true, recurses := true, plainKeys := false, apart := false }
def FnExactDerivesSomeSaid : Prop := fnExactDerivesSomeRow.holds Try.pinned (OpenSpec.ofChange fnExactDerivesSomeSpec)

/-- ITS FALSE NEIGHBOUR: 'it returns false'. Refute it at one input. -/
def fnExactDerivesSomeWrong : ChangeSpec := { name := "fnExactDerivesSome", fn := fun _ => fun
  | [d1, d2] => { results := [.lit (.bool false)], args := [d1, d2] }
  | _ => none }
def FnExactDerivesSomeWrongFalsely : Prop := fnExactDerivesSomeRow.holds Try.pinned (OpenSpec.ofChange fnExactDerivesSomeWrong)

/-- 'laws.FnMore': WHATEVER THE INPUT: true; the input reads as it did. -/
def fnMoreSpec : ChangeSpec := { name := "fnMore", fn := fun _ => fun
  | [d] => { results := [.lit (.bool true)], args := [d] }
  | _ => none }
def fnMoreRow : OpenClaim := { program := "ytidfgmekhededaa", sum := "6ca157f5d681480dcaffc8b45e3b3f6af2cb2a01e4e4df5239274ef46da9bc1c", func := "loop.example/g00205/laws.FnMore", spec := "fnMore", unfollowed := true, recurses := true, plainKeys := false, apart := false }
def FnMoreSaid : Prop := fnMoreRow.holds Try.pinned (OpenSpec.ofChange fnMoreSpec)

/-- ITS FALSE NEIGHBOUR: 'it returns false'. Refute it at one input. -/
def fnMoreWrong : ChangeSpec := { name := "fnMore", fn := fun _ => fun
  | [d] => { results := [.lit (.bool false)], args := [d] }
  | _ => none }
def FnMoreWrongFalsely : Prop := fnMoreRow.holds Try.pinned (OpenSpec.ofChange fnMoreWrong)

/-- 'laws.FnOpens': WHATEVER THE INPUT: true; the input reads as it did. -/
def fnOpensSpec : ChangeSpec := { name := "fnOpens", fn := fun _ => fun
  | [d] => { results := [.lit (.bool true)], args := [d] }
  | _ => none }
def fnOpensRow : OpenClaim := { program := "ytidfgmekhededaa", sum := "6ca157f5d681480dcaffc8b45e3b3f6af2cb2a01e4e4df5239274ef46da9bc1c", func := "loop.example/g00205/laws.FnOpens", spec := "fnOpens", unfollowed := true, recurses := true, plainKeys := false, apart := false }
def FnOpensSaid : Prop := fnOpensRow.holds Try.pinned (OpenSpec.ofChange fnOpensSpec)

/-- ITS FALSE NEIGHBOUR: 'it returns false'. Refute it at one input. -/
def fnOpensWrong : ChangeSpec := { name := "fnOpens", fn := fun _ => fun
  | [d] => { results := [.lit (.bool false)], args := [d] }
  | _ => none }
def FnOpensWrongFalsely : Prop := fnOpensRow.holds Try.pinned (OpenSpec.ofChange fnOpensWrong)

/- THE SECOND FORM. 'bulk': how many values and letters a reading holds, each counted each time it is reached (what is shared counts as often as it is met; a slice's spare places count too). A statement '..UptoSaid' is the law's where the arguments, and the package variables that the reading takes, are together of bulk at most 1048576: NARROWER than '..Said'. Prove '..Said' where nothing that the law and all that it calls make is longer than what came in: it says more and counts as full. Else prove '..UptoSaid'. A law counts once. -/
mutual
def uptoBulk {H : Type} : DataW H → Nat
  | .lit (.string bytes) => bytes.length + 1
  | .lit _ => 1
  | .nil => 1
  | .ptr d => uptoBulk d + 1
  | .slice elems spare => uptoBulkAll elems + uptoBulkAll spare + 1
  | .agg parts => uptoBulkAll parts + 1
  | .iface _ d => uptoBulk d + 1
  | .map entries => uptoBulkEntries entries + 1
  | .held _ => 1
def uptoBulkAll {H : Type} : List (DataW H) → Nat
  | [] => 0
  | d :: r => uptoBulk d + uptoBulkAll r
def uptoBulkEntries {H : Type} : List (Lit × DataW H) → Nat
  | [] => 0
  | x :: r => uptoBulkEntry x + uptoBulkEntries r
def uptoBulkEntry {H : Type} : Lit × DataW H → Nat
  | (.string bytes, d) => bytes.length + uptoBulk d + 1
  | (_, d) => uptoBulk d + 1
 end
def uptoSmall : (H : Type) → List (DataW H) → Bool := fun _ ds => decide (uptoBulkAll ds ≤ 1048576)
def OpenSpec.upto (s : _root_.Go.ChangeSpec) : _root_.Go.OpenSpec := { _root_.Go.OpenSpec.ofChange s with cond := some uptoSmall }

/-- 'laws.FnExactSameTerms', WHERE WHAT IT READS IS OF BULK AT MOST 1048576: true; the input reads as it did. -/
def fnExactSameTermsUptoRow : OpenClaim := { program := "ytidfgmekhededaa", sum := "6ca157f5d681480dcaffc8b45e3b3f6af2cb2a01e4e4df5239274ef46da9bc1c", func := "loop.example/g00205/laws.FnExactSameTerms", spec := "fnExactSameTerms", unfollowed := true, recurses := true, plainKeys := false, apart := false, narrowed := true }
def FnExactSameTermsUptoSaid : Prop := fnExactSameTermsUptoRow.holds Try.pinned (OpenSpec.upto fnExactSameTermsSpec)

/-- 'laws.FnExactDerives', WHERE WHAT IT READS IS OF BULK AT MOST 1048576: true; the input reads as it did. -/
def fnExactDerivesUptoRow : OpenClaim := { program := "ytidfgmekhededaa", sum := "6ca157f5d681480dcaffc8b45e3b3f6af2cb2a01e4e4df5239274ef46da9bc1c", func := "loop.example/g00205/laws.FnExactDerives", spec := "fnExactDerives", unfollowed := true, recurses := true, plainKeys := false, apart := false, narrowed := true }
def FnExactDerivesUptoSaid : Prop := fnExactDerivesUptoRow.holds Try.pinned (OpenSpec.upto fnExactDerivesSpec)

/-- 'laws.FnExactIsSecret', WHERE WHAT IT READS IS OF BULK AT MOST 1048576: true; the input reads as it did. -/
def fnExactIsSecretUptoRow : OpenClaim := { program := "ytidfgmekhededaa", sum := "6ca157f5d681480dcaffc8b45e3b3f6af2cb2a01e4e4df5239274ef46da9bc1c", func := "loop.example/g00205/laws.FnExactIsSecret", spec := "fnExactIsSecret", unfollowed := true, recurses := true, plainKeys := false, apart := false, narrowed := true }
def FnExactIsSecretUptoSaid : Prop := fnExactIsSecretUptoRow.holds Try.pinned (OpenSpec.upto fnExactIsSecretSpec)

/-- 'laws.FnExactOpenAll', WHERE WHAT IT READS IS OF BULK AT MOST 1048576: true; the input reads as it did. -/
def fnExactOpenAllUptoRow : OpenClaim := { program := "ytidfgmekhededaa", sum := "6ca157f5d681480dcaffc8b45e3b3f6af2cb2a01e4e4df5239274ef46da9bc1c", func := "loop.example/g00205/laws.FnExactOpenAll", spec := "fnExactOpenAll", unfollowed := true, recurses := true, plainKeys := false, apart := false, narrowed := true }
def FnExactOpenAllUptoSaid : Prop := fnExactOpenAllUptoRow.holds Try.pinned (OpenSpec.upto fnExactOpenAllSpec)

/-- 'laws.FnExactDerivesSome', WHERE WHAT IT READS IS OF BULK AT MOST 1048576: true; the input reads as it did. -/
def fnExactDerivesSomeUptoRow : OpenClaim := { program := "ytidfgmekhededaa", sum := "6ca157f5d681480dcaffc8b45e3b3f6af2cb2a01e4e4df5239274ef46da9bc1c", func := "loop.example/g00205/laws.FnExactDerivesSome", spec := "fnExactDerivesSome", unfollowed := true, recurses := true, plainKeys := false, apart := false, narrowed := true }
def FnExactDerivesSomeUptoSaid : Prop := fnExactDerivesSomeUptoRow.holds Try.pinned (OpenSpec.upto fnExactDerivesSomeSpec)

/-- 'laws.FnMore', WHERE WHAT IT READS IS OF BULK AT MOST 1048576: true; the input reads as it did. -/
def fnMoreUptoRow : OpenClaim := { program := "ytidfgmekhededaa", sum := "6ca157f5d681480dcaffc8b45e3b3f6af2cb2a01e4e4df5239274ef46da9bc1c", func := "loop.example/g00205/laws.FnMore", spec := "fnMore", unfollowed := true, recurses := true, plainKeys := false, apart := false, narrowed := true }
def FnMoreUptoSaid : Prop := fnMoreUptoRow.holds Try.pinned (OpenSpec.upto fnMoreSpec)

/-- 'laws.FnOpens', WHERE WHAT IT READS IS OF BULK AT MOST 1048576: true; the input reads as it did. -/
def fnOpensUptoRow : OpenClaim := { program := "ytidfgmekhededaa", sum := "6ca157f5d681480dcaffc8b45e3b3f6af2cb2a01e4e4df5239274ef46da9bc1c", func := "loop.example/g00205/laws.FnOpens", spec := "fnOpens", unfollowed := true, recurses := true, plainKeys := false, apart := false, narrowed := true }
def FnOpensUptoSaid : Prop := fnOpensUptoRow.holds Try.pinned (OpenSpec.upto fnOpensSpec)

end Rows
end Go.Proofs.Ytidfgmekhededaa
