/-
  No cell of these rows narrows 'for every input' (looked for: loops, veiled, ifaces, maps, wideKeys, modest, calm, conditions, laid).
  DERIVED. THE GIVEN ROWS OF THIS SEAT. 10 by the template 'for every input the law returns true; each argument reads behind the call as it read before'; 0 by the template 'total and deterministic' (their statements: YtpkpbcfehllehaaTotals.lean).
  GIVEN WITH THE SEED: the statements are not yours to turn. If you find one false, say at which input.
  Laid BY PROGRAM, IN A SANDBOX (cutbox-rows.mjs): the forced cells as the released guide's own fill.sh prints them over the translation a7b2b875052c3b7c… (all of the seat's roots in one cut). By AI agents, Wed Nov 11 2026. No macro, syntax, notation, axiom, sorry.
-/
import Derived.Test.YtpkpbcfehllehaaChecked
import GoSem.Claim
import GoSem.ClaimJoined
import GoSem.ClaimMapViews
import Derived.JoinedTies
import Derived.KernelRfl
namespace Go.Proofs.Ytpkpbcfehllehaa
/- THE CELL 'sum', in the pinned program and in every row, IS THE sha256 OF THE DUMP (.gsa) THAT YtpkpbcfehllehaaProg.lean LOADS. Nothing in Lean hashes anything: it is a label: what it is worth is what the hold of that sum in a sandbox is worth. -/
noncomputable def Try.pinned : Pinned := { name := "ytpkpbcfehllehaa", sum := "a7b2b875052c3b7cf9677f1427e6497aae48c9d58334b0387d9e92b1f866e803", checked := Try.checked }
namespace Rows
def none {H : Type} : Left H := { results := [], args := [] }

/-- 'laws.FnExactValidPulses': WHATEVER THE INPUT: true; the input reads as it did. -/
def fnExactValidPulsesSpec : ChangeSpec := { name := "fnExactValidPulses", fn := fun _ => fun
  | [d] => { results := [.lit (.bool true)], args := [d] }
  | _ => none }
def fnExactValidPulsesRow : OpenClaim := { program := "ytpkpbcfehllehaa", sum := "a7b2b875052c3b7cf9677f1427e6497aae48c9d58334b0387d9e92b1f866e803", func := "loop.example/satelliteclock/laws.FnExactValidPulses", spec := "fnExactValidPulses", apart := false }
def FnExactValidPulsesSaid : Prop := fnExactValidPulsesRow.holds Try.pinned (OpenSpec.ofChange fnExactValidPulsesSpec)

/-- ITS FALSE NEIGHBOUR: 'it returns false'. Refute it at one input. -/
def fnExactValidPulsesWrong : ChangeSpec := { name := "fnExactValidPulses", fn := fun _ => fun
  | [d] => { results := [.lit (.bool false)], args := [d] }
  | _ => none }
def FnExactValidPulsesWrongFalsely : Prop := fnExactValidPulsesRow.holds Try.pinned (OpenSpec.ofChange fnExactValidPulsesWrong)

/-- 'laws.FnValidPulses': WHATEVER THE INPUT: true; the input reads as it did. -/
def fnValidPulsesSpec : ChangeSpec := { name := "fnValidPulses", fn := fun _ => fun
  | [d] => { results := [.lit (.bool true)], args := [d] }
  | _ => none }
def fnValidPulsesRow : OpenClaim := { program := "ytpkpbcfehllehaa", sum := "a7b2b875052c3b7cf9677f1427e6497aae48c9d58334b0387d9e92b1f866e803", func := "loop.example/satelliteclock/laws.FnValidPulses", spec := "fnValidPulses", apart := false }
def FnValidPulsesSaid : Prop := fnValidPulsesRow.holds Try.pinned (OpenSpec.ofChange fnValidPulsesSpec)

/-- ITS FALSE NEIGHBOUR: 'it returns false'. Refute it at one input. -/
def fnValidPulsesWrong : ChangeSpec := { name := "fnValidPulses", fn := fun _ => fun
  | [d] => { results := [.lit (.bool false)], args := [d] }
  | _ => none }
def FnValidPulsesWrongFalsely : Prop := fnValidPulsesRow.holds Try.pinned (OpenSpec.ofChange fnValidPulsesWrong)

/-- 'laws.FnExactGainOf': WHATEVER THE INPUT: true; the input reads as it did. -/
def fnExactGainOfSpec : ChangeSpec := { name := "fnExactGainOf", fn := fun _ => fun
  | [d] => { results := [.lit (.bool true)], args := [d] }
  | _ => none }
def fnExactGainOfRow : OpenClaim := { program := "ytpkpbcfehllehaa", sum := "a7b2b875052c3b7cf9677f1427e6497aae48c9d58334b0387d9e92b1f866e803", func := "loop.example/satelliteclock/laws.FnExactGainOf", spec := "fnExactGainOf", apart := false }
def FnExactGainOfSaid : Prop := fnExactGainOfRow.holds Try.pinned (OpenSpec.ofChange fnExactGainOfSpec)

/-- ITS FALSE NEIGHBOUR: 'it returns false'. Refute it at one input. -/
def fnExactGainOfWrong : ChangeSpec := { name := "fnExactGainOf", fn := fun _ => fun
  | [d] => { results := [.lit (.bool false)], args := [d] }
  | _ => none }
def FnExactGainOfWrongFalsely : Prop := fnExactGainOfRow.holds Try.pinned (OpenSpec.ofChange fnExactGainOfWrong)

/-- 'laws.FnExactCleanPulses': WHATEVER THE INPUT: true; the input reads as it did. -/
def fnExactCleanPulsesSpec : ChangeSpec := { name := "fnExactCleanPulses", fn := fun _ => fun
  | [d] => { results := [.lit (.bool true)], args := [d] }
  | _ => none }
def fnExactCleanPulsesRow : OpenClaim := { program := "ytpkpbcfehllehaa", sum := "a7b2b875052c3b7cf9677f1427e6497aae48c9d58334b0387d9e92b1f866e803", func := "loop.example/satelliteclock/laws.FnExactCleanPulses", spec := "fnExactCleanPulses", apart := false }
def FnExactCleanPulsesSaid : Prop := fnExactCleanPulsesRow.holds Try.pinned (OpenSpec.ofChange fnExactCleanPulsesSpec)

/-- ITS FALSE NEIGHBOUR: 'it returns false'. Refute it at one input. -/
def fnExactCleanPulsesWrong : ChangeSpec := { name := "fnExactCleanPulses", fn := fun _ => fun
  | [d] => { results := [.lit (.bool false)], args := [d] }
  | _ => none }
def FnExactCleanPulsesWrongFalsely : Prop := fnExactCleanPulsesRow.holds Try.pinned (OpenSpec.ofChange fnExactCleanPulsesWrong)

/-- 'laws.FnGainOf': WHATEVER THE INPUT: true; the input reads as it did. -/
def fnGainOfSpec : ChangeSpec := { name := "fnGainOf", fn := fun _ => fun
  | [d] => { results := [.lit (.bool true)], args := [d] }
  | _ => none }
def fnGainOfRow : OpenClaim := { program := "ytpkpbcfehllehaa", sum := "a7b2b875052c3b7cf9677f1427e6497aae48c9d58334b0387d9e92b1f866e803", func := "loop.example/satelliteclock/laws.FnGainOf", spec := "fnGainOf", apart := false }
def FnGainOfSaid : Prop := fnGainOfRow.holds Try.pinned (OpenSpec.ofChange fnGainOfSpec)

/-- ITS FALSE NEIGHBOUR: 'it returns false'. Refute it at one input. -/
def fnGainOfWrong : ChangeSpec := { name := "fnGainOf", fn := fun _ => fun
  | [d] => { results := [.lit (.bool false)], args := [d] }
  | _ => none }
def FnGainOfWrongFalsely : Prop := fnGainOfRow.holds Try.pinned (OpenSpec.ofChange fnGainOfWrong)

/-- 'laws.FnGainOfExact': WHATEVER THE INPUT: true; the input reads as it did. -/
def fnGainOfExactSpec : ChangeSpec := { name := "fnGainOfExact", fn := fun _ => fun
  | [d] => { results := [.lit (.bool true)], args := [d] }
  | _ => none }
def fnGainOfExactRow : OpenClaim := { program := "ytpkpbcfehllehaa", sum := "a7b2b875052c3b7cf9677f1427e6497aae48c9d58334b0387d9e92b1f866e803", func := "loop.example/satelliteclock/laws.FnGainOfExact", spec := "fnGainOfExact", apart := false }
def FnGainOfExactSaid : Prop := fnGainOfExactRow.holds Try.pinned (OpenSpec.ofChange fnGainOfExactSpec)

/-- ITS FALSE NEIGHBOUR: 'it returns false'. Refute it at one input. -/
def fnGainOfExactWrong : ChangeSpec := { name := "fnGainOfExact", fn := fun _ => fun
  | [d] => { results := [.lit (.bool false)], args := [d] }
  | _ => none }
def FnGainOfExactWrongFalsely : Prop := fnGainOfExactRow.holds Try.pinned (OpenSpec.ofChange fnGainOfExactWrong)

/-- 'laws.FnGainOfShift': WHATEVER THE INPUT: true; the input reads as it did. -/
def fnGainOfShiftSpec : ChangeSpec := { name := "fnGainOfShift", fn := fun _ => fun
  | [d] => { results := [.lit (.bool true)], args := [d] }
  | _ => none }
def fnGainOfShiftRow : OpenClaim := { program := "ytpkpbcfehllehaa", sum := "a7b2b875052c3b7cf9677f1427e6497aae48c9d58334b0387d9e92b1f866e803", func := "loop.example/satelliteclock/laws.FnGainOfShift", spec := "fnGainOfShift", apart := false }
def FnGainOfShiftSaid : Prop := fnGainOfShiftRow.holds Try.pinned (OpenSpec.ofChange fnGainOfShiftSpec)

/-- ITS FALSE NEIGHBOUR: 'it returns false'. Refute it at one input. -/
def fnGainOfShiftWrong : ChangeSpec := { name := "fnGainOfShift", fn := fun _ => fun
  | [d] => { results := [.lit (.bool false)], args := [d] }
  | _ => none }
def FnGainOfShiftWrongFalsely : Prop := fnGainOfShiftRow.holds Try.pinned (OpenSpec.ofChange fnGainOfShiftWrong)

/-- 'laws.FnCleanPulses': WHATEVER THE INPUT: true; the input reads as it did. -/
def fnCleanPulsesSpec : ChangeSpec := { name := "fnCleanPulses", fn := fun _ => fun
  | [d] => { results := [.lit (.bool true)], args := [d] }
  | _ => none }
def fnCleanPulsesRow : OpenClaim := { program := "ytpkpbcfehllehaa", sum := "a7b2b875052c3b7cf9677f1427e6497aae48c9d58334b0387d9e92b1f866e803", func := "loop.example/satelliteclock/laws.FnCleanPulses", spec := "fnCleanPulses", apart := false }
def FnCleanPulsesSaid : Prop := fnCleanPulsesRow.holds Try.pinned (OpenSpec.ofChange fnCleanPulsesSpec)

/-- ITS FALSE NEIGHBOUR: 'it returns false'. Refute it at one input. -/
def fnCleanPulsesWrong : ChangeSpec := { name := "fnCleanPulses", fn := fun _ => fun
  | [d] => { results := [.lit (.bool false)], args := [d] }
  | _ => none }
def FnCleanPulsesWrongFalsely : Prop := fnCleanPulsesRow.holds Try.pinned (OpenSpec.ofChange fnCleanPulsesWrong)

/-- 'laws.FnCleanPulsesAgain': WHATEVER THE INPUT: true; the input reads as it did. -/
def fnCleanPulsesAgainSpec : ChangeSpec := { name := "fnCleanPulsesAgain", fn := fun _ => fun
  | [d] => { results := [.lit (.bool true)], args := [d] }
  | _ => none }
def fnCleanPulsesAgainRow : OpenClaim := { program := "ytpkpbcfehllehaa", sum := "a7b2b875052c3b7cf9677f1427e6497aae48c9d58334b0387d9e92b1f866e803", func := "loop.example/satelliteclock/laws.FnCleanPulsesAgain", spec := "fnCleanPulsesAgain", apart := false }
def FnCleanPulsesAgainSaid : Prop := fnCleanPulsesAgainRow.holds Try.pinned (OpenSpec.ofChange fnCleanPulsesAgainSpec)

/-- ITS FALSE NEIGHBOUR: 'it returns false'. Refute it at one input. -/
def fnCleanPulsesAgainWrong : ChangeSpec := { name := "fnCleanPulsesAgain", fn := fun _ => fun
  | [d] => { results := [.lit (.bool false)], args := [d] }
  | _ => none }
def FnCleanPulsesAgainWrongFalsely : Prop := fnCleanPulsesAgainRow.holds Try.pinned (OpenSpec.ofChange fnCleanPulsesAgainWrong)

/-- 'laws.FnCleanPulsesLater': WHATEVER THE INPUT: true; the input reads as it did. -/
def fnCleanPulsesLaterSpec : ChangeSpec := { name := "fnCleanPulsesLater", fn := fun _ => fun
  | [d] => { results := [.lit (.bool true)], args := [d] }
  | _ => none }
def fnCleanPulsesLaterRow : OpenClaim := { program := "ytpkpbcfehllehaa", sum := "a7b2b875052c3b7cf9677f1427e6497aae48c9d58334b0387d9e92b1f866e803", func := "loop.example/satelliteclock/laws.FnCleanPulsesLater", spec := "fnCleanPulsesLater", apart := false }
def FnCleanPulsesLaterSaid : Prop := fnCleanPulsesLaterRow.holds Try.pinned (OpenSpec.ofChange fnCleanPulsesLaterSpec)

/-- ITS FALSE NEIGHBOUR: 'it returns false'. Refute it at one input. -/
def fnCleanPulsesLaterWrong : ChangeSpec := { name := "fnCleanPulsesLater", fn := fun _ => fun
  | [d] => { results := [.lit (.bool false)], args := [d] }
  | _ => none }
def FnCleanPulsesLaterWrongFalsely : Prop := fnCleanPulsesLaterRow.holds Try.pinned (OpenSpec.ofChange fnCleanPulsesLaterWrong)

/- THE SECOND FORM. 'bulk': how many values and letters a reading holds, each counted each time it is reached (what is shared counts as often as it is met; a slice's spare places count too). A statement '..UptoSaid' is the law's where the arguments, and the package variables that the reading takes, are together of bulk at most 1048576: NARROWER than '..Said'. Prove '..Said' where nothing that the law and all that it calls make is longer than what came in: it says more and counts as full. Else prove '..UptoSaid'. A law counts once. -/
mutual
def uptoBulk {H : Type} : DataW H → Nat
  | .lit (.string bytes) => bytes.length + 1
  | .lit _ => 1
  | .nil => 1
  | .ptr d => uptoBulk d + 1
  | .slice elems spare => uptoBulkAll elems + uptoBulkAll spare + 1
  | .agg parts => uptoBulkAll parts + 1
  | .iface _ d => uptoBulk d + 1
  | .map entries => uptoBulkEntries entries + 1
  | .held _ => 1
def uptoBulkAll {H : Type} : List (DataW H) → Nat
  | [] => 0
  | d :: r => uptoBulk d + uptoBulkAll r
def uptoBulkEntries {H : Type} : List (Lit × DataW H) → Nat
  | [] => 0
  | x :: r => uptoBulkEntry x + uptoBulkEntries r
def uptoBulkEntry {H : Type} : Lit × DataW H → Nat
  | (.string bytes, d) => bytes.length + uptoBulk d + 1
  | (_, d) => uptoBulk d + 1
 end
def uptoSmall : (H : Type) → List (DataW H) → Bool := fun _ ds => decide (uptoBulkAll ds ≤ 1048576)
def OpenSpec.upto (s : _root_.Go.ChangeSpec) : _root_.Go.OpenSpec := { _root_.Go.OpenSpec.ofChange s with cond := some uptoSmall }

/-- 'laws.FnExactValidPulses', WHERE WHAT IT READS IS OF BULK AT MOST 1048576: true; the input reads as it did. -/
def fnExactValidPulsesUptoRow : OpenClaim := { program := "ytpkpbcfehllehaa", sum := "a7b2b875052c3b7cf9677f1427e6497aae48c9d58334b0387d9e92b1f866e803", func := "loop.example/satelliteclock/laws.FnExactValidPulses", spec := "fnExactValidPulses", apart := false, narrowed := true }
def FnExactValidPulsesUptoSaid : Prop := fnExactValidPulsesUptoRow.holds Try.pinned (OpenSpec.upto fnExactValidPulsesSpec)

/-- 'laws.FnValidPulses', WHERE WHAT IT READS IS OF BULK AT MOST 1048576: true; the input reads as it did. -/
def fnValidPulsesUptoRow : OpenClaim := { program := "ytpkpbcfehllehaa", sum := "a7b2b875052c3b7cf9677f1427e6497aae48c9d58334b0387d9e92b1f866e803", func := "loop.example/satelliteclock/laws.FnValidPulses", spec := "fnValidPulses", apart := false, narrowed := true }
def FnValidPulsesUptoSaid : Prop := fnValidPulsesUptoRow.holds Try.pinned (OpenSpec.upto fnValidPulsesSpec)

/-- 'laws.FnExactGainOf', WHERE WHAT IT READS IS OF BULK AT MOST 1048576: true; the input reads as it did. -/
def fnExactGainOfUptoRow : OpenClaim := { program := "ytpkpbcfehllehaa", sum := "a7b2b875052c3b7cf9677f1427e6497aae48c9d58334b0387d9e92b1f866e803", func := "loop.example/satelliteclock/laws.FnExactGainOf", spec := "fnExactGainOf", apart := false, narrowed := true }
def FnExactGainOfUptoSaid : Prop := fnExactGainOfUptoRow.holds Try.pinned (OpenSpec.upto fnExactGainOfSpec)

/-- 'laws.FnExactCleanPulses', WHERE WHAT IT READS IS OF BULK AT MOST 1048576: true; the input reads as it did. -/
def fnExactCleanPulsesUptoRow : OpenClaim := { program := "ytpkpbcfehllehaa", sum := "a7b2b875052c3b7cf9677f1427e6497aae48c9d58334b0387d9e92b1f866e803", func := "loop.example/satelliteclock/laws.FnExactCleanPulses", spec := "fnExactCleanPulses", apart := false, narrowed := true }
def FnExactCleanPulsesUptoSaid : Prop := fnExactCleanPulsesUptoRow.holds Try.pinned (OpenSpec.upto fnExactCleanPulsesSpec)

/-- 'laws.FnGainOf', WHERE WHAT IT READS IS OF BULK AT MOST 1048576: true; the input reads as it did. -/
def fnGainOfUptoRow : OpenClaim := { program := "ytpkpbcfehllehaa", sum := "a7b2b875052c3b7cf9677f1427e6497aae48c9d58334b0387d9e92b1f866e803", func := "loop.example/satelliteclock/laws.FnGainOf", spec := "fnGainOf", apart := false, narrowed := true }
def FnGainOfUptoSaid : Prop := fnGainOfUptoRow.holds Try.pinned (OpenSpec.upto fnGainOfSpec)

/-- 'laws.FnGainOfExact', WHERE WHAT IT READS IS OF BULK AT MOST 1048576: true; the input reads as it did. -/
def fnGainOfExactUptoRow : OpenClaim := { program := "ytpkpbcfehllehaa", sum := "a7b2b875052c3b7cf9677f1427e6497aae48c9d58334b0387d9e92b1f866e803", func := "loop.example/satelliteclock/laws.FnGainOfExact", spec := "fnGainOfExact", apart := false, narrowed := true }
def FnGainOfExactUptoSaid : Prop := fnGainOfExactUptoRow.holds Try.pinned (OpenSpec.upto fnGainOfExactSpec)

/-- 'laws.FnGainOfShift', WHERE WHAT IT READS IS OF BULK AT MOST 1048576: true; the input reads as it did. -/
def fnGainOfShiftUptoRow : OpenClaim := { program := "ytpkpbcfehllehaa", sum := "a7b2b875052c3b7cf9677f1427e6497aae48c9d58334b0387d9e92b1f866e803", func := "loop.example/satelliteclock/laws.FnGainOfShift", spec := "fnGainOfShift", apart := false, narrowed := true }
def FnGainOfShiftUptoSaid : Prop := fnGainOfShiftUptoRow.holds Try.pinned (OpenSpec.upto fnGainOfShiftSpec)

/-- 'laws.FnCleanPulses', WHERE WHAT IT READS IS OF BULK AT MOST 1048576: true; the input reads as it did. -/
def fnCleanPulsesUptoRow : OpenClaim := { program := "ytpkpbcfehllehaa", sum := "a7b2b875052c3b7cf9677f1427e6497aae48c9d58334b0387d9e92b1f866e803", func := "loop.example/satelliteclock/laws.FnCleanPulses", spec := "fnCleanPulses", apart := false, narrowed := true }
def FnCleanPulsesUptoSaid : Prop := fnCleanPulsesUptoRow.holds Try.pinned (OpenSpec.upto fnCleanPulsesSpec)

/-- 'laws.FnCleanPulsesAgain', WHERE WHAT IT READS IS OF BULK AT MOST 1048576: true; the input reads as it did. -/
def fnCleanPulsesAgainUptoRow : OpenClaim := { program := "ytpkpbcfehllehaa", sum := "a7b2b875052c3b7cf9677f1427e6497aae48c9d58334b0387d9e92b1f866e803", func := "loop.example/satelliteclock/laws.FnCleanPulsesAgain", spec := "fnCleanPulsesAgain", apart := false, narrowed := true }
def FnCleanPulsesAgainUptoSaid : Prop := fnCleanPulsesAgainUptoRow.holds Try.pinned (OpenSpec.upto fnCleanPulsesAgainSpec)

/-- 'laws.FnCleanPulsesLater', WHERE WHAT IT READS IS OF BULK AT MOST 1048576: true; the input reads as it did. -/
def fnCleanPulsesLaterUptoRow : OpenClaim := { program := "ytpkpbcfehllehaa", sum := "a7b2b875052c3b7cf9677f1427e6497aae48c9d58334b0387d9e92b1f866e803", func := "loop.example/satelliteclock/laws.FnCleanPulsesLater", spec := "fnCleanPulsesLater", apart := false, narrowed := true }
def FnCleanPulsesLaterUptoSaid : Prop := fnCleanPulsesLaterUptoRow.holds Try.pinned (OpenSpec.upto fnCleanPulsesLaterSpec)

end Rows
end Go.Proofs.Ytpkpbcfehllehaa
