/-
  No cell of these rows narrows 'for every input' (looked for: loops, veiled, ifaces, maps, wideKeys, modest, calm, conditions, laid).
  DERIVED. THE GIVEN ROWS OF THIS SEAT. 12 by the template 'for every input the law returns true; each argument reads behind the call as it read before'; 0 by the template 'total and deterministic' (their statements: YtgoneahlhglcoaaTotals.lean).
  GIVEN WITH THE SEED: the statements are not yours to turn. If you find one false, say at which input.
  Laid BY PROGRAM, IN A SANDBOX (cutbox-rows.mjs): the forced cells as the released guide's own fill.sh prints them over the translation 3a9384045b334529… (all of the seat's roots in one cut). By AI agents, Wed Nov 11 2026. No macro, syntax, notation, axiom, sorry.
-/
import Derived.Test.YtgoneahlhglcoaaChecked
import GoSem.Claim
import GoSem.ClaimJoined
import GoSem.ClaimMapViews
import Derived.JoinedTies
import Derived.KernelRfl
namespace Go.Proofs.Ytgoneahlhglcoaa
/- THE CELL 'sum', in the pinned program and in every row, IS THE sha256 OF THE DUMP (.gsa) THAT YtgoneahlhglcoaaProg.lean LOADS. Nothing in Lean hashes anything: it is a label: what it is worth is what the hold of that sum in a sandbox is worth. -/
noncomputable def Try.pinned : Pinned := { name := "ytgoneahlhglcoaa", sum := "3a9384045b334529dad791a20367f5dd0533db120b7987644737bf308d94c481", checked := Try.checked }
namespace Rows
def none {H : Type} : Left H := { results := [], args := [] }

/-- 'laws.FnExactValidPoll': WHATEVER THE INPUT: true; the input reads as it did. -/
def fnExactValidPollSpec : ChangeSpec := { name := "fnExactValidPoll", fn := fun _ => fun
  | [d] => { results := [.lit (.bool true)], args := [d] }
  | _ => none }
def fnExactValidPollRow : OpenClaim := { program := "ytgoneahlhglcoaa", sum := "3a9384045b334529dad791a20367f5dd0533db120b7987644737bf308d94c481", func := "loop.example/satelliteclock/laws.FnExactValidPoll", spec := "fnExactValidPoll", apart := false }
def FnExactValidPollSaid : Prop := fnExactValidPollRow.holds Try.pinned (OpenSpec.ofChange fnExactValidPollSpec)

/-- ITS FALSE NEIGHBOUR: 'it returns false'. Refute it at one input. -/
def fnExactValidPollWrong : ChangeSpec := { name := "fnExactValidPoll", fn := fun _ => fun
  | [d] => { results := [.lit (.bool false)], args := [d] }
  | _ => none }
def FnExactValidPollWrongFalsely : Prop := fnExactValidPollRow.holds Try.pinned (OpenSpec.ofChange fnExactValidPollWrong)

/-- 'laws.FnExactPollSeconds': WHATEVER THE INPUT: true; the input reads as it did. -/
def fnExactPollSecondsSpec : ChangeSpec := { name := "fnExactPollSeconds", fn := fun _ => fun
  | [d] => { results := [.lit (.bool true)], args := [d] }
  | _ => none }
def fnExactPollSecondsRow : OpenClaim := { program := "ytgoneahlhglcoaa", sum := "3a9384045b334529dad791a20367f5dd0533db120b7987644737bf308d94c481", func := "loop.example/satelliteclock/laws.FnExactPollSeconds", spec := "fnExactPollSeconds", apart := false }
def FnExactPollSecondsSaid : Prop := fnExactPollSecondsRow.holds Try.pinned (OpenSpec.ofChange fnExactPollSecondsSpec)

/-- ITS FALSE NEIGHBOUR: 'it returns false'. Refute it at one input. -/
def fnExactPollSecondsWrong : ChangeSpec := { name := "fnExactPollSeconds", fn := fun _ => fun
  | [d] => { results := [.lit (.bool false)], args := [d] }
  | _ => none }
def FnExactPollSecondsWrongFalsely : Prop := fnExactPollSecondsRow.holds Try.pinned (OpenSpec.ofChange fnExactPollSecondsWrong)

/-- 'laws.FnValidPoll': WHATEVER THE INPUT: true; the input reads as it did. -/
def fnValidPollSpec : ChangeSpec := { name := "fnValidPoll", fn := fun _ => fun
  | [d] => { results := [.lit (.bool true)], args := [d] }
  | _ => none }
def fnValidPollRow : OpenClaim := { program := "ytgoneahlhglcoaa", sum := "3a9384045b334529dad791a20367f5dd0533db120b7987644737bf308d94c481", func := "loop.example/satelliteclock/laws.FnValidPoll", spec := "fnValidPoll", apart := false }
def FnValidPollSaid : Prop := fnValidPollRow.holds Try.pinned (OpenSpec.ofChange fnValidPollSpec)

/-- ITS FALSE NEIGHBOUR: 'it returns false'. Refute it at one input. -/
def fnValidPollWrong : ChangeSpec := { name := "fnValidPoll", fn := fun _ => fun
  | [d] => { results := [.lit (.bool false)], args := [d] }
  | _ => none }
def FnValidPollWrongFalsely : Prop := fnValidPollRow.holds Try.pinned (OpenSpec.ofChange fnValidPollWrong)

/-- 'laws.FnPollSeconds': WHATEVER THE INPUT: true; the input reads as it did. -/
def fnPollSecondsSpec : ChangeSpec := { name := "fnPollSeconds", fn := fun _ => fun
  | [d] => { results := [.lit (.bool true)], args := [d] }
  | _ => none }
def fnPollSecondsRow : OpenClaim := { program := "ytgoneahlhglcoaa", sum := "3a9384045b334529dad791a20367f5dd0533db120b7987644737bf308d94c481", func := "loop.example/satelliteclock/laws.FnPollSeconds", spec := "fnPollSeconds", apart := false }
def FnPollSecondsSaid : Prop := fnPollSecondsRow.holds Try.pinned (OpenSpec.ofChange fnPollSecondsSpec)

/-- ITS FALSE NEIGHBOUR: 'it returns false'. Refute it at one input. -/
def fnPollSecondsWrong : ChangeSpec := { name := "fnPollSeconds", fn := fun _ => fun
  | [d] => { results := [.lit (.bool false)], args := [d] }
  | _ => none }
def FnPollSecondsWrongFalsely : Prop := fnPollSecondsRow.holds Try.pinned (OpenSpec.ofChange fnPollSecondsWrong)

/-- 'laws.FnExactNextPoll': WHATEVER THE INPUT: true; the input reads as it did. -/
def fnExactNextPollSpec : ChangeSpec := { name := "fnExactNextPoll", fn := fun _ => fun
  | [d1, d2, d3] => { results := [.lit (.bool true)], args := [d1, d2, d3] }
  | _ => none }
def fnExactNextPollRow : OpenClaim := { program := "ytgoneahlhglcoaa", sum := "3a9384045b334529dad791a20367f5dd0533db120b7987644737bf308d94c481", func := "loop.example/satelliteclock/laws.FnExactNextPoll", spec := "fnExactNextPoll", apart := false }
def FnExactNextPollSaid : Prop := fnExactNextPollRow.holds Try.pinned (OpenSpec.ofChange fnExactNextPollSpec)

/-- ITS FALSE NEIGHBOUR: 'it returns false'. Refute it at one input. -/
def fnExactNextPollWrong : ChangeSpec := { name := "fnExactNextPoll", fn := fun _ => fun
  | [d1, d2, d3] => { results := [.lit (.bool false)], args := [d1, d2, d3] }
  | _ => none }
def FnExactNextPollWrongFalsely : Prop := fnExactNextPollRow.holds Try.pinned (OpenSpec.ofChange fnExactNextPollWrong)

/-- 'laws.FnNextPollGood': WHATEVER THE INPUT: true; the input reads as it did. -/
def fnNextPollGoodSpec : ChangeSpec := { name := "fnNextPollGood", fn := fun _ => fun
  | [d] => { results := [.lit (.bool true)], args := [d] }
  | _ => none }
def fnNextPollGoodRow : OpenClaim := { program := "ytgoneahlhglcoaa", sum := "3a9384045b334529dad791a20367f5dd0533db120b7987644737bf308d94c481", func := "loop.example/satelliteclock/laws.FnNextPollGood", spec := "fnNextPollGood", apart := false }
def FnNextPollGoodSaid : Prop := fnNextPollGoodRow.holds Try.pinned (OpenSpec.ofChange fnNextPollGoodSpec)

/-- ITS FALSE NEIGHBOUR: 'it returns false'. Refute it at one input. -/
def fnNextPollGoodWrong : ChangeSpec := { name := "fnNextPollGood", fn := fun _ => fun
  | [d] => { results := [.lit (.bool false)], args := [d] }
  | _ => none }
def FnNextPollGoodWrongFalsely : Prop := fnNextPollGoodRow.holds Try.pinned (OpenSpec.ofChange fnNextPollGoodWrong)

/-- 'laws.FnNextPollSign': WHATEVER THE INPUT: true; the input reads as it did. -/
def fnNextPollSignSpec : ChangeSpec := { name := "fnNextPollSign", fn := fun _ => fun
  | [d] => { results := [.lit (.bool true)], args := [d] }
  | _ => none }
def fnNextPollSignRow : OpenClaim := { program := "ytgoneahlhglcoaa", sum := "3a9384045b334529dad791a20367f5dd0533db120b7987644737bf308d94c481", func := "loop.example/satelliteclock/laws.FnNextPollSign", spec := "fnNextPollSign", apart := false }
def FnNextPollSignSaid : Prop := fnNextPollSignRow.holds Try.pinned (OpenSpec.ofChange fnNextPollSignSpec)

/-- ITS FALSE NEIGHBOUR: 'it returns false'. Refute it at one input. -/
def fnNextPollSignWrong : ChangeSpec := { name := "fnNextPollSign", fn := fun _ => fun
  | [d] => { results := [.lit (.bool false)], args := [d] }
  | _ => none }
def FnNextPollSignWrongFalsely : Prop := fnNextPollSignRow.holds Try.pinned (OpenSpec.ofChange fnNextPollSignWrong)

/-- 'laws.FnNextPoll': WHATEVER THE INPUT: true; the input reads as it did. -/
def fnNextPollSpec : ChangeSpec := { name := "fnNextPoll", fn := fun _ => fun
  | [d] => { results := [.lit (.bool true)], args := [d] }
  | _ => none }
def fnNextPollRow : OpenClaim := { program := "ytgoneahlhglcoaa", sum := "3a9384045b334529dad791a20367f5dd0533db120b7987644737bf308d94c481", func := "loop.example/satelliteclock/laws.FnNextPoll", spec := "fnNextPoll", apart := false }
def FnNextPollSaid : Prop := fnNextPollRow.holds Try.pinned (OpenSpec.ofChange fnNextPollSpec)

/-- ITS FALSE NEIGHBOUR: 'it returns false'. Refute it at one input. -/
def fnNextPollWrong : ChangeSpec := { name := "fnNextPoll", fn := fun _ => fun
  | [d] => { results := [.lit (.bool false)], args := [d] }
  | _ => none }
def FnNextPollWrongFalsely : Prop := fnNextPollRow.holds Try.pinned (OpenSpec.ofChange fnNextPollWrong)

/-- 'laws.FnExactRunPolls': WHATEVER THE INPUT: true; the input reads as it did. -/
def fnExactRunPollsSpec : ChangeSpec := { name := "fnExactRunPolls", fn := fun _ => fun
  | [d1, d2, d3] => { results := [.lit (.bool true)], args := [d1, d2, d3] }
  | _ => none }
def fnExactRunPollsRow : OpenClaim := { program := "ytgoneahlhglcoaa", sum := "3a9384045b334529dad791a20367f5dd0533db120b7987644737bf308d94c481", func := "loop.example/satelliteclock/laws.FnExactRunPolls", spec := "fnExactRunPolls", apart := false }
def FnExactRunPollsSaid : Prop := fnExactRunPollsRow.holds Try.pinned (OpenSpec.ofChange fnExactRunPollsSpec)

/-- ITS FALSE NEIGHBOUR: 'it returns false'. Refute it at one input. -/
def fnExactRunPollsWrong : ChangeSpec := { name := "fnExactRunPolls", fn := fun _ => fun
  | [d1, d2, d3] => { results := [.lit (.bool false)], args := [d1, d2, d3] }
  | _ => none }
def FnExactRunPollsWrongFalsely : Prop := fnExactRunPollsRow.holds Try.pinned (OpenSpec.ofChange fnExactRunPollsWrong)

/-- 'laws.FnRunPolls': WHATEVER THE INPUT: true; the input reads as it did. -/
def fnRunPollsSpec : ChangeSpec := { name := "fnRunPolls", fn := fun _ => fun
  | [d] => { results := [.lit (.bool true)], args := [d] }
  | _ => none }
def fnRunPollsRow : OpenClaim := { program := "ytgoneahlhglcoaa", sum := "3a9384045b334529dad791a20367f5dd0533db120b7987644737bf308d94c481", func := "loop.example/satelliteclock/laws.FnRunPolls", spec := "fnRunPolls", apart := false }
def FnRunPollsSaid : Prop := fnRunPollsRow.holds Try.pinned (OpenSpec.ofChange fnRunPollsSpec)

/-- ITS FALSE NEIGHBOUR: 'it returns false'. Refute it at one input. -/
def fnRunPollsWrong : ChangeSpec := { name := "fnRunPolls", fn := fun _ => fun
  | [d] => { results := [.lit (.bool false)], args := [d] }
  | _ => none }
def FnRunPollsWrongFalsely : Prop := fnRunPollsRow.holds Try.pinned (OpenSpec.ofChange fnRunPollsWrong)

/-- 'laws.FnRunPollsBounds': WHATEVER THE INPUT: true; the input reads as it did. -/
def fnRunPollsBoundsSpec : ChangeSpec := { name := "fnRunPollsBounds", fn := fun _ => fun
  | [d] => { results := [.lit (.bool true)], args := [d] }
  | _ => none }
def fnRunPollsBoundsRow : OpenClaim := { program := "ytgoneahlhglcoaa", sum := "3a9384045b334529dad791a20367f5dd0533db120b7987644737bf308d94c481", func := "loop.example/satelliteclock/laws.FnRunPollsBounds", spec := "fnRunPollsBounds", apart := false }
def FnRunPollsBoundsSaid : Prop := fnRunPollsBoundsRow.holds Try.pinned (OpenSpec.ofChange fnRunPollsBoundsSpec)

/-- ITS FALSE NEIGHBOUR: 'it returns false'. Refute it at one input. -/
def fnRunPollsBoundsWrong : ChangeSpec := { name := "fnRunPollsBounds", fn := fun _ => fun
  | [d] => { results := [.lit (.bool false)], args := [d] }
  | _ => none }
def FnRunPollsBoundsWrongFalsely : Prop := fnRunPollsBoundsRow.holds Try.pinned (OpenSpec.ofChange fnRunPollsBoundsWrong)

/-- 'laws.FnRunPollsGood': WHATEVER THE INPUT: true; the input reads as it did. -/
def fnRunPollsGoodSpec : ChangeSpec := { name := "fnRunPollsGood", fn := fun _ => fun
  | [d] => { results := [.lit (.bool true)], args := [d] }
  | _ => none }
def fnRunPollsGoodRow : OpenClaim := { program := "ytgoneahlhglcoaa", sum := "3a9384045b334529dad791a20367f5dd0533db120b7987644737bf308d94c481", func := "loop.example/satelliteclock/laws.FnRunPollsGood", spec := "fnRunPollsGood", apart := false }
def FnRunPollsGoodSaid : Prop := fnRunPollsGoodRow.holds Try.pinned (OpenSpec.ofChange fnRunPollsGoodSpec)

/-- ITS FALSE NEIGHBOUR: 'it returns false'. Refute it at one input. -/
def fnRunPollsGoodWrong : ChangeSpec := { name := "fnRunPollsGood", fn := fun _ => fun
  | [d] => { results := [.lit (.bool false)], args := [d] }
  | _ => none }
def FnRunPollsGoodWrongFalsely : Prop := fnRunPollsGoodRow.holds Try.pinned (OpenSpec.ofChange fnRunPollsGoodWrong)

/- THE SECOND FORM. 'bulk': how many values and letters a reading holds, each counted each time it is reached (what is shared counts as often as it is met; a slice's spare places count too). A statement '..UptoSaid' is the law's where the arguments, and the package variables that the reading takes, are together of bulk at most 1048576: NARROWER than '..Said'. Prove '..Said' where nothing that the law and all that it calls make is longer than what came in: it says more and counts as full. Else prove '..UptoSaid'. A law counts once. -/
mutual
def uptoBulk {H : Type} : DataW H → Nat
  | .lit (.string bytes) => bytes.length + 1
  | .lit _ => 1
  | .nil => 1
  | .ptr d => uptoBulk d + 1
  | .slice elems spare => uptoBulkAll elems + uptoBulkAll spare + 1
  | .agg parts => uptoBulkAll parts + 1
  | .iface _ d => uptoBulk d + 1
  | .map entries => uptoBulkEntries entries + 1
  | .held _ => 1
def uptoBulkAll {H : Type} : List (DataW H) → Nat
  | [] => 0
  | d :: r => uptoBulk d + uptoBulkAll r
def uptoBulkEntries {H : Type} : List (Lit × DataW H) → Nat
  | [] => 0
  | x :: r => uptoBulkEntry x + uptoBulkEntries r
def uptoBulkEntry {H : Type} : Lit × DataW H → Nat
  | (.string bytes, d) => bytes.length + uptoBulk d + 1
  | (_, d) => uptoBulk d + 1
 end
def uptoSmall : (H : Type) → List (DataW H) → Bool := fun _ ds => decide (uptoBulkAll ds ≤ 1048576)
def OpenSpec.upto (s : _root_.Go.ChangeSpec) : _root_.Go.OpenSpec := { _root_.Go.OpenSpec.ofChange s with cond := some uptoSmall }

/-- 'laws.FnExactValidPoll', WHERE WHAT IT READS IS OF BULK AT MOST 1048576: true; the input reads as it did. -/
def fnExactValidPollUptoRow : OpenClaim := { program := "ytgoneahlhglcoaa", sum := "3a9384045b334529dad791a20367f5dd0533db120b7987644737bf308d94c481", func := "loop.example/satelliteclock/laws.FnExactValidPoll", spec := "fnExactValidPoll", apart := false, narrowed := true }
def FnExactValidPollUptoSaid : Prop := fnExactValidPollUptoRow.holds Try.pinned (OpenSpec.upto fnExactValidPollSpec)

/-- 'laws.FnExactPollSeconds', WHERE WHAT IT READS IS OF BULK AT MOST 1048576: true; the input reads as it did. -/
def fnExactPollSecondsUptoRow : OpenClaim := { program := "ytgoneahlhglcoaa", sum := "3a9384045b334529dad791a20367f5dd0533db120b7987644737bf308d94c481", func := "loop.example/satelliteclock/laws.FnExactPollSeconds", spec := "fnExactPollSeconds", apart := false, narrowed := true }
def FnExactPollSecondsUptoSaid : Prop := fnExactPollSecondsUptoRow.holds Try.pinned (OpenSpec.upto fnExactPollSecondsSpec)

/-- 'laws.FnValidPoll', WHERE WHAT IT READS IS OF BULK AT MOST 1048576: true; the input reads as it did. -/
def fnValidPollUptoRow : OpenClaim := { program := "ytgoneahlhglcoaa", sum := "3a9384045b334529dad791a20367f5dd0533db120b7987644737bf308d94c481", func := "loop.example/satelliteclock/laws.FnValidPoll", spec := "fnValidPoll", apart := false, narrowed := true }
def FnValidPollUptoSaid : Prop := fnValidPollUptoRow.holds Try.pinned (OpenSpec.upto fnValidPollSpec)

/-- 'laws.FnPollSeconds', WHERE WHAT IT READS IS OF BULK AT MOST 1048576: true; the input reads as it did. -/
def fnPollSecondsUptoRow : OpenClaim := { program := "ytgoneahlhglcoaa", sum := "3a9384045b334529dad791a20367f5dd0533db120b7987644737bf308d94c481", func := "loop.example/satelliteclock/laws.FnPollSeconds", spec := "fnPollSeconds", apart := false, narrowed := true }
def FnPollSecondsUptoSaid : Prop := fnPollSecondsUptoRow.holds Try.pinned (OpenSpec.upto fnPollSecondsSpec)

/-- 'laws.FnExactNextPoll', WHERE WHAT IT READS IS OF BULK AT MOST 1048576: true; the input reads as it did. -/
def fnExactNextPollUptoRow : OpenClaim := { program := "ytgoneahlhglcoaa", sum := "3a9384045b334529dad791a20367f5dd0533db120b7987644737bf308d94c481", func := "loop.example/satelliteclock/laws.FnExactNextPoll", spec := "fnExactNextPoll", apart := false, narrowed := true }
def FnExactNextPollUptoSaid : Prop := fnExactNextPollUptoRow.holds Try.pinned (OpenSpec.upto fnExactNextPollSpec)

/-- 'laws.FnNextPollGood', WHERE WHAT IT READS IS OF BULK AT MOST 1048576: true; the input reads as it did. -/
def fnNextPollGoodUptoRow : OpenClaim := { program := "ytgoneahlhglcoaa", sum := "3a9384045b334529dad791a20367f5dd0533db120b7987644737bf308d94c481", func := "loop.example/satelliteclock/laws.FnNextPollGood", spec := "fnNextPollGood", apart := false, narrowed := true }
def FnNextPollGoodUptoSaid : Prop := fnNextPollGoodUptoRow.holds Try.pinned (OpenSpec.upto fnNextPollGoodSpec)

/-- 'laws.FnNextPollSign', WHERE WHAT IT READS IS OF BULK AT MOST 1048576: true; the input reads as it did. -/
def fnNextPollSignUptoRow : OpenClaim := { program := "ytgoneahlhglcoaa", sum := "3a9384045b334529dad791a20367f5dd0533db120b7987644737bf308d94c481", func := "loop.example/satelliteclock/laws.FnNextPollSign", spec := "fnNextPollSign", apart := false, narrowed := true }
def FnNextPollSignUptoSaid : Prop := fnNextPollSignUptoRow.holds Try.pinned (OpenSpec.upto fnNextPollSignSpec)

/-- 'laws.FnNextPoll', WHERE WHAT IT READS IS OF BULK AT MOST 1048576: true; the input reads as it did. -/
def fnNextPollUptoRow : OpenClaim := { program := "ytgoneahlhglcoaa", sum := "3a9384045b334529dad791a20367f5dd0533db120b7987644737bf308d94c481", func := "loop.example/satelliteclock/laws.FnNextPoll", spec := "fnNextPoll", apart := false, narrowed := true }
def FnNextPollUptoSaid : Prop := fnNextPollUptoRow.holds Try.pinned (OpenSpec.upto fnNextPollSpec)

/-- 'laws.FnExactRunPolls', WHERE WHAT IT READS IS OF BULK AT MOST 1048576: true; the input reads as it did. -/
def fnExactRunPollsUptoRow : OpenClaim := { program := "ytgoneahlhglcoaa", sum := "3a9384045b334529dad791a20367f5dd0533db120b7987644737bf308d94c481", func := "loop.example/satelliteclock/laws.FnExactRunPolls", spec := "fnExactRunPolls", apart := false, narrowed := true }
def FnExactRunPollsUptoSaid : Prop := fnExactRunPollsUptoRow.holds Try.pinned (OpenSpec.upto fnExactRunPollsSpec)

/-- 'laws.FnRunPolls', WHERE WHAT IT READS IS OF BULK AT MOST 1048576: true; the input reads as it did. -/
def fnRunPollsUptoRow : OpenClaim := { program := "ytgoneahlhglcoaa", sum := "3a9384045b334529dad791a20367f5dd0533db120b7987644737bf308d94c481", func := "loop.example/satelliteclock/laws.FnRunPolls", spec := "fnRunPolls", apart := false, narrowed := true }
def FnRunPollsUptoSaid : Prop := fnRunPollsUptoRow.holds Try.pinned (OpenSpec.upto fnRunPollsSpec)

/-- 'laws.FnRunPollsBounds', WHERE WHAT IT READS IS OF BULK AT MOST 1048576: true; the input reads as it did. -/
def fnRunPollsBoundsUptoRow : OpenClaim := { program := "ytgoneahlhglcoaa", sum := "3a9384045b334529dad791a20367f5dd0533db120b7987644737bf308d94c481", func := "loop.example/satelliteclock/laws.FnRunPollsBounds", spec := "fnRunPollsBounds", apart := false, narrowed := true }
def FnRunPollsBoundsUptoSaid : Prop := fnRunPollsBoundsUptoRow.holds Try.pinned (OpenSpec.upto fnRunPollsBoundsSpec)

/-- 'laws.FnRunPollsGood', WHERE WHAT IT READS IS OF BULK AT MOST 1048576: true; the input reads as it did. -/
def fnRunPollsGoodUptoRow : OpenClaim := { program := "ytgoneahlhglcoaa", sum := "3a9384045b334529dad791a20367f5dd0533db120b7987644737bf308d94c481", func := "loop.example/satelliteclock/laws.FnRunPollsGood", spec := "fnRunPollsGood", apart := false, narrowed := true }
def FnRunPollsGoodUptoSaid : Prop := fnRunPollsGoodUptoRow.holds Try.pinned (OpenSpec.upto fnRunPollsGoodSpec)

end Rows
end Go.Proofs.Ytgoneahlhglcoaa
