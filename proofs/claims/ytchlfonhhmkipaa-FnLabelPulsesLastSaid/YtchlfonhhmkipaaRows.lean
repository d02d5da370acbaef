/-
  No cell of these rows narrows 'for every input' (looked for: loops, veiled, ifaces, maps, wideKeys, modest, calm, conditions, laid).
  DERIVED. THE GIVEN ROWS OF THIS SEAT. 7 by the template 'for every input the law returns true; each argument reads behind the call as it read before'; 0 by the template 'total and deterministic' (their statements: YtchlfonhhmkipaaTotals.lean).
  GIVEN WITH THE SEED: the statements are not yours to turn. If you find one false, say at which input.
  Laid BY PROGRAM, IN A SANDBOX (cutbox-rows.mjs): the forced cells as the released guide's own fill.sh prints them over the translation 05c897eaf09dc2e2… (all of the seat's roots in one cut). By AI agents, Wed Nov 11 2026. No macro, syntax, notation, axiom, sorry.
-/
import Derived.Test.YtchlfonhhmkipaaChecked
import GoSem.Claim
import GoSem.ClaimJoined
import GoSem.ClaimMapViews
import Derived.JoinedTies
import Derived.KernelRfl
namespace Go.Proofs.Ytchlfonhhmkipaa
/- THE CELL 'sum', in the pinned program and in every row, IS THE sha256 OF THE DUMP (.gsa) THAT YtchlfonhhmkipaaProg.lean LOADS. Nothing in Lean hashes anything: it is a label: what it is worth is what the hold of that sum in a sandbox is worth. -/
noncomputable def Try.pinned : Pinned := { name := "ytchlfonhhmkipaa", sum := "05c897eaf09dc2e28fe6f63254cffe31af249b06ba178888e8227da53c6a27a4", checked := Try.checked }
namespace Rows
def none {H : Type} : Left H := { results := [], args := [] }

/-- 'laws.FnSmearAtEnds': WHATEVER THE INPUT: true; the input reads as it did. -/
def fnSmearAtEndsSpec : ChangeSpec := { name := "fnSmearAtEnds", fn := fun _ => fun
  | [d] => { results := [.lit (.bool true)], args := [d] }
  | _ => none }
def fnSmearAtEndsRow : OpenClaim := { program := "ytchlfonhhmkipaa", sum := "05c897eaf09dc2e28fe6f63254cffe31af249b06ba178888e8227da53c6a27a4", func := "loop.example/satelliteclock/laws.FnSmearAtEnds", spec := "fnSmearAtEnds", apart := false }
def FnSmearAtEndsSaid : Prop := fnSmearAtEndsRow.holds Try.pinned (OpenSpec.ofChange fnSmearAtEndsSpec)

/-- ITS FALSE NEIGHBOUR: 'it returns false'. Refute it at one input. -/
def fnSmearAtEndsWrong : ChangeSpec := { name := "fnSmearAtEnds", fn := fun _ => fun
  | [d] => { results := [.lit (.bool false)], args := [d] }
  | _ => none }
def FnSmearAtEndsWrongFalsely : Prop := fnSmearAtEndsRow.holds Try.pinned (OpenSpec.ofChange fnSmearAtEndsWrong)

/-- 'laws.FnSmearAtShift': WHATEVER THE INPUT: true; the input reads as it did. -/
def fnSmearAtShiftSpec : ChangeSpec := { name := "fnSmearAtShift", fn := fun _ => fun
  | [d] => { results := [.lit (.bool true)], args := [d] }
  | _ => none }
def fnSmearAtShiftRow : OpenClaim := { program := "ytchlfonhhmkipaa", sum := "05c897eaf09dc2e28fe6f63254cffe31af249b06ba178888e8227da53c6a27a4", func := "loop.example/satelliteclock/laws.FnSmearAtShift", spec := "fnSmearAtShift", apart := false }
def FnSmearAtShiftSaid : Prop := fnSmearAtShiftRow.holds Try.pinned (OpenSpec.ofChange fnSmearAtShiftSpec)

/-- ITS FALSE NEIGHBOUR: 'it returns false'. Refute it at one input. -/
def fnSmearAtShiftWrong : ChangeSpec := { name := "fnSmearAtShift", fn := fun _ => fun
  | [d] => { results := [.lit (.bool false)], args := [d] }
  | _ => none }
def FnSmearAtShiftWrongFalsely : Prop := fnSmearAtShiftRow.holds Try.pinned (OpenSpec.ofChange fnSmearAtShiftWrong)

/-- 'laws.FnSmearedStamp': WHATEVER THE INPUT: true; the input reads as it did. -/
def fnSmearedStampSpec : ChangeSpec := { name := "fnSmearedStamp", fn := fun _ => fun
  | [d] => { results := [.lit (.bool true)], args := [d] }
  | _ => none }
def fnSmearedStampRow : OpenClaim := { program := "ytchlfonhhmkipaa", sum := "05c897eaf09dc2e28fe6f63254cffe31af249b06ba178888e8227da53c6a27a4", func := "loop.example/satelliteclock/laws.FnSmearedStamp", spec := "fnSmearedStamp", apart := false }
def FnSmearedStampSaid : Prop := fnSmearedStampRow.holds Try.pinned (OpenSpec.ofChange fnSmearedStampSpec)

/-- ITS FALSE NEIGHBOUR: 'it returns false'. Refute it at one input. -/
def fnSmearedStampWrong : ChangeSpec := { name := "fnSmearedStamp", fn := fun _ => fun
  | [d] => { results := [.lit (.bool false)], args := [d] }
  | _ => none }
def FnSmearedStampWrongFalsely : Prop := fnSmearedStampRow.holds Try.pinned (OpenSpec.ofChange fnSmearedStampWrong)

/-- 'laws.FnLabelPulsesLast': WHATEVER THE INPUT: true; the input reads as it did. -/
def fnLabelPulsesLastSpec : ChangeSpec := { name := "fnLabelPulsesLast", fn := fun _ => fun
  | [d] => { results := [.lit (.bool true)], args := [d] }
  | _ => none }
def fnLabelPulsesLastRow : OpenClaim := { program := "ytchlfonhhmkipaa", sum := "05c897eaf09dc2e28fe6f63254cffe31af249b06ba178888e8227da53c6a27a4", func := "loop.example/satelliteclock/laws.FnLabelPulsesLast", spec := "fnLabelPulsesLast", apart := false }
def FnLabelPulsesLastSaid : Prop := fnLabelPulsesLastRow.holds Try.pinned (OpenSpec.ofChange fnLabelPulsesLastSpec)

/-- ITS FALSE NEIGHBOUR: 'it returns false'. Refute it at one input. -/
def fnLabelPulsesLastWrong : ChangeSpec := { name := "fnLabelPulsesLast", fn := fun _ => fun
  | [d] => { results := [.lit (.bool false)], args := [d] }
  | _ => none }
def FnLabelPulsesLastWrongFalsely : Prop := fnLabelPulsesLastRow.holds Try.pinned (OpenSpec.ofChange fnLabelPulsesLastWrong)

/-- 'laws.FnLabelPulsesNone': WHATEVER THE INPUT: true; the input reads as it did. -/
def fnLabelPulsesNoneSpec : ChangeSpec := { name := "fnLabelPulsesNone", fn := fun _ => fun
  | [d] => { results := [.lit (.bool true)], args := [d] }
  | _ => none }
def fnLabelPulsesNoneRow : OpenClaim := { program := "ytchlfonhhmkipaa", sum := "05c897eaf09dc2e28fe6f63254cffe31af249b06ba178888e8227da53c6a27a4", func := "loop.example/satelliteclock/laws.FnLabelPulsesNone", spec := "fnLabelPulsesNone", apart := false }
def FnLabelPulsesNoneSaid : Prop := fnLabelPulsesNoneRow.holds Try.pinned (OpenSpec.ofChange fnLabelPulsesNoneSpec)

/-- ITS FALSE NEIGHBOUR: 'it returns false'. Refute it at one input. -/
def fnLabelPulsesNoneWrong : ChangeSpec := { name := "fnLabelPulsesNone", fn := fun _ => fun
  | [d] => { results := [.lit (.bool false)], args := [d] }
  | _ => none }
def FnLabelPulsesNoneWrongFalsely : Prop := fnLabelPulsesNoneRow.holds Try.pinned (OpenSpec.ofChange fnLabelPulsesNoneWrong)

/-- 'laws.FnLabelPulses': WHATEVER THE INPUT: true; the input reads as it did. -/
def fnLabelPulsesSpec : ChangeSpec := { name := "fnLabelPulses", fn := fun _ => fun
  | [d] => { results := [.lit (.bool true)], args := [d] }
  | _ => none }
def fnLabelPulsesRow : OpenClaim := { program := "ytchlfonhhmkipaa", sum := "05c897eaf09dc2e28fe6f63254cffe31af249b06ba178888e8227da53c6a27a4", func := "loop.example/satelliteclock/laws.FnLabelPulses", spec := "fnLabelPulses", apart := false }
def FnLabelPulsesSaid : Prop := fnLabelPulsesRow.holds Try.pinned (OpenSpec.ofChange fnLabelPulsesSpec)

/-- ITS FALSE NEIGHBOUR: 'it returns false'. Refute it at one input. -/
def fnLabelPulsesWrong : ChangeSpec := { name := "fnLabelPulses", fn := fun _ => fun
  | [d] => { results := [.lit (.bool false)], args := [d] }
  | _ => none }
def FnLabelPulsesWrongFalsely : Prop := fnLabelPulsesRow.holds Try.pinned (OpenSpec.ofChange fnLabelPulsesWrong)

/-- 'laws.FnExactLabelPulses': WHATEVER THE INPUT: true; the input reads as it did. -/
def fnExactLabelPulsesSpec : ChangeSpec := { name := "fnExactLabelPulses", fn := fun _ => fun
  | [d1, d2] => { results := [.lit (.bool true)], args := [d1, d2] }
  | _ => none }
def fnExactLabelPulsesRow : OpenClaim := { program := "ytchlfonhhmkipaa", sum := "05c897eaf09dc2e28fe6f63254cffe31af249b06ba178888e8227da53c6a27a4", func := "loop.example/satelliteclock/laws.FnExactLabelPulses", spec := "fnExactLabelPulses", apart := false }
def FnExactLabelPulsesSaid : Prop := fnExactLabelPulsesRow.holds Try.pinned (OpenSpec.ofChange fnExactLabelPulsesSpec)

/-- ITS FALSE NEIGHBOUR: 'it returns false'. Refute it at one input. -/
def fnExactLabelPulsesWrong : ChangeSpec := { name := "fnExactLabelPulses", fn := fun _ => fun
  | [d1, d2] => { results := [.lit (.bool false)], args := [d1, d2] }
  | _ => none }
def FnExactLabelPulsesWrongFalsely : Prop := fnExactLabelPulsesRow.holds Try.pinned (OpenSpec.ofChange fnExactLabelPulsesWrong)

/- THE SECOND FORM. 'bulk': how many values and letters a reading holds, each counted each time it is reached (what is shared counts as often as it is met; a slice's spare places count too). A statement '..UptoSaid' is the law's where the arguments, and the package variables that the reading takes, are together of bulk at most 1048576: NARROWER than '..Said'. Prove '..Said' where nothing that the law and all that it calls make is longer than what came in: it says more and counts as full. Else prove '..UptoSaid'. A law counts once. -/
mutual
def uptoBulk {H : Type} : DataW H → Nat
  | .lit (.string bytes) => bytes.length + 1
  | .lit _ => 1
  | .nil => 1
  | .ptr d => uptoBulk d + 1
  | .slice elems spare => uptoBulkAll elems + uptoBulkAll spare + 1
  | .agg parts => uptoBulkAll parts + 1
  | .iface _ d => uptoBulk d + 1
  | .map entries => uptoBulkEntries entries + 1
  | .held _ => 1
def uptoBulkAll {H : Type} : List (DataW H) → Nat
  | [] => 0
  | d :: r => uptoBulk d + uptoBulkAll r
def uptoBulkEntries {H : Type} : List (Lit × DataW H) → Nat
  | [] => 0
  | x :: r => uptoBulkEntry x + uptoBulkEntries r
def uptoBulkEntry {H : Type} : Lit × DataW H → Nat
  | (.string bytes, d) => bytes.length + uptoBulk d + 1
  | (_, d) => uptoBulk d + 1
 end
def uptoSmall : (H : Type) → List (DataW H) → Bool := fun _ ds => decide (uptoBulkAll ds ≤ 1048576)
def OpenSpec.upto (s : _root_.Go.ChangeSpec) : _root_.Go.OpenSpec := { _root_.Go.OpenSpec.ofChange s with cond := some uptoSmall }

/-- 'laws.FnSmearAtEnds', WHERE WHAT IT READS IS OF BULK AT MOST 1048576: true; the input reads as it did. -/
def fnSmearAtEndsUptoRow : OpenClaim := { program := "ytchlfonhhmkipaa", sum := "05c897eaf09dc2e28fe6f63254cffe31af249b06ba178888e8227da53c6a27a4", func := "loop.example/satelliteclock/laws.FnSmearAtEnds", spec := "fnSmearAtEnds", apart := false, narrowed := true }
def FnSmearAtEndsUptoSaid : Prop := fnSmearAtEndsUptoRow.holds Try.pinned (OpenSpec.upto fnSmearAtEndsSpec)

/-- 'laws.FnSmearAtShift', WHERE WHAT IT READS IS OF BULK AT MOST 1048576: true; the input reads as it did. -/
def fnSmearAtShiftUptoRow : OpenClaim := { program := "ytchlfonhhmkipaa", sum := "05c897eaf09dc2e28fe6f63254cffe31af249b06ba178888e8227da53c6a27a4", func := "loop.example/satelliteclock/laws.FnSmearAtShift", spec := "fnSmearAtShift", apart := false, narrowed := true }
def FnSmearAtShiftUptoSaid : Prop := fnSmearAtShiftUptoRow.holds Try.pinned (OpenSpec.upto fnSmearAtShiftSpec)

/-- 'laws.FnSmearedStamp', WHERE WHAT IT READS IS OF BULK AT MOST 1048576: true; the input reads as it did. -/
def fnSmearedStampUptoRow : OpenClaim := { program := "ytchlfonhhmkipaa", sum := "05c897eaf09dc2e28fe6f63254cffe31af249b06ba178888e8227da53c6a27a4", func := "loop.example/satelliteclock/laws.FnSmearedStamp", spec := "fnSmearedStamp", apart := false, narrowed := true }
def FnSmearedStampUptoSaid : Prop := fnSmearedStampUptoRow.holds Try.pinned (OpenSpec.upto fnSmearedStampSpec)

/-- 'laws.FnLabelPulsesLast', WHERE WHAT IT READS IS OF BULK AT MOST 1048576: true; the input reads as it did. -/
def fnLabelPulsesLastUptoRow : OpenClaim := { program := "ytchlfonhhmkipaa", sum := "05c897eaf09dc2e28fe6f63254cffe31af249b06ba178888e8227da53c6a27a4", func := "loop.example/satelliteclock/laws.FnLabelPulsesLast", spec := "fnLabelPulsesLast", apart := false, narrowed := true }
def FnLabelPulsesLastUptoSaid : Prop := fnLabelPulsesLastUptoRow.holds Try.pinned (OpenSpec.upto fnLabelPulsesLastSpec)

/-- 'laws.FnLabelPulsesNone', WHERE WHAT IT READS IS OF BULK AT MOST 1048576: true; the input reads as it did. -/
def fnLabelPulsesNoneUptoRow : OpenClaim := { program := "ytchlfonhhmkipaa", sum := "05c897eaf09dc2e28fe6f63254cffe31af249b06ba178888e8227da53c6a27a4", func := "loop.example/satelliteclock/laws.FnLabelPulsesNone", spec := "fnLabelPulsesNone", apart := false, narrowed := true }
def FnLabelPulsesNoneUptoSaid : Prop := fnLabelPulsesNoneUptoRow.holds Try.pinned (OpenSpec.upto fnLabelPulsesNoneSpec)

/-- 'laws.FnLabelPulses', WHERE WHAT IT READS IS OF BULK AT MOST 1048576: true; the input reads as it did. -/
def fnLabelPulsesUptoRow : OpenClaim := { program := "ytchlfonhhmkipaa", sum := "05c897eaf09dc2e28fe6f63254cffe31af249b06ba178888e8227da53c6a27a4", func := "loop.example/satelliteclock/laws.FnLabelPulses", spec := "fnLabelPulses", apart := false, narrowed := true }
def FnLabelPulsesUptoSaid : Prop := fnLabelPulsesUptoRow.holds Try.pinned (OpenSpec.upto fnLabelPulsesSpec)

/-- 'laws.FnExactLabelPulses', WHERE WHAT IT READS IS OF BULK AT MOST 1048576: true; the input reads as it did. -/
def fnExactLabelPulsesUptoRow : OpenClaim := { program := "ytchlfonhhmkipaa", sum := "05c897eaf09dc2e28fe6f63254cffe31af249b06ba178888e8227da53c6a27a4", func := "loop.example/satelliteclock/laws.FnExactLabelPulses", spec := "fnExactLabelPulses", apart := false, narrowed := true }
def FnExactLabelPulsesUptoSaid : Prop := fnExactLabelPulsesUptoRow.holds Try.pinned (OpenSpec.upto fnExactLabelPulsesSpec)

end Rows
end Go.Proofs.Ytchlfonhhmkipaa
