/-
  No cell of these rows narrows 'for every input' (looked for: loops, veiled, ifaces, maps, wideKeys, modest, calm, conditions, laid).
  DERIVED. THE GIVEN ROWS OF THIS SEAT. 10 by the template 'for every input the law returns true; each argument reads behind the call as it read before'; 0 by the template 'total and deterministic' (their statements: YtleblmimoamdmaaTotals.lean).
  GIVEN WITH THE SEED: the statements are not yours to turn. If you find one false, say at which input.
  Laid BY PROGRAM, IN A SANDBOX (cutbox-rows.mjs): the forced cells as the released guide's own fill.sh prints them over the translation 94295064be3abbdb… (all of the seat's roots in one cut). By AI agents, Wed Nov 11 2026. No macro, syntax, notation, axiom, sorry.
-/
import Derived.Test.YtleblmimoamdmaaChecked
import GoSem.Claim
import GoSem.ClaimJoined
import GoSem.ClaimMapViews
import Derived.JoinedTies
import Derived.KernelRfl
namespace Go.Proofs.Ytleblmimoamdmaa
/- THE CELL 'sum', in the pinned program and in every row, IS THE sha256 OF THE DUMP (.gsa) THAT YtleblmimoamdmaaProg.lean LOADS. Nothing in Lean hashes anything: it is a label: what it is worth is what the hold of that sum in a sandbox is worth. -/
noncomputable def Try.pinned : Pinned := { name := "ytleblmimoamdmaa", sum := "94295064be3abbdbe1cc1a64532555c13dc14ecedcd8713f5bf2d4ef23206e6e", checked := Try.checked }
namespace Rows
def none {H : Type} : Left H := { results := [], args := [] }

/-- 'laws.FnExactValidFix': WHATEVER THE INPUT: true; the input reads as it did. -/
def fnExactValidFixSpec : ChangeSpec := { name := "fnExactValidFix", fn := fun _ => fun
  | [d] => { results := [.lit (.bool true)], args := [d] }
  | _ => none }
def fnExactValidFixRow : OpenClaim := { program := "ytleblmimoamdmaa", sum := "94295064be3abbdbe1cc1a64532555c13dc14ecedcd8713f5bf2d4ef23206e6e", func := "loop.example/satelliteclock/laws.FnExactValidFix", spec := "fnExactValidFix", apart := false }
def FnExactValidFixSaid : Prop := fnExactValidFixRow.holds Try.pinned (OpenSpec.ofChange fnExactValidFixSpec)

/-- ITS FALSE NEIGHBOUR: 'it returns false'. Refute it at one input. -/
def fnExactValidFixWrong : ChangeSpec := { name := "fnExactValidFix", fn := fun _ => fun
  | [d] => { results := [.lit (.bool false)], args := [d] }
  | _ => none }
def FnExactValidFixWrongFalsely : Prop := fnExactValidFixRow.holds Try.pinned (OpenSpec.ofChange fnExactValidFixWrong)

/-- 'laws.FnExactCivilFix': WHATEVER THE INPUT: true; the input reads as it did. -/
def fnExactCivilFixSpec : ChangeSpec := { name := "fnExactCivilFix", fn := fun _ => fun
  | [d] => { results := [.lit (.bool true)], args := [d] }
  | _ => none }
def fnExactCivilFixRow : OpenClaim := { program := "ytleblmimoamdmaa", sum := "94295064be3abbdbe1cc1a64532555c13dc14ecedcd8713f5bf2d4ef23206e6e", func := "loop.example/satelliteclock/laws.FnExactCivilFix", spec := "fnExactCivilFix", apart := false }
def FnExactCivilFixSaid : Prop := fnExactCivilFixRow.holds Try.pinned (OpenSpec.ofChange fnExactCivilFixSpec)

/-- ITS FALSE NEIGHBOUR: 'it returns false'. Refute it at one input. -/
def fnExactCivilFixWrong : ChangeSpec := { name := "fnExactCivilFix", fn := fun _ => fun
  | [d] => { results := [.lit (.bool false)], args := [d] }
  | _ => none }
def FnExactCivilFixWrongFalsely : Prop := fnExactCivilFixRow.holds Try.pinned (OpenSpec.ofChange fnExactCivilFixWrong)

/-- 'laws.FnGpsTimeFix': WHATEVER THE INPUT: true; the input reads as it did. -/
def fnGpsTimeFixSpec : ChangeSpec := { name := "fnGpsTimeFix", fn := fun _ => fun
  | [d] => { results := [.lit (.bool true)], args := [d] }
  | _ => none }
def fnGpsTimeFixRow : OpenClaim := { program := "ytleblmimoamdmaa", sum := "94295064be3abbdbe1cc1a64532555c13dc14ecedcd8713f5bf2d4ef23206e6e", func := "loop.example/satelliteclock/laws.FnGpsTimeFix", spec := "fnGpsTimeFix", apart := false }
def FnGpsTimeFixSaid : Prop := fnGpsTimeFixRow.holds Try.pinned (OpenSpec.ofChange fnGpsTimeFixSpec)

/-- ITS FALSE NEIGHBOUR: 'it returns false'. Refute it at one input. -/
def fnGpsTimeFixWrong : ChangeSpec := { name := "fnGpsTimeFix", fn := fun _ => fun
  | [d] => { results := [.lit (.bool false)], args := [d] }
  | _ => none }
def FnGpsTimeFixWrongFalsely : Prop := fnGpsTimeFixRow.holds Try.pinned (OpenSpec.ofChange fnGpsTimeFixWrong)

/-- 'laws.FnExactFixAt': WHATEVER THE INPUT: true; the input reads as it did. -/
def fnExactFixAtSpec : ChangeSpec := { name := "fnExactFixAt", fn := fun _ => fun
  | [d1, d2] => { results := [.lit (.bool true)], args := [d1, d2] }
  | _ => none }
def fnExactFixAtRow : OpenClaim := { program := "ytleblmimoamdmaa", sum := "94295064be3abbdbe1cc1a64532555c13dc14ecedcd8713f5bf2d4ef23206e6e", func := "loop.example/satelliteclock/laws.FnExactFixAt", spec := "fnExactFixAt", apart := false }
def FnExactFixAtSaid : Prop := fnExactFixAtRow.holds Try.pinned (OpenSpec.ofChange fnExactFixAtSpec)

/-- ITS FALSE NEIGHBOUR: 'it returns false'. Refute it at one input. -/
def fnExactFixAtWrong : ChangeSpec := { name := "fnExactFixAt", fn := fun _ => fun
  | [d1, d2] => { results := [.lit (.bool false)], args := [d1, d2] }
  | _ => none }
def FnExactFixAtWrongFalsely : Prop := fnExactFixAtRow.holds Try.pinned (OpenSpec.ofChange fnExactFixAtWrong)

/-- 'laws.FnCivilFixLeap': WHATEVER THE INPUT: true; the input reads as it did. -/
def fnCivilFixLeapSpec : ChangeSpec := { name := "fnCivilFixLeap", fn := fun _ => fun
  | [d] => { results := [.lit (.bool true)], args := [d] }
  | _ => none }
def fnCivilFixLeapRow : OpenClaim := { program := "ytleblmimoamdmaa", sum := "94295064be3abbdbe1cc1a64532555c13dc14ecedcd8713f5bf2d4ef23206e6e", func := "loop.example/satelliteclock/laws.FnCivilFixLeap", spec := "fnCivilFixLeap", apart := false }
def FnCivilFixLeapSaid : Prop := fnCivilFixLeapRow.holds Try.pinned (OpenSpec.ofChange fnCivilFixLeapSpec)

/-- ITS FALSE NEIGHBOUR: 'it returns false'. Refute it at one input. -/
def fnCivilFixLeapWrong : ChangeSpec := { name := "fnCivilFixLeap", fn := fun _ => fun
  | [d] => { results := [.lit (.bool false)], args := [d] }
  | _ => none }
def FnCivilFixLeapWrongFalsely : Prop := fnCivilFixLeapRow.holds Try.pinned (OpenSpec.ofChange fnCivilFixLeapWrong)

/-- 'laws.FnFixAtNext': WHATEVER THE INPUT: true; the input reads as it did. -/
def fnFixAtNextSpec : ChangeSpec := { name := "fnFixAtNext", fn := fun _ => fun
  | [d] => { results := [.lit (.bool true)], args := [d] }
  | _ => none }
def fnFixAtNextRow : OpenClaim := { program := "ytleblmimoamdmaa", sum := "94295064be3abbdbe1cc1a64532555c13dc14ecedcd8713f5bf2d4ef23206e6e", func := "loop.example/satelliteclock/laws.FnFixAtNext", spec := "fnFixAtNext", apart := false }
def FnFixAtNextSaid : Prop := fnFixAtNextRow.holds Try.pinned (OpenSpec.ofChange fnFixAtNextSpec)

/-- ITS FALSE NEIGHBOUR: 'it returns false'. Refute it at one input. -/
def fnFixAtNextWrong : ChangeSpec := { name := "fnFixAtNext", fn := fun _ => fun
  | [d] => { results := [.lit (.bool false)], args := [d] }
  | _ => none }
def FnFixAtNextWrongFalsely : Prop := fnFixAtNextRow.holds Try.pinned (OpenSpec.ofChange fnFixAtNextWrong)

/-- 'laws.FnFixAtSeen': WHATEVER THE INPUT: true; the input reads as it did. -/
def fnFixAtSeenSpec : ChangeSpec := { name := "fnFixAtSeen", fn := fun _ => fun
  | [d] => { results := [.lit (.bool true)], args := [d] }
  | _ => none }
def fnFixAtSeenRow : OpenClaim := { program := "ytleblmimoamdmaa", sum := "94295064be3abbdbe1cc1a64532555c13dc14ecedcd8713f5bf2d4ef23206e6e", func := "loop.example/satelliteclock/laws.FnFixAtSeen", spec := "fnFixAtSeen", apart := false }
def FnFixAtSeenSaid : Prop := fnFixAtSeenRow.holds Try.pinned (OpenSpec.ofChange fnFixAtSeenSpec)

/-- ITS FALSE NEIGHBOUR: 'it returns false'. Refute it at one input. -/
def fnFixAtSeenWrong : ChangeSpec := { name := "fnFixAtSeen", fn := fun _ => fun
  | [d] => { results := [.lit (.bool false)], args := [d] }
  | _ => none }
def FnFixAtSeenWrongFalsely : Prop := fnFixAtSeenRow.holds Try.pinned (OpenSpec.ofChange fnFixAtSeenWrong)

/-- 'laws.FnFixAt': WHATEVER THE INPUT: true; the input reads as it did. -/
def fnFixAtSpec : ChangeSpec := { name := "fnFixAt", fn := fun _ => fun
  | [d] => { results := [.lit (.bool true)], args := [d] }
  | _ => none }
def fnFixAtRow : OpenClaim := { program := "ytleblmimoamdmaa", sum := "94295064be3abbdbe1cc1a64532555c13dc14ecedcd8713f5bf2d4ef23206e6e", func := "loop.example/satelliteclock/laws.FnFixAt", spec := "fnFixAt", apart := false }
def FnFixAtSaid : Prop := fnFixAtRow.holds Try.pinned (OpenSpec.ofChange fnFixAtSpec)

/-- ITS FALSE NEIGHBOUR: 'it returns false'. Refute it at one input. -/
def fnFixAtWrong : ChangeSpec := { name := "fnFixAt", fn := fun _ => fun
  | [d] => { results := [.lit (.bool false)], args := [d] }
  | _ => none }
def FnFixAtWrongFalsely : Prop := fnFixAtRow.holds Try.pinned (OpenSpec.ofChange fnFixAtWrong)

/-- 'laws.FnFixWeekday': WHATEVER THE INPUT: true; the input reads as it did. -/
def fnFixWeekdaySpec : ChangeSpec := { name := "fnFixWeekday", fn := fun _ => fun
  | [d] => { results := [.lit (.bool true)], args := [d] }
  | _ => none }
def fnFixWeekdayRow : OpenClaim := { program := "ytleblmimoamdmaa", sum := "94295064be3abbdbe1cc1a64532555c13dc14ecedcd8713f5bf2d4ef23206e6e", func := "loop.example/satelliteclock/laws.FnFixWeekday", spec := "fnFixWeekday", apart := false }
def FnFixWeekdaySaid : Prop := fnFixWeekdayRow.holds Try.pinned (OpenSpec.ofChange fnFixWeekdaySpec)

/-- ITS FALSE NEIGHBOUR: 'it returns false'. Refute it at one input. -/
def fnFixWeekdayWrong : ChangeSpec := { name := "fnFixWeekday", fn := fun _ => fun
  | [d] => { results := [.lit (.bool false)], args := [d] }
  | _ => none }
def FnFixWeekdayWrongFalsely : Prop := fnFixWeekdayRow.holds Try.pinned (OpenSpec.ofChange fnFixWeekdayWrong)

/-- 'laws.FnCivilFix': WHATEVER THE INPUT: true; the input reads as it did. -/
def fnCivilFixSpec : ChangeSpec := { name := "fnCivilFix", fn := fun _ => fun
  | [d] => { results := [.lit (.bool true)], args := [d] }
  | _ => none }
def fnCivilFixRow : OpenClaim := { program := "ytleblmimoamdmaa", sum := "94295064be3abbdbe1cc1a64532555c13dc14ecedcd8713f5bf2d4ef23206e6e", func := "loop.example/satelliteclock/laws.FnCivilFix", spec := "fnCivilFix", apart := false }
def FnCivilFixSaid : Prop := fnCivilFixRow.holds Try.pinned (OpenSpec.ofChange fnCivilFixSpec)

/-- ITS FALSE NEIGHBOUR: 'it returns false'. Refute it at one input. -/
def fnCivilFixWrong : ChangeSpec := { name := "fnCivilFix", fn := fun _ => fun
  | [d] => { results := [.lit (.bool false)], args := [d] }
  | _ => none }
def FnCivilFixWrongFalsely : Prop := fnCivilFixRow.holds Try.pinned (OpenSpec.ofChange fnCivilFixWrong)

/- THE SECOND FORM. 'bulk': how many values and letters a reading holds, each counted each time it is reached (what is shared counts as often as it is met; a slice's spare places count too). A statement '..UptoSaid' is the law's where the arguments, and the package variables that the reading takes, are together of bulk at most 1048576: NARROWER than '..Said'. Prove '..Said' where nothing that the law and all that it calls make is longer than what came in: it says more and counts as full. Else prove '..UptoSaid'. A law counts once. -/
mutual
def uptoBulk {H : Type} : DataW H → Nat
  | .lit (.string bytes) => bytes.length + 1
  | .lit _ => 1
  | .nil => 1
  | .ptr d => uptoBulk d + 1
  | .slice elems spare => uptoBulkAll elems + uptoBulkAll spare + 1
  | .agg parts => uptoBulkAll parts + 1
  | .iface _ d => uptoBulk d + 1
  | .map entries => uptoBulkEntries entries + 1
  | .held _ => 1
def uptoBulkAll {H : Type} : List (DataW H) → Nat
  | [] => 0
  | d :: r => uptoBulk d + uptoBulkAll r
def uptoBulkEntries {H : Type} : List (Lit × DataW H) → Nat
  | [] => 0
  | x :: r => uptoBulkEntry x + uptoBulkEntries r
def uptoBulkEntry {H : Type} : Lit × DataW H → Nat
  | (.string bytes, d) => bytes.length + uptoBulk d + 1
  | (_, d) => uptoBulk d + 1
 end
def uptoSmall : (H : Type) → List (DataW H) → Bool := fun _ ds => decide (uptoBulkAll ds ≤ 1048576)
def OpenSpec.upto (s : _root_.Go.ChangeSpec) : _root_.Go.OpenSpec := { _root_.Go.OpenSpec.ofChange s with cond := some uptoSmall }

/-- 'laws.FnExactValidFix', WHERE WHAT IT READS IS OF BULK AT MOST 1048576: true; the input reads as it did. -/
def fnExactValidFixUptoRow : OpenClaim := { program := "ytleblmimoamdmaa", sum := "94295064be3abbdbe1cc1a64532555c13dc14ecedcd8713f5bf2d4ef23206e6e", func := "loop.example/satelliteclock/laws.FnExactValidFix", spec := "fnExactValidFix", apart := false, narrowed := true }
def FnExactValidFixUptoSaid : Prop := fnExactValidFixUptoRow.holds Try.pinned (OpenSpec.upto fnExactValidFixSpec)

/-- 'laws.FnExactCivilFix', WHERE WHAT IT READS IS OF BULK AT MOST 1048576: true; the input reads as it did. -/
def fnExactCivilFixUptoRow : OpenClaim := { program := "ytleblmimoamdmaa", sum := "94295064be3abbdbe1cc1a64532555c13dc14ecedcd8713f5bf2d4ef23206e6e", func := "loop.example/satelliteclock/laws.FnExactCivilFix", spec := "fnExactCivilFix", apart := false, narrowed := true }
def FnExactCivilFixUptoSaid : Prop := fnExactCivilFixUptoRow.holds Try.pinned (OpenSpec.upto fnExactCivilFixSpec)

/-- 'laws.FnGpsTimeFix', WHERE WHAT IT READS IS OF BULK AT MOST 1048576: true; the input reads as it did. -/
def fnGpsTimeFixUptoRow : OpenClaim := { program := "ytleblmimoamdmaa", sum := "94295064be3abbdbe1cc1a64532555c13dc14ecedcd8713f5bf2d4ef23206e6e", func := "loop.example/satelliteclock/laws.FnGpsTimeFix", spec := "fnGpsTimeFix", apart := false, narrowed := true }
def FnGpsTimeFixUptoSaid : Prop := fnGpsTimeFixUptoRow.holds Try.pinned (OpenSpec.upto fnGpsTimeFixSpec)

/-- 'laws.FnExactFixAt', WHERE WHAT IT READS IS OF BULK AT MOST 1048576: true; the input reads as it did. -/
def fnExactFixAtUptoRow : OpenClaim := { program := "ytleblmimoamdmaa", sum := "94295064be3abbdbe1cc1a64532555c13dc14ecedcd8713f5bf2d4ef23206e6e", func := "loop.example/satelliteclock/laws.FnExactFixAt", spec := "fnExactFixAt", apart := false, narrowed := true }
def FnExactFixAtUptoSaid : Prop := fnExactFixAtUptoRow.holds Try.pinned (OpenSpec.upto fnExactFixAtSpec)

/-- 'laws.FnCivilFixLeap', WHERE WHAT IT READS IS OF BULK AT MOST 1048576: true; the input reads as it did. -/
def fnCivilFixLeapUptoRow : OpenClaim := { program := "ytleblmimoamdmaa", sum := "94295064be3abbdbe1cc1a64532555c13dc14ecedcd8713f5bf2d4ef23206e6e", func := "loop.example/satelliteclock/laws.FnCivilFixLeap", spec := "fnCivilFixLeap", apart := false, narrowed := true }
def FnCivilFixLeapUptoSaid : Prop := fnCivilFixLeapUptoRow.holds Try.pinned (OpenSpec.upto fnCivilFixLeapSpec)

/-- 'laws.FnFixAtNext', WHERE WHAT IT READS IS OF BULK AT MOST 1048576: true; the input reads as it did. -/
def fnFixAtNextUptoRow : OpenClaim := { program := "ytleblmimoamdmaa", sum := "94295064be3abbdbe1cc1a64532555c13dc14ecedcd8713f5bf2d4ef23206e6e", func := "loop.example/satelliteclock/laws.FnFixAtNext", spec := "fnFixAtNext", apart := false, narrowed := true }
def FnFixAtNextUptoSaid : Prop := fnFixAtNextUptoRow.holds Try.pinned (OpenSpec.upto fnFixAtNextSpec)

/-- 'laws.FnFixAtSeen', WHERE WHAT IT READS IS OF BULK AT MOST 1048576: true; the input reads as it did. -/
def fnFixAtSeenUptoRow : OpenClaim := { program := "ytleblmimoamdmaa", sum := "94295064be3abbdbe1cc1a64532555c13dc14ecedcd8713f5bf2d4ef23206e6e", func := "loop.example/satelliteclock/laws.FnFixAtSeen", spec := "fnFixAtSeen", apart := false, narrowed := true }
def FnFixAtSeenUptoSaid : Prop := fnFixAtSeenUptoRow.holds Try.pinned (OpenSpec.upto fnFixAtSeenSpec)

/-- 'laws.FnFixAt', WHERE WHAT IT READS IS OF BULK AT MOST 1048576: true; the input reads as it did. -/
def fnFixAtUptoRow : OpenClaim := { program := "ytleblmimoamdmaa", sum := "94295064be3abbdbe1cc1a64532555c13dc14ecedcd8713f5bf2d4ef23206e6e", func := "loop.example/satelliteclock/laws.FnFixAt", spec := "fnFixAt", apart := false, narrowed := true }
def FnFixAtUptoSaid : Prop := fnFixAtUptoRow.holds Try.pinned (OpenSpec.upto fnFixAtSpec)

/-- 'laws.FnFixWeekday', WHERE WHAT IT READS IS OF BULK AT MOST 1048576: true; the input reads as it did. -/
def fnFixWeekdayUptoRow : OpenClaim := { program := "ytleblmimoamdmaa", sum := "94295064be3abbdbe1cc1a64532555c13dc14ecedcd8713f5bf2d4ef23206e6e", func := "loop.example/satelliteclock/laws.FnFixWeekday", spec := "fnFixWeekday", apart := false, narrowed := true }
def FnFixWeekdayUptoSaid : Prop := fnFixWeekdayUptoRow.holds Try.pinned (OpenSpec.upto fnFixWeekdaySpec)

/-- 'laws.FnCivilFix', WHERE WHAT IT READS IS OF BULK AT MOST 1048576: true; the input reads as it did. -/
def fnCivilFixUptoRow : OpenClaim := { program := "ytleblmimoamdmaa", sum := "94295064be3abbdbe1cc1a64532555c13dc14ecedcd8713f5bf2d4ef23206e6e", func := "loop.example/satelliteclock/laws.FnCivilFix", spec := "fnCivilFix", apart := false, narrowed := true }
def FnCivilFixUptoSaid : Prop := fnCivilFixUptoRow.holds Try.pinned (OpenSpec.upto fnCivilFixSpec)

end Rows
end Go.Proofs.Ytleblmimoamdmaa
