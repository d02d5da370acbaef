/-
  No cell of these rows narrows 'for every input' (looked for: loops, veiled, ifaces, maps, wideKeys, modest, calm, conditions, laid).
  DERIVED. THE GIVEN ROWS OF THIS SEAT. 13 by the template 'for every input the law returns true; each argument reads behind the call as it read before'; 0 by the template 'total and deterministic' (their statements: YtjhioifohbpdhaaTotals.lean).
  GIVEN WITH THE SEED: the statements are not yours to turn. If you find one false, say at which input.
  Laid BY PROGRAM, IN A SANDBOX (cutbox-rows.mjs): the forced cells as the released guide's own fill.sh prints them over the translation dc204ffb1c2729b6… (all of the seat's roots in one cut). By AI agents, Wed Nov 11 2026. No macro, syntax, notation, axiom, sorry.
-/
import Derived.Test.YtjhioifohbpdhaaChecked
import GoSem.Claim
import GoSem.ClaimJoined
import GoSem.ClaimMapViews
import Derived.JoinedTies
import Derived.KernelRfl
namespace Go.Proofs.Ytjhioifohbpdhaa
/- THE CELL 'sum', in the pinned program and in every row, IS THE sha256 OF THE DUMP (.gsa) THAT YtjhioifohbpdhaaProg.lean LOADS. Nothing in Lean hashes anything: it is a label: what it is worth is what the hold of that sum in a sandbox is worth. -/
noncomputable def Try.pinned : Pinned := { name := "ytjhioifohbpdhaa", sum := "dc204ffb1c2729b69ebb5b6ac2c0c7a2a78edebf9db54ab0916998e6fa0f84f2", checked := Try.checked }
namespace Rows
def none {H : Type} : Left H := { results := [], args := [] }

/-- 'laws.FnExactValidBuckets': WHATEVER THE INPUT: true; the input reads as it did. -/
def fnExactValidBucketsSpec : ChangeSpec := { name := "fnExactValidBuckets", fn := fun _ => fun
  | [d] => { results := [.lit (.bool true)], args := [d] }
  | _ => none }
def fnExactValidBucketsRow : OpenClaim := { program := "ytjhioifohbpdhaa", sum := "dc204ffb1c2729b69ebb5b6ac2c0c7a2a78edebf9db54ab0916998e6fa0f84f2", func := "loop.example/satelliteclock/laws.FnExactValidBuckets", spec := "fnExactValidBuckets", apart := false }
def FnExactValidBucketsSaid : Prop := fnExactValidBucketsRow.holds Try.pinned (OpenSpec.ofChange fnExactValidBucketsSpec)

/-- ITS FALSE NEIGHBOUR: 'it returns false'. Refute it at one input. -/
def fnExactValidBucketsWrong : ChangeSpec := { name := "fnExactValidBuckets", fn := fun _ => fun
  | [d] => { results := [.lit (.bool false)], args := [d] }
  | _ => none }
def FnExactValidBucketsWrongFalsely : Prop := fnExactValidBucketsRow.holds Try.pinned (OpenSpec.ofChange fnExactValidBucketsWrong)

/-- 'laws.FnValidBuckets': WHATEVER THE INPUT: true; the input reads as it did. -/
def fnValidBucketsSpec : ChangeSpec := { name := "fnValidBuckets", fn := fun _ => fun
  | [d] => { results := [.lit (.bool true)], args := [d] }
  | _ => none }
def fnValidBucketsRow : OpenClaim := { program := "ytjhioifohbpdhaa", sum := "dc204ffb1c2729b69ebb5b6ac2c0c7a2a78edebf9db54ab0916998e6fa0f84f2", func := "loop.example/satelliteclock/laws.FnValidBuckets", spec := "fnValidBuckets", apart := false }
def FnValidBucketsSaid : Prop := fnValidBucketsRow.holds Try.pinned (OpenSpec.ofChange fnValidBucketsSpec)

/-- ITS FALSE NEIGHBOUR: 'it returns false'. Refute it at one input. -/
def fnValidBucketsWrong : ChangeSpec := { name := "fnValidBuckets", fn := fun _ => fun
  | [d] => { results := [.lit (.bool false)], args := [d] }
  | _ => none }
def FnValidBucketsWrongFalsely : Prop := fnValidBucketsRow.holds Try.pinned (OpenSpec.ofChange fnValidBucketsWrong)

/-- 'laws.FnExactTokensAt': WHATEVER THE INPUT: true; the input reads as it did. -/
def fnExactTokensAtSpec : ChangeSpec := { name := "fnExactTokensAt", fn := fun _ => fun
  | [d1, d2, d3] => { results := [.lit (.bool true)], args := [d1, d2, d3] }
  | _ => none }
def fnExactTokensAtRow : OpenClaim := { program := "ytjhioifohbpdhaa", sum := "dc204ffb1c2729b69ebb5b6ac2c0c7a2a78edebf9db54ab0916998e6fa0f84f2", func := "loop.example/satelliteclock/laws.FnExactTokensAt", spec := "fnExactTokensAt", unfollowed := true, recurses := true, apart := false }
def FnExactTokensAtSaid : Prop := fnExactTokensAtRow.holds Try.pinned (OpenSpec.ofChange fnExactTokensAtSpec)

/-- ITS FALSE NEIGHBOUR: 'it returns false'. Refute it at one input. -/
def fnExactTokensAtWrong : ChangeSpec := { name := "fnExactTokensAt", fn := fun _ => fun
  | [d1, d2, d3] => { results := [.lit (.bool false)], args := [d1, d2, d3] }
  | _ => none }
def FnExactTokensAtWrongFalsely : Prop := fnExactTokensAtRow.holds Try.pinned (OpenSpec.ofChange fnExactTokensAtWrong)

/-- 'laws.FnTokensAt': WHATEVER THE INPUT: true; the input reads as it did. -/
def fnTokensAtSpec : ChangeSpec := { name := "fnTokensAt", fn := fun _ => fun
  | [d] => { results := [.lit (.bool true)], args := [d] }
  | _ => none }
def fnTokensAtRow : OpenClaim := { program := "ytjhioifohbpdhaa", sum := "dc204ffb1c2729b69ebb5b6ac2c0c7a2a78edebf9db54ab0916998e6fa0f84f2", func := "loop.example/satelliteclock/laws.FnTokensAt", spec := "fnTokensAt", unfollowed := true, recurses := true, apart := false }
def FnTokensAtSaid : Prop := fnTokensAtRow.holds Try.pinned (OpenSpec.ofChange fnTokensAtSpec)

/-- ITS FALSE NEIGHBOUR: 'it returns false'. Refute it at one input. -/
def fnTokensAtWrong : ChangeSpec := { name := "fnTokensAt", fn := fun _ => fun
  | [d] => { results := [.lit (.bool false)], args := [d] }
  | _ => none }
def FnTokensAtWrongFalsely : Prop := fnTokensAtRow.holds Try.pinned (OpenSpec.ofChange fnTokensAtWrong)

/-- 'laws.FnTokensAtNew': WHATEVER THE INPUT: true; the input reads as it did. -/
def fnTokensAtNewSpec : ChangeSpec := { name := "fnTokensAtNew", fn := fun _ => fun
  | [d] => { results := [.lit (.bool true)], args := [d] }
  | _ => none }
def fnTokensAtNewRow : OpenClaim := { program := "ytjhioifohbpdhaa", sum := "dc204ffb1c2729b69ebb5b6ac2c0c7a2a78edebf9db54ab0916998e6fa0f84f2", func := "loop.example/satelliteclock/laws.FnTokensAtNew", spec := "fnTokensAtNew", unfollowed := true, recurses := true, apart := false }
def FnTokensAtNewSaid : Prop := fnTokensAtNewRow.holds Try.pinned (OpenSpec.ofChange fnTokensAtNewSpec)

/-- ITS FALSE NEIGHBOUR: 'it returns false'. Refute it at one input. -/
def fnTokensAtNewWrong : ChangeSpec := { name := "fnTokensAtNew", fn := fun _ => fun
  | [d] => { results := [.lit (.bool false)], args := [d] }
  | _ => none }
def FnTokensAtNewWrongFalsely : Prop := fnTokensAtNewRow.holds Try.pinned (OpenSpec.ofChange fnTokensAtNewWrong)

/-- 'laws.FnExactDropFull': WHATEVER THE INPUT: true; the input reads as it did. -/
def fnExactDropFullSpec : ChangeSpec := { name := "fnExactDropFull", fn := fun _ => fun
  | [d1, d2] => { results := [.lit (.bool true)], args := [d1, d2] }
  | _ => none }
def fnExactDropFullRow : OpenClaim := { program := "ytjhioifohbpdhaa", sum := "dc204ffb1c2729b69ebb5b6ac2c0c7a2a78edebf9db54ab0916998e6fa0f84f2", func := "loop.example/satelliteclock/laws.FnExactDropFull", spec := "fnExactDropFull", unfollowed := true, recurses := true, apart := false }
def FnExactDropFullSaid : Prop := fnExactDropFullRow.holds Try.pinned (OpenSpec.ofChange fnExactDropFullSpec)

/-- ITS FALSE NEIGHBOUR: 'it returns false'. Refute it at one input. -/
def fnExactDropFullWrong : ChangeSpec := { name := "fnExactDropFull", fn := fun _ => fun
  | [d1, d2] => { results := [.lit (.bool false)], args := [d1, d2] }
  | _ => none }
def FnExactDropFullWrongFalsely : Prop := fnExactDropFullRow.holds Try.pinned (OpenSpec.ofChange fnExactDropFullWrong)

/-- 'laws.FnDropFull': WHATEVER THE INPUT: true; the input reads as it did. -/
def fnDropFullSpec : ChangeSpec := { name := "fnDropFull", fn := fun _ => fun
  | [d] => { results := [.lit (.bool true)], args := [d] }
  | _ => none }
def fnDropFullRow : OpenClaim := { program := "ytjhioifohbpdhaa", sum := "dc204ffb1c2729b69ebb5b6ac2c0c7a2a78edebf9db54ab0916998e6fa0f84f2", func := "loop.example/satelliteclock/laws.FnDropFull", spec := "fnDropFull", unfollowed := true, recurses := true, apart := false }
def FnDropFullSaid : Prop := fnDropFullRow.holds Try.pinned (OpenSpec.ofChange fnDropFullSpec)

/-- ITS FALSE NEIGHBOUR: 'it returns false'. Refute it at one input. -/
def fnDropFullWrong : ChangeSpec := { name := "fnDropFull", fn := fun _ => fun
  | [d] => { results := [.lit (.bool false)], args := [d] }
  | _ => none }
def FnDropFullWrongFalsely : Prop := fnDropFullRow.holds Try.pinned (OpenSpec.ofChange fnDropFullWrong)

/-- 'laws.FnDropFullNone': WHATEVER THE INPUT: true; the input reads as it did. -/
def fnDropFullNoneSpec : ChangeSpec := { name := "fnDropFullNone", fn := fun _ => fun
  | [d] => { results := [.lit (.bool true)], args := [d] }
  | _ => none }
def fnDropFullNoneRow : OpenClaim := { program := "ytjhioifohbpdhaa", sum := "dc204ffb1c2729b69ebb5b6ac2c0c7a2a78edebf9db54ab0916998e6fa0f84f2", func := "loop.example/satelliteclock/laws.FnDropFullNone", spec := "fnDropFullNone", unfollowed := true, recurses := true, apart := false }
def FnDropFullNoneSaid : Prop := fnDropFullNoneRow.holds Try.pinned (OpenSpec.ofChange fnDropFullNoneSpec)

/-- ITS FALSE NEIGHBOUR: 'it returns false'. Refute it at one input. -/
def fnDropFullNoneWrong : ChangeSpec := { name := "fnDropFullNone", fn := fun _ => fun
  | [d] => { results := [.lit (.bool false)], args := [d] }
  | _ => none }
def FnDropFullNoneWrongFalsely : Prop := fnDropFullNoneRow.holds Try.pinned (OpenSpec.ofChange fnDropFullNoneWrong)

/-- 'laws.FnTakeToken': WHATEVER THE INPUT: true; the input reads as it did. -/
def fnTakeTokenSpec : ChangeSpec := { name := "fnTakeToken", fn := fun _ => fun
  | [d] => { results := [.lit (.bool true)], args := [d] }
  | _ => none }
def fnTakeTokenRow : OpenClaim := { program := "ytjhioifohbpdhaa", sum := "dc204ffb1c2729b69ebb5b6ac2c0c7a2a78edebf9db54ab0916998e6fa0f84f2", func := "loop.example/satelliteclock/laws.FnTakeToken", spec := "fnTakeToken", inPlace := ["slices.overlaps[loop.example/satelliteclock/impl.Bucket]"], unfollowed := true, recurses := true, apart := false }
def FnTakeTokenSaid : Prop := fnTakeTokenRow.holds Try.pinned (OpenSpec.ofChange fnTakeTokenSpec)

/-- ITS FALSE NEIGHBOUR: 'it returns false'. Refute it at one input. -/
def fnTakeTokenWrong : ChangeSpec := { name := "fnTakeToken", fn := fun _ => fun
  | [d] => { results := [.lit (.bool false)], args := [d] }
  | _ => none }
def FnTakeTokenWrongFalsely : Prop := fnTakeTokenRow.holds Try.pinned (OpenSpec.ofChange fnTakeTokenWrong)

/-- 'laws.FnTakeTokenMany': WHATEVER THE INPUT: true; the input reads as it did. -/
def fnTakeTokenManySpec : ChangeSpec := { name := "fnTakeTokenMany", fn := fun _ => fun
  | [d] => { results := [.lit (.bool true)], args := [d] }
  | _ => none }
def fnTakeTokenManyRow : OpenClaim := { program := "ytjhioifohbpdhaa", sum := "dc204ffb1c2729b69ebb5b6ac2c0c7a2a78edebf9db54ab0916998e6fa0f84f2", func := "loop.example/satelliteclock/laws.FnTakeTokenMany", spec := "fnTakeTokenMany", inPlace := ["slices.overlaps[loop.example/satelliteclock/impl.Bucket]"], unfollowed := true, recurses := true, apart := false }
def FnTakeTokenManySaid : Prop := fnTakeTokenManyRow.holds Try.pinned (OpenSpec.ofChange fnTakeTokenManySpec)

/-- ITS FALSE NEIGHBOUR: 'it returns false'. Refute it at one input. -/
def fnTakeTokenManyWrong : ChangeSpec := { name := "fnTakeTokenMany", fn := fun _ => fun
  | [d] => { results := [.lit (.bool false)], args := [d] }
  | _ => none }
def FnTakeTokenManyWrongFalsely : Prop := fnTakeTokenManyRow.holds Try.pinned (OpenSpec.ofChange fnTakeTokenManyWrong)

/-- 'laws.FnTakeTokenOthers': WHATEVER THE INPUT: true; the input reads as it did. -/
def fnTakeTokenOthersSpec : ChangeSpec := { name := "fnTakeTokenOthers", fn := fun _ => fun
  | [d] => { results := [.lit (.bool true)], args := [d] }
  | _ => none }
def fnTakeTokenOthersRow : OpenClaim := { program := "ytjhioifohbpdhaa", sum := "dc204ffb1c2729b69ebb5b6ac2c0c7a2a78edebf9db54ab0916998e6fa0f84f2", func := "loop.example/satelliteclock/laws.FnTakeTokenOthers", spec := "fnTakeTokenOthers", inPlace := ["slices.overlaps[loop.example/satelliteclock/impl.Bucket]"], unfollowed := true, recurses := true, apart := false }
def FnTakeTokenOthersSaid : Prop := fnTakeTokenOthersRow.holds Try.pinned (OpenSpec.ofChange fnTakeTokenOthersSpec)

/-- ITS FALSE NEIGHBOUR: 'it returns false'. Refute it at one input. -/
def fnTakeTokenOthersWrong : ChangeSpec := { name := "fnTakeTokenOthers", fn := fun _ => fun
  | [d] => { results := [.lit (.bool false)], args := [d] }
  | _ => none }
def FnTakeTokenOthersWrongFalsely : Prop := fnTakeTokenOthersRow.holds Try.pinned (OpenSpec.ofChange fnTakeTokenOthersWrong)

/-- 'laws.FnTakeTokenWait': WHATEVER THE INPUT: true; the input reads as it did. -/
def fnTakeTokenWaitSpec : ChangeSpec := { name := "fnTakeTokenWait", fn := fun _ => fun
  | [d] => { results := [.lit (.bool true)], args := [d] }
  | _ => none }
def fnTakeTokenWaitRow : OpenClaim := { program := "ytjhioifohbpdhaa", sum := "dc204ffb1c2729b69ebb5b6ac2c0c7a2a78edebf9db54ab0916998e6fa0f84f2", func := "loop.example/satelliteclock/laws.FnTakeTokenWait", spec := "fnTakeTokenWait", inPlace := ["slices.overlaps[loop.example/satelliteclock/impl.Bucket]"], unfollowed := true, recurses := true, apart := false }
def FnTakeTokenWaitSaid : Prop := fnTakeTokenWaitRow.holds Try.pinned (OpenSpec.ofChange fnTakeTokenWaitSpec)

/-- ITS FALSE NEIGHBOUR: 'it returns false'. Refute it at one input. -/
def fnTakeTokenWaitWrong : ChangeSpec := { name := "fnTakeTokenWait", fn := fun _ => fun
  | [d] => { results := [.lit (.bool false)], args := [d] }
  | _ => none }
def FnTakeTokenWaitWrongFalsely : Prop := fnTakeTokenWaitRow.holds Try.pinned (OpenSpec.ofChange fnTakeTokenWaitWrong)

/-- 'laws.FnExactTakeToken': WHATEVER THE INPUT: true; the input reads as it did. -/
def fnExactTakeTokenSpec : ChangeSpec := { name := "fnExactTakeToken", fn := fun _ => fun
  | [d1, d2, d3] => { results := [.lit (.bool true)], args := [d1, d2, d3] }
  | _ => none }
def fnExactTakeTokenRow : OpenClaim := { program := "ytjhioifohbpdhaa", sum := "dc204ffb1c2729b69ebb5b6ac2c0c7a2a78edebf9db54ab0916998e6fa0f84f2", func := "loop.example/satelliteclock/laws.FnExactTakeToken", spec := "fnExactTakeToken", inPlace := ["slices.overlaps[loop.example/satelliteclock/impl.Bucket]"], unfollowed := true, recurses := true, apart := false }
def FnExactTakeTokenSaid : Prop := fnExactTakeTokenRow.holds Try.pinned (OpenSpec.ofChange fnExactTakeTokenSpec)

/-- ITS FALSE NEIGHBOUR: 'it returns false'. Refute it at one input. -/
def fnExactTakeTokenWrong : ChangeSpec := { name := "fnExactTakeToken", fn := fun _ => fun
  | [d1, d2, d3] => { results := [.lit (.bool false)], args := [d1, d2, d3] }
  | _ => none }
def FnExactTakeTokenWrongFalsely : Prop := fnExactTakeTokenRow.holds Try.pinned (OpenSpec.ofChange fnExactTakeTokenWrong)

/- THE SECOND FORM. 'bulk': how many values and letters a reading holds, each counted each time it is reached (what is shared counts as often as it is met; a slice's spare places count too). A statement '..UptoSaid' is the law's where the arguments, and the package variables that the reading takes, are together of bulk at most 1048576: NARROWER than '..Said'. Prove '..Said' where nothing that the law and all that it calls make is longer than what came in: it says more and counts as full. Else prove '..UptoSaid'. A law counts once. -/
mutual
def uptoBulk {H : Type} : DataW H → Nat
  | .lit (.string bytes) => bytes.length + 1
  | .lit _ => 1
  | .nil => 1
  | .ptr d => uptoBulk d + 1
  | .slice elems spare => uptoBulkAll elems + uptoBulkAll spare + 1
  | .agg parts => uptoBulkAll parts + 1
  | .iface _ d => uptoBulk d + 1
  | .map entries => uptoBulkEntries entries + 1
  | .held _ => 1
def uptoBulkAll {H : Type} : List (DataW H) → Nat
  | [] => 0
  | d :: r => uptoBulk d + uptoBulkAll r
def uptoBulkEntries {H : Type} : List (Lit × DataW H) → Nat
  | [] => 0
  | x :: r => uptoBulkEntry x + uptoBulkEntries r
def uptoBulkEntry {H : Type} : Lit × DataW H → Nat
  | (.string bytes, d) => bytes.length + uptoBulk d + 1
  | (_, d) => uptoBulk d + 1
 end
def uptoSmall : (H : Type) → List (DataW H) → Bool := fun _ ds => decide (uptoBulkAll ds ≤ 1048576)
def OpenSpec.upto (s : _root_.Go.ChangeSpec) : _root_.Go.OpenSpec := { _root_.Go.OpenSpec.ofChange s with cond := some uptoSmall }

/-- 'laws.FnExactValidBuckets', WHERE WHAT IT READS IS OF BULK AT MOST 1048576: true; the input reads as it did. -/
def fnExactValidBucketsUptoRow : OpenClaim := { program := "ytjhioifohbpdhaa", sum := "dc204ffb1c2729b69ebb5b6ac2c0c7a2a78edebf9db54ab0916998e6fa0f84f2", func := "loop.example/satelliteclock/laws.FnExactValidBuckets", spec := "fnExactValidBuckets", apart := false, narrowed := true }
def FnExactValidBucketsUptoSaid : Prop := fnExactValidBucketsUptoRow.holds Try.pinned (OpenSpec.upto fnExactValidBucketsSpec)

/-- 'laws.FnValidBuckets', WHERE WHAT IT READS IS OF BULK AT MOST 1048576: true; the input reads as it did. -/
def fnValidBucketsUptoRow : OpenClaim := { program := "ytjhioifohbpdhaa", sum := "dc204ffb1c2729b69ebb5b6ac2c0c7a2a78edebf9db54ab0916998e6fa0f84f2", func := "loop.example/satelliteclock/laws.FnValidBuckets", spec := "fnValidBuckets", apart := false, narrowed := true }
def FnValidBucketsUptoSaid : Prop := fnValidBucketsUptoRow.holds Try.pinned (OpenSpec.upto fnValidBucketsSpec)

/-- 'laws.FnExactTokensAt', WHERE WHAT IT READS IS OF BULK AT MOST 1048576: true; the input reads as it did. -/
def fnExactTokensAtUptoRow : OpenClaim := { program := "ytjhioifohbpdhaa", sum := "dc204ffb1c2729b69ebb5b6ac2c0c7a2a78edebf9db54ab0916998e6fa0f84f2", func := "loop.example/satelliteclock/laws.FnExactTokensAt", spec := "fnExactTokensAt", unfollowed := true, recurses := true, apart := false, narrowed := true }
def FnExactTokensAtUptoSaid : Prop := fnExactTokensAtUptoRow.holds Try.pinned (OpenSpec.upto fnExactTokensAtSpec)

/-- 'laws.FnTokensAt', WHERE WHAT IT READS IS OF BULK AT MOST 1048576: true; the input reads as it did. -/
def fnTokensAtUptoRow : OpenClaim := { program := "ytjhioifohbpdhaa", sum := "dc204ffb1c2729b69ebb5b6ac2c0c7a2a78edebf9db54ab0916998e6fa0f84f2", func := "loop.example/satelliteclock/laws.FnTokensAt", spec := "fnTokensAt", unfollowed := true, recurses := true, apart := false, narrowed := true }
def FnTokensAtUptoSaid : Prop := fnTokensAtUptoRow.holds Try.pinned (OpenSpec.upto fnTokensAtSpec)

/-- 'laws.FnTokensAtNew', WHERE WHAT IT READS IS OF BULK AT MOST 1048576: true; the input reads as it did. -/
def fnTokensAtNewUptoRow : OpenClaim := { program := "ytjhioifohbpdhaa", sum := "dc204ffb1c2729b69ebb5b6ac2c0c7a2a78edebf9db54ab0916998e6fa0f84f2", func := "loop.example/satelliteclock/laws.FnTokensAtNew", spec := "fnTokensAtNew", unfollowed := true, recurses := true, apart := false, narrowed := true }
def FnTokensAtNewUptoSaid : Prop := fnTokensAtNewUptoRow.holds Try.pinned (OpenSpec.upto fnTokensAtNewSpec)

/-- 'laws.FnExactDropFull', WHERE WHAT IT READS IS OF BULK AT MOST 1048576: true; the input reads as it did. -/
def fnExactDropFullUptoRow : OpenClaim := { program := "ytjhioifohbpdhaa", sum := "dc204ffb1c2729b69ebb5b6ac2c0c7a2a78edebf9db54ab0916998e6fa0f84f2", func := "loop.example/satelliteclock/laws.FnExactDropFull", spec := "fnExactDropFull", unfollowed := true, recurses := true, apart := false, narrowed := true }
def FnExactDropFullUptoSaid : Prop := fnExactDropFullUptoRow.holds Try.pinned (OpenSpec.upto fnExactDropFullSpec)

/-- 'laws.FnDropFull', WHERE WHAT IT READS IS OF BULK AT MOST 1048576: true; the input reads as it did. -/
def fnDropFullUptoRow : OpenClaim := { program := "ytjhioifohbpdhaa", sum := "dc204ffb1c2729b69ebb5b6ac2c0c7a2a78edebf9db54ab0916998e6fa0f84f2", func := "loop.example/satelliteclock/laws.FnDropFull", spec := "fnDropFull", unfollowed := true, recurses := true, apart := false, narrowed := true }
def FnDropFullUptoSaid : Prop := fnDropFullUptoRow.holds Try.pinned (OpenSpec.upto fnDropFullSpec)

/-- 'laws.FnDropFullNone', WHERE WHAT IT READS IS OF BULK AT MOST 1048576: true; the input reads as it did. -/
def fnDropFullNoneUptoRow : OpenClaim := { program := "ytjhioifohbpdhaa", sum := "dc204ffb1c2729b69ebb5b6ac2c0c7a2a78edebf9db54ab0916998e6fa0f84f2", func := "loop.example/satelliteclock/laws.FnDropFullNone", spec := "fnDropFullNone", unfollowed := true, recurses := true, apart := false, narrowed := true }
def FnDropFullNoneUptoSaid : Prop := fnDropFullNoneUptoRow.holds Try.pinned (OpenSpec.upto fnDropFullNoneSpec)

/-- 'laws.FnTakeToken', WHERE WHAT IT READS IS OF BULK AT MOST 1048576: true; the input reads as it did. -/
def fnTakeTokenUptoRow : OpenClaim := { program := "ytjhioifohbpdhaa", sum := "dc204ffb1c2729b69ebb5b6ac2c0c7a2a78edebf9db54ab0916998e6fa0f84f2", func := "loop.example/satelliteclock/laws.FnTakeToken", spec := "fnTakeToken", inPlace := ["slices.overlaps[loop.example/satelliteclock/impl.Bucket]"], unfollowed := true, recurses := true, apart := false, narrowed := true }
def FnTakeTokenUptoSaid : Prop := fnTakeTokenUptoRow.holds Try.pinned (OpenSpec.upto fnTakeTokenSpec)

/-- 'laws.FnTakeTokenMany', WHERE WHAT IT READS IS OF BULK AT MOST 1048576: true; the input reads as it did. -/
def fnTakeTokenManyUptoRow : OpenClaim := { program := "ytjhioifohbpdhaa", sum := "dc204ffb1c2729b69ebb5b6ac2c0c7a2a78edebf9db54ab0916998e6fa0f84f2", func := "loop.example/satelliteclock/laws.FnTakeTokenMany", spec := "fnTakeTokenMany", inPlace := ["slices.overlaps[loop.example/satelliteclock/impl.Bucket]"], unfollowed := true, recurses := true, apart := false, narrowed := true }
def FnTakeTokenManyUptoSaid : Prop := fnTakeTokenManyUptoRow.holds Try.pinned (OpenSpec.upto fnTakeTokenManySpec)

/-- 'laws.FnTakeTokenOthers', WHERE WHAT IT READS IS OF BULK AT MOST 1048576: true; the input reads as it did. -/
def fnTakeTokenOthersUptoRow : OpenClaim := { program := "ytjhioifohbpdhaa", sum := "dc204ffb1c2729b69ebb5b6ac2c0c7a2a78edebf9db54ab0916998e6fa0f84f2", func := "loop.example/satelliteclock/laws.FnTakeTokenOthers", spec := "fnTakeTokenOthers", inPlace := ["slices.overlaps[loop.example/satelliteclock/impl.Bucket]"], unfollowed := true, recurses := true, apart := false, narrowed := true }
def FnTakeTokenOthersUptoSaid : Prop := fnTakeTokenOthersUptoRow.holds Try.pinned (OpenSpec.upto fnTakeTokenOthersSpec)

/-- 'laws.FnTakeTokenWait', WHERE WHAT IT READS IS OF BULK AT MOST 1048576: true; the input reads as it did. -/
def fnTakeTokenWaitUptoRow : OpenClaim := { program := "ytjhioifohbpdhaa", sum := "dc204ffb1c2729b69ebb5b6ac2c0c7a2a78edebf9db54ab0916998e6fa0f84f2", func := "loop.example/satelliteclock/laws.FnTakeTokenWait", spec := "fnTakeTokenWait", inPlace := ["slices.overlaps[loop.example/satelliteclock/impl.Bucket]"], unfollowed := true, recurses := true, apart := false, narrowed := true }
def FnTakeTokenWaitUptoSaid : Prop := fnTakeTokenWaitUptoRow.holds Try.pinned (OpenSpec.upto fnTakeTokenWaitSpec)

/-- 'laws.FnExactTakeToken', WHERE WHAT IT READS IS OF BULK AT MOST 1048576: true; the input reads as it did. -/
def fnExactTakeTokenUptoRow : OpenClaim := { program := "ytjhioifohbpdhaa", sum := "dc204ffb1c2729b69ebb5b6ac2c0c7a2a78edebf9db54ab0916998e6fa0f84f2", func := "loop.example/satelliteclock/laws.FnExactTakeToken", spec := "fnExactTakeToken", inPlace := ["slices.overlaps[loop.example/satelliteclock/impl.Bucket]"], unfollowed := true, recurses := true, apart := false, narrowed := true }
def FnExactTakeTokenUptoSaid : Prop := fnExactTakeTokenUptoRow.holds Try.pinned (OpenSpec.upto fnExactTakeTokenSpec)

end Rows
end Go.Proofs.Ytjhioifohbpdhaa
