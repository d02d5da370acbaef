/- Proved: the program's PollSeconds returns what the reference's returns, for all arguments (FnExactPollSeconds); no condition beyond the statement's own. -/
import Derived.Test.YtgoneahlhglcoaaPFnExactPollSecondsx
import Derived.Laws.BitsLemmas
import Derived.Laws.Bits64
namespace Go.Proofs.Ytgoneahlhglcoaa.Pure
open Go Go.RowKit Go.Proofs.Ytgoneahlhglcoaa.PFnExactPollSeconds Go.Proofs.YtgoneahlhglcoaaW.PrintWords Go.Proofs.YtgoneahlhglcoaaW.PrintLast Go.Proofs.YtgoneahlhglcoaaW.PrintMore

namespace KFnExactPollSeconds
theorem w64 {x : Int} (h1 : -9223372036854775808 ≤ x) (h2 : x < 9223372036854775808) : wrap64 x = x := by unfold wrap64; omega
theorem i64wrap (x : Int) : IntKind.i64.wrap x = wrap64 x := by rw [IntKind.wrap_i64]; unfold wrap64; rfl
theorem tm {a b : Int} (h : 0 ≤ a) : Int.tmod a b = a % b := Int.tmod_eq_emod_of_nonneg h
theorem td {a b : Int} (h : 0 ≤ a) : Int.tdiv a b = a / b := Int.tdiv_eq_ediv_of_nonneg h
theorem sval {α : Type} {x : Option α} {a : α} (h : x = some a) {β : Type} (f : α → Option β) : x.bind f = f a := by rw [h]; rfl
def inPoll (p c : Int) : Bool := decide (4 ≤ p ∧ p ≤ 10 ∧ -30 ≤ c ∧ c ≤ 30)
theorem inPoll_iff (p c : Int) : inPoll p c = true ↔ 4 ≤ p ∧ p ≤ 10 ∧ -30 ≤ c ∧ c ≤ 30 := by simp [inPoll]
theorem within_eq (n lo hi : Int) : impl_within.f n lo hi = some (decide (lo ≤ n ∧ n ≤ hi)) := by
  unfold impl_within.f
  by_cases h : lo ≤ n <;> simp [h]
theorem validPoll_i (p c : Int) : impl_ValidPoll.f p c = some (inPoll p c) := by
  unfold impl_ValidPoll.f inPoll
  rw [within_eq, within_eq]
  by_cases h : 4 ≤ p ∧ p ≤ 10 <;> simp [h] <;> omega
theorem inRange_eq (n lo hi : Int) : spec_inRange.f n lo hi = some (decide (lo ≤ n ∧ n ≤ hi)) := by
  unfold spec_inRange.f
  by_cases h : lo ≤ n <;> simp [h]
theorem validPoll_s (p c : Int) : spec_validPoll.f p c = some (inPoll p c) := by
  unfold spec_validPoll.f inPoll
  rw [inRange_eq, inRange_eq]
  by_cases h : 4 ≤ p ∧ p ≤ 10 <;> simp [h] <;> omega
/-- Two to the power of a valid state. -/
def secs (p c : Int) : Int := if inPoll p c = true then shl .i64 1 p else -1
theorem shl_at (p : Int) (h : 4 ≤ p ∧ p ≤ 10) : 16 ≤ shl .i64 1 p ∧ shl .i64 1 p ≤ 1024 ∧ (p ≤ 9 → shl .i64 1 (p + 1) = 2 * shl .i64 1 p) := by
  rcases (by omega : p = 4 ∨ p = 5 ∨ p = 6 ∨ p = 7 ∨ p = 8 ∨ p = 9 ∨ p = 10) with rfl | rfl | rfl | rfl | rfl | rfl | rfl <;> decide
theorem secs_i (p c : Int) : impl_PollSeconds.f p c = some (secs p c) := by
  unfold impl_PollSeconds.f secs
  rw [validPoll_i]
  simp only [Option.bind_some]
  by_cases h : inPoll p c = true
  · have h' := (inPoll_iff p c).1 h
    have e : IntKind.u64.wrap p = p := by rw [IntKind.wrap_u64]; omega
    rw [if_pos h, if_pos h, e, if_pos (by omega)]
  · rw [if_neg h, if_neg h]
theorem secs_s (p c : Int) : spec_PollSeconds.f p c = some (secs p c) := by
  unfold spec_PollSeconds.f secs
  rw [validPoll_s]
  simp only [Option.bind_some]
  by_cases h : inPoll p c = true
  · have h' := (inPoll_iff p c).1 h
    rw [if_pos h, if_pos h, if_pos (by omega)]
  · rw [if_neg h, if_neg h]
end KFnExactPollSeconds
open KFnExactPollSeconds
theorem FnExactPollSeconds (p c : Int) : laws_FnExactPollSeconds.f p c = some true := by
  unfold laws_FnExactPollSeconds.f laws_toPoll.f
  simp [secs_i, secs_s]

end Go.Proofs.Ytgoneahlhglcoaa.Pure
