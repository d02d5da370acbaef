/- Proved: the program's ValidPoll returns what the reference's returns, for all arguments (FnExactValidPoll); no condition beyond the statement's own. -/
import Derived.Test.YtgoneahlhglcoaaPFnExactValidPollx
import Derived.Laws.BitsLemmas
namespace Go.Proofs.Ytgoneahlhglcoaa.Pure
open Go Go.RowKit Go.Proofs.Ytgoneahlhglcoaa.PFnExactValidPoll Go.Proofs.YtgoneahlhglcoaaW.PrintWords Go.Proofs.YtgoneahlhglcoaaW.PrintLast Go.Proofs.YtgoneahlhglcoaaW.PrintMore

namespace KFnExactValidPoll
def inPoll (p c : Int) : Bool := decide (4 ≤ p ∧ p ≤ 10 ∧ -30 ≤ c ∧ c ≤ 30)
theorem inPoll_iff (p c : Int) : inPoll p c = true ↔ 4 ≤ p ∧ p ≤ 10 ∧ -30 ≤ c ∧ c ≤ 30 := by simp [inPoll]
theorem within_eq (n lo hi : Int) : impl_within.f n lo hi = some (decide (lo ≤ n ∧ n ≤ hi)) := by
  unfold impl_within.f
  by_cases h : lo ≤ n <;> simp [h]
theorem validPoll_i (p c : Int) : impl_ValidPoll.f p c = some (inPoll p c) := by
  unfold impl_ValidPoll.f inPoll
  rw [within_eq, within_eq]
  by_cases h : 4 ≤ p ∧ p ≤ 10 <;> simp [h] <;> omega
theorem inRange_eq (n lo hi : Int) : spec_inRange.f n lo hi = some (decide (lo ≤ n ∧ n ≤ hi)) := by
  unfold spec_inRange.f
  by_cases h : lo ≤ n <;> simp [h]
theorem validPoll_s (p c : Int) : spec_validPoll.f p c = some (inPoll p c) := by
  unfold spec_validPoll.f inPoll
  rw [inRange_eq, inRange_eq]
  by_cases h : 4 ≤ p ∧ p ≤ 10 <;> simp [h] <;> omega
theorem validPoll_S (p c : Int) : spec_ValidPoll.f p c = some (inPoll p c) := by
  unfold spec_ValidPoll.f
  rw [validPoll_s]
  rfl
end KFnExactValidPoll
open KFnExactValidPoll
theorem FnExactValidPoll (p c : Int) : laws_FnExactValidPoll.f p c = some true := by
  unfold laws_FnExactValidPoll.f laws_toPoll.f
  simp [validPoll_i, validPoll_S]

end Go.Proofs.Ytgoneahlhglcoaa.Pure
