/- Proved: the program's NextPoll returns what the reference's returns, for all arguments (FnExactNextPoll); no condition beyond the statement's own. -/
import Derived.Test.YtgoneahlhglcoaaPFnExactNextPollx
import Derived.Laws.BitsLemmas
namespace Go.Proofs.Ytgoneahlhglcoaa.Pure
open Go Go.RowKit Go.Proofs.Ytgoneahlhglcoaa.PFnExactNextPoll Go.Proofs.YtgoneahlhglcoaaW.PrintWords Go.Proofs.YtgoneahlhglcoaaW.PrintLast Go.Proofs.YtgoneahlhglcoaaW.PrintMore

namespace KFnExactNextPoll
theorem w64 {x : Int} (h1 : -9223372036854775808 ≤ x) (h2 : x < 9223372036854775808) : wrap64 x = x := by unfold wrap64; omega
theorem i64wrap (x : Int) : IntKind.i64.wrap x = wrap64 x := by rw [IntKind.wrap_i64]; unfold wrap64; rfl
theorem tm {a b : Int} (h : 0 ≤ a) : Int.tmod a b = a % b := Int.tmod_eq_emod_of_nonneg h
theorem td {a b : Int} (h : 0 ≤ a) : Int.tdiv a b = a / b := Int.tdiv_eq_ediv_of_nonneg h
theorem sval {α : Type} {x : Option α} {a : α} (h : x = some a) {β : Type} (f : α → Option β) : x.bind f = f a := by rw [h]; rfl
def inPoll (p c : Int) : Bool := decide (4 ≤ p ∧ p ≤ 10 ∧ -30 ≤ c ∧ c ≤ 30)
theorem inPoll_iff (p c : Int) : inPoll p c = true ↔ 4 ≤ p ∧ p ≤ 10 ∧ -30 ≤ c ∧ c ≤ 30 := by simp [inPoll]
theorem within_eq (n lo hi : Int) : impl_within.f n lo hi = some (decide (lo ≤ n ∧ n ≤ hi)) := by
  unfold impl_within.f
  by_cases h : lo ≤ n <;> simp [h]
theorem validPoll_i (p c : Int) : impl_ValidPoll.f p c = some (inPoll p c) := by
  unfold impl_ValidPoll.f inPoll
  rw [within_eq, within_eq]
  by_cases h : 4 ≤ p ∧ p ≤ 10 <;> simp [h] <;> omega
theorem inRange_eq (n lo hi : Int) : spec_inRange.f n lo hi = some (decide (lo ≤ n ∧ n ≤ hi)) := by
  unfold spec_inRange.f
  by_cases h : lo ≤ n <;> simp [h]
theorem validPoll_s (p c : Int) : spec_validPoll.f p c = some (inPoll p c) := by
  unfold spec_validPoll.f inPoll
  rw [inRange_eq, inRange_eq]
  by_cases h : 4 ≤ p ∧ p ≤ 10 <;> simp [h] <;> omega
/-- What a poll makes of a state. -/
def nxt (p c o j : Int) : Int × Int × Bool :=
  if inPoll p c = true ∧ (-1000000 ≤ o ∧ o ≤ 1000000) ∧ 0 ≤ j ∧ j ≤ 1000000 then
    if mx o (-o) ≤ 4 * j then (if c + p ≥ 30 then (mn (p + 1) 10, 0, true) else (p, c + p, true))
    else (if c - 2 * p ≤ -30 then (mx (p - 1) 4, 0, true) else (p, c - 2 * p, true))
  else (0, 0, false)
theorem next_i {k : Nat} (hk : 1 ≤ k) (p c o j : Int) : impl_NextPoll.f k p c o j = some (nxt p c o j) := by
  obtain ⟨k, rfl⟩ : ∃ m, k = m + 1 := ⟨k - 1, by omega⟩
  unfold impl_NextPoll.f nxt impl_isOffset.f
  simp only [validPoll_i, within_eq, Option.bind_some]
  by_cases h1 : inPoll p c = true
  · have h' := (inPoll_iff p c).1 h1
    by_cases h2 : -1000000 ≤ o ∧ o ≤ 1000000
    · by_cases h3 : 0 ≤ j ∧ j ≤ 1000000
      · rw [if_pos h1, if_pos (by simp [h2]), if_pos ⟨h1, h2, h3⟩]
        simp only [impl_NextPoll.j0]
        rw [if_neg (by simp [h3])]
        unfold impl_apart.f
        simp only [Option.bind_some]
        rw [w64 (x := o - 0) (by omega) (by omega), w64 (x := 0 - o) (by omega) (by omega), w64 (x := 4 * j) (by omega) (by omega), w64 (x := c + p) (by omega) (by omega), w64 (x := p + 1) (by omega) (by omega), w64 (x := 2 * p) (by omega) (by omega), w64 (x := c - 2 * p) (by omega) (by omega), w64 (x := p - 1) (by omega) (by omega), show o - 0 = o by omega, show 0 - o = -o by omega]
        split <;> split <;> rfl
      · rw [if_pos h1, if_pos (by simp [h2]), if_neg (by omega)]
        simp only [impl_NextPoll.j0]
        rw [if_pos (by simp; omega)]
    · rw [if_pos h1, if_neg (by simp; omega), if_neg (by omega)]
      simp only [impl_NextPoll.j0, if_true]
  · rw [if_neg h1, if_neg (fun h => h1 h.1)]
    simp only [impl_NextPoll.j0, if_true]
theorem next_s {k : Nat} (hk : 1 ≤ k) (p c o j : Int) : spec_NextPoll.f k p c o j = some (nxt p c o j) := by
  obtain ⟨k, rfl⟩ : ∃ m, k = m + 1 := ⟨k - 1, by omega⟩
  unfold spec_NextPoll.f nxt
  simp only [validPoll_s, inRange_eq, Option.bind_some]
  by_cases h1 : inPoll p c = true
  · have h' := (inPoll_iff p c).1 h1
    by_cases h2 : -1000000 ≤ o ∧ o ≤ 1000000
    · by_cases h3 : 0 ≤ j ∧ j ≤ 1000000
      · rw [if_pos h1, if_pos (by simp [h2]), if_pos ⟨h1, h2, h3⟩]
        simp only [spec_NextPoll.j0]
        rw [if_neg (by simp [h3])]
        unfold spec_size.f
        simp only [Option.bind_some]
        rw [w64 (x := -o) (by omega) (by omega), w64 (x := 4 * j) (by omega) (by omega), w64 (x := c + p) (by omega) (by omega), w64 (x := p + 1) (by omega) (by omega), w64 (x := 2 * p) (by omega) (by omega), w64 (x := c - 2 * p) (by omega) (by omega), w64 (x := p - 1) (by omega) (by omega)]
        split <;> split <;> rfl
      · rw [if_pos h1, if_pos (by simp [h2]), if_neg (by omega)]
        simp only [spec_NextPoll.j0]
        rw [if_pos (by simp; omega)]
    · rw [if_pos h1, if_neg (by simp; omega), if_neg (by omega)]
      simp only [spec_NextPoll.j0, if_true]
  · rw [if_neg h1, if_neg (fun h => h1 h.1)]
    simp only [spec_NextPoll.j0, if_true]
/-- What is told is a valid state, no more than one power away. -/
theorem nxt_good {p c o j : Int} (h : (nxt p c o j).2.2 = true) :
    inPoll p c = true ∧ inPoll (nxt p c o j).1 (nxt p c o j).2.1 = true ∧ p - 1 ≤ (nxt p c o j).1 ∧ (nxt p c o j).1 ≤ p + 1 ∧ ((nxt p c o j).1 = p ∨ (nxt p c o j).2.1 = 0) ∧ (o = 0 → p ≤ (nxt p c o j).1) ∧ (o = 900000 → j = 0 → (nxt p c o j).1 ≤ p) := by
  unfold nxt at h ⊢
  by_cases h1 : inPoll p c = true ∧ (-1000000 ≤ o ∧ o ≤ 1000000) ∧ 0 ≤ j ∧ j ≤ 1000000
  · rw [if_pos h1] at h ⊢
    have h' := (inPoll_iff p c).1 h1.1
    refine ⟨h1.1, ?_⟩
    have hz : o = 0 → mx o (-o) ≤ 4 * j := fun e => by subst e; unfold mx; split <;> omega
    have hb : o = 900000 → j = 0 → ¬ mx o (-o) ≤ 4 * j := fun e e' => by subst e; subst e'; decide
    have m1 : mn (p + 1) 10 ≤ 10 ∧ mn (p + 1) 10 ≤ p + 1 ∧ p ≤ mn (p + 1) 10 := by unfold mn; split <;> omega
    have m2 : 4 ≤ mx (p - 1) 4 ∧ p - 1 ≤ mx (p - 1) 4 ∧ mx (p - 1) 4 ≤ p := by unfold mx; split <;> omega
    generalize mn (p + 1) 10 = u at *
    generalize mx (p - 1) 4 = v at *
    clear h
    by_cases a1 : mx o (-o) ≤ 4 * j
    · rw [if_pos a1]
      by_cases a2 : c + p ≥ 30
      · rw [if_pos a2]
        simp only [inPoll_iff]
        exact ⟨by omega, by omega, by omega, .inr trivial, by omega, fun e e' => absurd a1 (hb e e')⟩
      · rw [if_neg a2]
        simp only [inPoll_iff]
        exact ⟨by omega, by omega, by omega, .inl trivial, by omega, by omega⟩
    · rw [if_neg a1]
      by_cases a2 : c - 2 * p ≤ -30
      · rw [if_pos a2]
        simp only [inPoll_iff]
        exact ⟨by omega, by omega, by omega, .inr trivial, fun e => absurd (hz e) a1, by omega⟩
      · rw [if_neg a2]
        simp only [inPoll_iff]
        exact ⟨by omega, by omega, by omega, .inl trivial, by omega, by omega⟩
  · rw [if_neg h1] at h
    exact absurd h (by simp)
theorem nxt_told (p c o j : Int) : (nxt p c o j).2.2 = true ↔ inPoll p c = true ∧ (-1000000 ≤ o ∧ o ≤ 1000000) ∧ 0 ≤ j ∧ j ≤ 1000000 := by
  unfold nxt
  split
  · rename_i h
    split <;> split <;> simp [h]
  · rename_i h
    simp only [Bool.false_eq_true, false_iff]
    exact h
theorem nxt_neg (p c o j : Int) : nxt p c (-o) j = nxt p c o j := by
  have e : mx (-o) (- -o) = mx o (-o) := by unfold mx; split <;> split <;> omega
  unfold nxt
  rw [e]
  by_cases h : inPoll p c = true ∧ (-1000000 ≤ o ∧ o ≤ 1000000) ∧ 0 ≤ j ∧ j ≤ 1000000
  · rw [if_pos h, if_pos ⟨h.1, by omega, h.2.2⟩]
  · rw [if_neg h, if_neg (fun g => h ⟨g.1, by omega, g.2.2⟩)]
end KFnExactNextPoll
open KFnExactNextPoll
theorem FnExactNextPoll (p c o j : Int) : ∃ k, laws_FnExactNextPoll.f k p c o j = some true := by
  refine ⟨1, ?_⟩
  unfold laws_FnExactNextPoll.f laws_toPoll.f laws_eqPoll.f
  simp only [Option.bind_some]
  rw [next_i (by omega), next_s (by omega)]
  simp

end Go.Proofs.Ytgoneahlhglcoaa.Pure
