/- Proved: the program's RunPolls returns what the reference's returns, for all arguments (FnExactRunPolls); no condition beyond the statement's own. -/
import Derived.Test.YtgoneahlhglcoaaPFnExactRunPollsx
import Derived.Laws.BitsLemmas
import Derived.Laws.Bits64
namespace Go.Proofs.Ytgoneahlhglcoaa.Pure
open Go Go.RowKit Go.Proofs.Ytgoneahlhglcoaa.PFnExactRunPolls Go.Proofs.YtgoneahlhglcoaaW.PrintWords Go.Proofs.YtgoneahlhglcoaaW.PrintLast Go.Proofs.YtgoneahlhglcoaaW.PrintMore

namespace KFnExactRunPolls
theorem w64 {x : Int} (h1 : -9223372036854775808 ≤ x) (h2 : x < 9223372036854775808) : wrap64 x = x := by unfold wrap64; omega
theorem i64wrap (x : Int) : IntKind.i64.wrap x = wrap64 x := by rw [IntKind.wrap_i64]; unfold wrap64; rfl
theorem tm {a b : Int} (h : 0 ≤ a) : Int.tmod a b = a % b := Int.tmod_eq_emod_of_nonneg h
theorem td {a b : Int} (h : 0 ≤ a) : Int.tdiv a b = a / b := Int.tdiv_eq_ediv_of_nonneg h
theorem sval {α : Type} {x : Option α} {a : α} (h : x = some a) {β : Type} (f : α → Option β) : x.bind f = f a := by rw [h]; rfl
def inPoll (p c : Int) : Bool := decide (4 ≤ p ∧ p ≤ 10 ∧ -30 ≤ c ∧ c ≤ 30)
theorem inPoll_iff (p c : Int) : inPoll p c = true ↔ 4 ≤ p ∧ p ≤ 10 ∧ -30 ≤ c ∧ c ≤ 30 := by simp [inPoll]
theorem within_eq (n lo hi : Int) : impl_within.f n lo hi = some (decide (lo ≤ n ∧ n ≤ hi)) := by
  unfold impl_within.f
  by_cases h : lo ≤ n <;> simp [h]
theorem validPoll_i (p c : Int) : impl_ValidPoll.f p c = some (inPoll p c) := by
  unfold impl_ValidPoll.f inPoll
  rw [within_eq, within_eq]
  by_cases h : 4 ≤ p ∧ p ≤ 10 <;> simp [h] <;> omega
theorem inRange_eq (n lo hi : Int) : spec_inRange.f n lo hi = some (decide (lo ≤ n ∧ n ≤ hi)) := by
  unfold spec_inRange.f
  by_cases h : lo ≤ n <;> simp [h]
theorem validPoll_s (p c : Int) : spec_validPoll.f p c = some (inPoll p c) := by
  unfold spec_validPoll.f inPoll
  rw [inRange_eq, inRange_eq]
  by_cases h : 4 ≤ p ∧ p ≤ 10 <;> simp [h] <;> omega
/-- Two to the power of a valid state. -/
def secs (p c : Int) : Int := if inPoll p c = true then shl .i64 1 p else -1
theorem shl_at (p : Int) (h : 4 ≤ p ∧ p ≤ 10) : 16 ≤ shl .i64 1 p ∧ shl .i64 1 p ≤ 1024 ∧ (p ≤ 9 → shl .i64 1 (p + 1) = 2 * shl .i64 1 p) := by
  rcases (by omega : p = 4 ∨ p = 5 ∨ p = 6 ∨ p = 7 ∨ p = 8 ∨ p = 9 ∨ p = 10) with rfl | rfl | rfl | rfl | rfl | rfl | rfl <;> decide
theorem secs_i (p c : Int) : impl_PollSeconds.f p c = some (secs p c) := by
  unfold impl_PollSeconds.f secs
  rw [validPoll_i]
  simp only [Option.bind_some]
  by_cases h : inPoll p c = true
  · have h' := (inPoll_iff p c).1 h
    have e : IntKind.u64.wrap p = p := by rw [IntKind.wrap_u64]; omega
    rw [if_pos h, if_pos h, e, if_pos (by omega)]
  · rw [if_neg h, if_neg h]
theorem secs_s (p c : Int) : spec_PollSeconds.f p c = some (secs p c) := by
  unfold spec_PollSeconds.f secs
  rw [validPoll_s]
  simp only [Option.bind_some]
  by_cases h : inPoll p c = true
  · have h' := (inPoll_iff p c).1 h
    rw [if_pos h, if_pos h, if_pos (by omega)]
  · rw [if_neg h, if_neg h]
/-- What a poll makes of a state. -/
def nxt (p c o j : Int) : Int × Int × Bool :=
  if inPoll p c = true ∧ (-1000000 ≤ o ∧ o ≤ 1000000) ∧ 0 ≤ j ∧ j ≤ 1000000 then
    if mx o (-o) ≤ 4 * j then (if c + p ≥ 30 then (mn (p + 1) 10, 0, true) else (p, c + p, true))
    else (if c - 2 * p ≤ -30 then (mx (p - 1) 4, 0, true) else (p, c - 2 * p, true))
  else (0, 0, false)
theorem next_i {k : Nat} (hk : 1 ≤ k) (p c o j : Int) : impl_NextPoll.f k p c o j = some (nxt p c o j) := by
  obtain ⟨k, rfl⟩ : ∃ m, k = m + 1 := ⟨k - 1, by omega⟩
  unfold impl_NextPoll.f nxt impl_isOffset.f
  simp only [validPoll_i, within_eq, Option.bind_some]
  by_cases h1 : inPoll p c = true
  · have h' := (inPoll_iff p c).1 h1
    by_cases h2 : -1000000 ≤ o ∧ o ≤ 1000000
    · by_cases h3 : 0 ≤ j ∧ j ≤ 1000000
      · rw [if_pos h1, if_pos (by simp [h2]), if_pos ⟨h1, h2, h3⟩]
        simp only [impl_NextPoll.j0]
        rw [if_neg (by simp [h3])]
        unfold impl_apart.f
        simp only [Option.bind_some]
        rw [w64 (x := o - 0) (by omega) (by omega), w64 (x := 0 - o) (by omega) (by omega), w64 (x := 4 * j) (by omega) (by omega), w64 (x := c + p) (by omega) (by omega), w64 (x := p + 1) (by omega) (by omega), w64 (x := 2 * p) (by omega) (by omega), w64 (x := c - 2 * p) (by omega) (by omega), w64 (x := p - 1) (by omega) (by omega), show o - 0 = o by omega, show 0 - o = -o by omega]
        split <;> split <;> rfl
      · rw [if_pos h1, if_pos (by simp [h2]), if_neg (by omega)]
        simp only [impl_NextPoll.j0]
        rw [if_pos (by simp; omega)]
    · rw [if_pos h1, if_neg (by simp; omega), if_neg (by omega)]
      simp only [impl_NextPoll.j0, if_true]
  · rw [if_neg h1, if_neg (fun h => h1 h.1)]
    simp only [impl_NextPoll.j0, if_true]
theorem next_s {k : Nat} (hk : 1 ≤ k) (p c o j : Int) : spec_NextPoll.f k p c o j = some (nxt p c o j) := by
  obtain ⟨k, rfl⟩ : ∃ m, k = m + 1 := ⟨k - 1, by omega⟩
  unfold spec_NextPoll.f nxt
  simp only [validPoll_s, inRange_eq, Option.bind_some]
  by_cases h1 : inPoll p c = true
  · have h' := (inPoll_iff p c).1 h1
    by_cases h2 : -1000000 ≤ o ∧ o ≤ 1000000
    · by_cases h3 : 0 ≤ j ∧ j ≤ 1000000
      · rw [if_pos h1, if_pos (by simp [h2]), if_pos ⟨h1, h2, h3⟩]
        simp only [spec_NextPoll.j0]
        rw [if_neg (by simp [h3])]
        unfold spec_size.f
        simp only [Option.bind_some]
        rw [w64 (x := -o) (by omega) (by omega), w64 (x := 4 * j) (by omega) (by omega), w64 (x := c + p) (by omega) (by omega), w64 (x := p + 1) (by omega) (by omega), w64 (x := 2 * p) (by omega) (by omega), w64 (x := c - 2 * p) (by omega) (by omega), w64 (x := p - 1) (by omega) (by omega)]
        split <;> split <;> rfl
      · rw [if_pos h1, if_pos (by simp [h2]), if_neg (by omega)]
        simp only [spec_NextPoll.j0]
        rw [if_pos (by simp; omega)]
    · rw [if_pos h1, if_neg (by simp; omega), if_neg (by omega)]
      simp only [spec_NextPoll.j0, if_true]
  · rw [if_neg h1, if_neg (fun h => h1 h.1)]
    simp only [spec_NextPoll.j0, if_true]
/-- What is told is a valid state, no more than one power away. -/
theorem nxt_good {p c o j : Int} (h : (nxt p c o j).2.2 = true) :
    inPoll p c = true ∧ inPoll (nxt p c o j).1 (nxt p c o j).2.1 = true ∧ p - 1 ≤ (nxt p c o j).1 ∧ (nxt p c o j).1 ≤ p + 1 ∧ ((nxt p c o j).1 = p ∨ (nxt p c o j).2.1 = 0) ∧ (o = 0 → p ≤ (nxt p c o j).1) ∧ (o = 900000 → j = 0 → (nxt p c o j).1 ≤ p) := by
  unfold nxt at h ⊢
  by_cases h1 : inPoll p c = true ∧ (-1000000 ≤ o ∧ o ≤ 1000000) ∧ 0 ≤ j ∧ j ≤ 1000000
  · rw [if_pos h1] at h ⊢
    have h' := (inPoll_iff p c).1 h1.1
    refine ⟨h1.1, ?_⟩
    have hz : o = 0 → mx o (-o) ≤ 4 * j := fun e => by subst e; unfold mx; split <;> omega
    have hb : o = 900000 → j = 0 → ¬ mx o (-o) ≤ 4 * j := fun e e' => by subst e; subst e'; decide
    have m1 : mn (p + 1) 10 ≤ 10 ∧ mn (p + 1) 10 ≤ p + 1 ∧ p ≤ mn (p + 1) 10 := by unfold mn; split <;> omega
    have m2 : 4 ≤ mx (p - 1) 4 ∧ p - 1 ≤ mx (p - 1) 4 ∧ mx (p - 1) 4 ≤ p := by unfold mx; split <;> omega
    generalize mn (p + 1) 10 = u at *
    generalize mx (p - 1) 4 = v at *
    clear h
    by_cases a1 : mx o (-o) ≤ 4 * j
    · rw [if_pos a1]
      by_cases a2 : c + p ≥ 30
      · rw [if_pos a2]
        simp only [inPoll_iff]
        exact ⟨by omega, by omega, by omega, .inr trivial, by omega, fun e e' => absurd a1 (hb e e')⟩
      · rw [if_neg a2]
        simp only [inPoll_iff]
        exact ⟨by omega, by omega, by omega, .inl trivial, by omega, by omega⟩
    · rw [if_neg a1]
      by_cases a2 : c - 2 * p ≤ -30
      · rw [if_pos a2]
        simp only [inPoll_iff]
        exact ⟨by omega, by omega, by omega, .inr trivial, fun e => absurd (hz e) a1, by omega⟩
      · rw [if_neg a2]
        simp only [inPoll_iff]
        exact ⟨by omega, by omega, by omega, .inl trivial, by omega, by omega⟩
  · rw [if_neg h1] at h
    exact absurd h (by simp)
theorem nxt_told (p c o j : Int) : (nxt p c o j).2.2 = true ↔ inPoll p c = true ∧ (-1000000 ≤ o ∧ o ≤ 1000000) ∧ 0 ≤ j ∧ j ≤ 1000000 := by
  unfold nxt
  split
  · rename_i h
    split <;> split <;> simp [h]
  · rename_i h
    simp only [Bool.false_eq_true, false_iff]
    exact h
theorem nxt_neg (p c o j : Int) : nxt p c (-o) j = nxt p c o j := by
  have e : mx (-o) (- -o) = mx o (-o) := by unfold mx; split <;> split <;> omega
  unfold nxt
  rw [e]
  by_cases h : inPoll p c = true ∧ (-1000000 ≤ o ∧ o ≤ 1000000) ∧ 0 ≤ j ∧ j ≤ 1000000
  · rw [if_pos h, if_pos ⟨h.1, by omega, h.2.2⟩]
  · rw [if_neg h, if_neg (fun g => h ⟨g.1, by omega, g.2.2⟩)]
theorem fill_step {α : Type} (l : List α) (z v : α) (i : Nat) (h : i < l.length) (hv : v = l[i]) : (l.take i ++ List.replicate (l.length - i) z).set i v = l.take (i + 1) ++ List.replicate (l.length - (i + 1)) z := by
  have e : l.length - i = (l.length - (i + 1)) + 1 := by omega
  have ht : (l.take i).length = i := by rw [List.length_take]; omega
  rw [List.set_append_right i v (by omega), ht, Nat.sub_self, e, List.replicate_succ, List.set_cons_zero, hv, show List.take (i + 1) l = List.take i l ++ [l[i]] from List.take_succ_eq_append_getElem h, List.append_assoc]
  rfl
theorem fill_end {α : Type} (l : List α) (z : α) : l.take l.length ++ List.replicate (l.length - l.length) z = l := by simp
theorem rd_at (l : List Int) (i : Nat) (h : i < l.length) : rd l (i : Int) = l[i] := by unfold rd; simp [List.getD_eq_getElem?_getD, h]
theorem toIntS_l (l : List Int) (hl : l.length ≤ 1048576) (d : Nat) : ∀ (i k : Nat), i + d = l.length → d < k → laws_toIntS.l0 k l (l.take i ++ List.replicate (l.length - i) 0) (i : Int) = some l := by
  induction d with
  | zero =>
    intro i k h hk
    obtain ⟨k, rfl⟩ : ∃ m, k = m + 1 := ⟨k - 1, by omega⟩
    obtain rfl : i = l.length := by omega
    simp only [laws_toIntS.l0]
    rw [if_neg (by omega), fill_end]
  | succ d ih =>
    intro i k h hk
    obtain ⟨k, rfl⟩ : ∃ m, k = m + 1 := ⟨k - 1, by omega⟩
    simp only [laws_toIntS.l0]
    rw [if_pos (by omega), if_pos (by omega), if_pos (by simp; omega), w64 (by omega) (by omega), Int.toNat_natCast, fill_step l 0 _ i (by omega) (rd_at l i (by omega))]
    exact ih (i + 1) k (by omega) (by omega)
theorem toIntS_ok {k : Nat} (l : List Int) (hl : l.length ≤ 1048576) (hk : l.length < k) : laws_toIntS.f k l = some l := by
  unfold laws_toIntS.f
  rw [if_pos (by omega), if_pos (by omega), Int.toNat_natCast]
  exact toIntS_l l hl l.length 0 k (by omega) hk
theorem eqIntS_l (l : List Int) (hl : l.length ≤ 1048576) (d : Nat) : ∀ (i k : Nat), i + d = l.length → d < k → laws_eqIntS.l0 k l l (i : Int) = some true := by
  induction d with
  | zero =>
    intro i k h hk
    obtain ⟨k, rfl⟩ : ∃ m, k = m + 1 := ⟨k - 1, by omega⟩
    simp only [laws_eqIntS.l0]
    rw [if_neg (by omega)]
  | succ d ih =>
    intro i k h hk
    obtain ⟨k, rfl⟩ : ∃ m, k = m + 1 := ⟨k - 1, by omega⟩
    simp only [laws_eqIntS.l0]
    rw [if_pos (by omega), if_pos (by omega), if_pos (by omega), w64 (by omega) (by omega)]
    simp only [if_true]
    exact ih (i + 1) k (by omega) (by omega)
theorem eqIntS_ok {k : Nat} (l : List Int) (hl : l.length ≤ 1048576) (hk : l.length < k) : laws_eqIntS.f k l l = some true := by
  unfold laws_eqIntS.f
  rw [if_pos rfl]
  exact eqIntS_l l hl l.length 0 k (by omega) hk
/-- Polls one by one. -/
def run (j : Int) : List Int → Int → Int → Int → Int × Int × Int × Bool
  | [], p, c, n => (p, c, n, true)
  | o :: os, p, c, n => if (nxt p c o j).2.2 = true then run j os (nxt p c o j).1 (nxt p c o j).2.1 (n + secs p c) else (0, 0, 0, false)
theorem secs_in (p c : Int) : -1 ≤ secs p c ∧ secs p c ≤ 1024 := by
  unfold secs
  split
  · rename_i h
    have h' := (inPoll_iff p c).1 h
    have := shl_at p (by omega)
    omega
  · omega
theorem drop_at (l : List Int) (i : Nat) (h : i < l.length) : l.drop i = rd l (i : Int) :: l.drop (i + 1) := by
  rw [rd_at l i h, List.drop_eq_getElem_cons h]
theorem run_i (l : List Int) (hl : l.length ≤ 30) (j : Int) (d : Nat) : ∀ (i k : Nat) (p c n : Int), i + d = l.length → d + 1 < k → -(i : Int) ≤ n → n ≤ 1024 * i →
    impl_RunPolls.l0 k j n l (l.length : Int) (i : Int) p c = some (run j (l.drop i) p c n) := by
  induction d with
  | zero =>
    intro i k p c n h hk h1 h2
    obtain ⟨k, rfl⟩ : ∃ m, k = m + 1 := ⟨k - 1, by omega⟩
    simp only [impl_RunPolls.l0]
    rw [if_neg (by omega), List.drop_eq_nil_of_le (by omega)]
    rfl
  | succ d ih =>
    intro i k p c n h hk h1 h2
    obtain ⟨k, rfl⟩ : ∃ m, k = m + 1 := ⟨k - 1, by omega⟩
    simp only [impl_RunPolls.l0]
    have hs := secs_in p c
    rw [if_pos (by omega), if_pos (by omega), if_pos (by omega), secs_i, next_i (by omega), drop_at l i (by omega)]
    simp only [Option.bind_some, run]
    split
    · rw [w64 (by omega) (by omega), w64 (by omega) (by omega)]
      exact ih (i + 1) k _ _ _ (by omega) (by omega) (by omega) (by omega)
    · rfl
theorem run_s (l : List Int) (hl : l.length ≤ 30) (j : Int) (d : Nat) : ∀ (i k : Nat) (p c n : Int), i + d = l.length → d + 1 < k → -(i : Int) ≤ n → n ≤ 1024 * i →
    spec_RunPolls.l0 k l j n (i : Int) p c = some (run j (l.drop i) p c n) := by
  induction d with
  | zero =>
    intro i k p c n h hk h1 h2
    obtain ⟨k, rfl⟩ : ∃ m, k = m + 1 := ⟨k - 1, by omega⟩
    simp only [spec_RunPolls.l0]
    rw [if_neg (by omega), List.drop_eq_nil_of_le (by omega)]
    rfl
  | succ d ih =>
    intro i k p c n h hk h1 h2
    obtain ⟨k, rfl⟩ : ∃ m, k = m + 1 := ⟨k - 1, by omega⟩
    simp only [spec_RunPolls.l0]
    have hs := secs_in p c
    rw [if_pos (by omega), secs_s, Option.bind_some, if_pos (by omega), next_s (by omega), drop_at l i (by omega)]
    simp only [Option.bind_some, run]
    split
    · rw [w64 (by omega) (by omega), w64 (by omega) (by omega)]
      exact ih (i + 1) k _ _ _ (by omega) (by omega) (by omega) (by omega)
    · rfl
/-- RunPolls, whole. -/
def runs (p c : Int) (l : List Int) (j : Int) : Int × Int × Int × Bool :=
  if inPoll p c = true ∧ l.length ≤ 30 ∧ 0 ≤ j ∧ j ≤ 1000000 then run j l p c 0 else (0, 0, 0, false)
theorem runs_i {k : Nat} (hk : 34 ≤ k) (p c : Int) (l : List Int) (j : Int) : impl_RunPolls.f k p c l j = some (runs p c l j) := by
  obtain ⟨k, rfl⟩ : ∃ m, k = m + 1 := ⟨k - 1, by omega⟩
  unfold impl_RunPolls.f runs
  simp only [validPoll_i, within_eq, Option.bind_some, impl_RunPolls.j0, if_true]
  by_cases h1 : inPoll p c = true
  · rw [if_pos h1]
    by_cases h2 : (l.length : Int) > 30
    · rw [if_pos h2, if_neg (by omega)]
    · rw [if_neg h2]
      by_cases h3 : 0 ≤ j ∧ j ≤ 1000000
      · rw [if_neg (by simp [h3]), if_pos ⟨h1, by omega, h3⟩]
        exact run_i l (by omega) j l.length 0 k p c 0 (by omega) (by omega) (by omega) (by omega)
      · rw [if_pos (by simp; omega), if_neg (fun g => h3 g.2.2)]
  · rw [if_neg h1, if_neg (fun g => h1 g.1)]
theorem runs_s {k : Nat} (hk : 34 ≤ k) (p c : Int) (l : List Int) (j : Int) : spec_RunPolls.f k p c l j = some (runs p c l j) := by
  obtain ⟨k, rfl⟩ : ∃ m, k = m + 1 := ⟨k - 1, by omega⟩
  unfold spec_RunPolls.f runs
  simp only [validPoll_s, inRange_eq, Option.bind_some, spec_RunPolls.j0, if_true]
  by_cases h1 : inPoll p c = true
  · rw [if_pos h1]
    by_cases h2 : (l.length : Int) > 30
    · rw [if_pos h2, if_neg (by omega)]
    · rw [if_neg h2]
      by_cases h3 : 0 ≤ j ∧ j ≤ 1000000
      · rw [if_neg (by simp [h3]), if_pos ⟨h1, by omega, h3⟩]
        exact run_s l (by omega) j l.length 0 k p c 0 (by omega) (by omega) (by omega) (by omega)
      · rw [if_pos (by simp; omega), if_neg (fun g => h3 g.2.2)]
  · rw [if_neg h1, if_neg (fun g => h1 g.1)]
end KFnExactRunPolls
open KFnExactRunPolls
theorem FnExactRunPolls (p c : Int) (l : List Int) (j : Int) : ∃ k, laws_FnExactRunPolls.f k p c l j = some true := by
  refine ⟨l.length + 40, ?_⟩
  unfold laws_FnExactRunPolls.f laws_toPoll.f
  by_cases h0 : (l.length : Int) > 1048576
  · rw [if_pos h0]
  rw [if_neg h0, toIntS_ok l (by omega) (by omega)]
  simp only [Option.bind_some]
  rw [runs_i (by omega), runs_s (by omega)]
  simp only [Option.bind_some]
  unfold laws_eqPoll.f
  simp only [if_true, bne_self_eq_false, Option.bind_some]
  simp only [laws_FnExactRunPolls.j0]
  rw [if_neg (by simp), toIntS_ok l (by omega) (by omega)]
  simp only [Option.bind_some]
  rw [eqIntS_ok l (by omega) (by omega)]
  rfl

end Go.Proofs.Ytgoneahlhglcoaa.Pure
