/- Proved: the program's ValidPulses returns what the reference's returns, for all arguments (FnExactValidPulses); no condition beyond the statement's own. -/
import Derived.Test.YtpkpbcfehllehaaPFnExactValidPulsesx1
import Derived.Laws.BitsLemmas
namespace Go.Proofs.Ytpkpbcfehllehaa.Pure
open Go Go.RowKit Go.Proofs.Ytpkpbcfehllehaa.PFnExactValidPulses Go.Proofs.YtpkpbcfehllehaaW.PrintWords Go.Proofs.YtpkpbcfehllehaaW.PrintLast Go.Proofs.YtpkpbcfehllehaaW.PrintMore

namespace KFnExactValidPulses
theorem w64 {x : Int} (h1 : -9223372036854775808 ≤ x) (h2 : x < 9223372036854775808) : wrap64 x = x := by unfold wrap64; omega
theorem i64wrap (x : Int) : IntKind.i64.wrap x = wrap64 x := by rw [IntKind.wrap_i64]; unfold wrap64; rfl
theorem tm {a b : Int} (h : 0 ≤ a) : Int.tmod a b = a % b := Int.tmod_eq_emod_of_nonneg h
theorem td {a b : Int} (h : 0 ≤ a) : Int.tdiv a b = a / b := Int.tdiv_eq_ediv_of_nonneg h
theorem sval {α : Type} {x : Option α} {a : α} (h : x = some a) {β : Type} (f : α → Option β) : x.bind f = f a := by rw [h]; rfl
theorem within_eq (n lo hi : Int) : impl_within.f n lo hi = some (decide (lo ≤ n ∧ n ≤ hi)) := by
  unfold impl_within.f
  by_cases h : lo ≤ n <;> simp [h]
theorem inRange_eq (n lo hi : Int) : spec_inRange.f n lo hi = some (decide (lo ≤ n ∧ n ≤ hi)) := by
  unfold spec_inRange.f
  by_cases h : lo ≤ n <;> simp [h]
theorem fill_step {α : Type} (l : List α) (z v : α) (i : Nat) (h : i < l.length) (hv : v = l[i]) : (l.take i ++ List.replicate (l.length - i) z).set i v = l.take (i + 1) ++ List.replicate (l.length - (i + 1)) z := by
  have e : l.length - i = (l.length - (i + 1)) + 1 := by omega
  have ht : (l.take i).length = i := by rw [List.length_take]; omega
  rw [List.set_append_right i v (by omega), ht, Nat.sub_self, e, List.replicate_succ, List.set_cons_zero, hv, show List.take (i + 1) l = List.take i l ++ [l[i]] from List.take_succ_eq_append_getElem h, List.append_assoc]
  rfl
theorem fill_end {α : Type} (l : List α) (z : α) : l.take l.length ++ List.replicate (l.length - l.length) z = l := by simp
theorem rd_at (l : List Int) (i : Nat) (h : i < l.length) : rd l (i : Int) = l[i] := by unfold rd; simp [List.getD_eq_getElem?_getD, h]
theorem toIntS_l (l : List Int) (hl : l.length ≤ 1048576) (d : Nat) : ∀ (i k : Nat), i + d = l.length → d < k → laws_toIntS.l0 k l (l.take i ++ List.replicate (l.length - i) 0) (i : Int) = some l := by
  induction d with
  | zero =>
    intro i k h hk
    obtain ⟨k, rfl⟩ : ∃ m, k = m + 1 := ⟨k - 1, by omega⟩
    obtain rfl : i = l.length := by omega
    simp only [laws_toIntS.l0]
    rw [if_neg (by omega), fill_end]
  | succ d ih =>
    intro i k h hk
    obtain ⟨k, rfl⟩ : ∃ m, k = m + 1 := ⟨k - 1, by omega⟩
    simp only [laws_toIntS.l0]
    rw [if_pos (by omega), if_pos (by omega), if_pos (by simp; omega), w64 (by omega) (by omega), Int.toNat_natCast, fill_step l 0 _ i (by omega) (rd_at l i (by omega))]
    exact ih (i + 1) k (by omega) (by omega)
theorem toIntS_ok {k : Nat} (l : List Int) (hl : l.length ≤ 1048576) (hk : l.length < k) : laws_toIntS.f k l = some l := by
  unfold laws_toIntS.f
  rw [if_pos (by omega), if_pos (by omega), Int.toNat_natCast]
  exact toIntS_l l hl l.length 0 k (by omega) hk
theorem eqIntS_l (l : List Int) (hl : l.length ≤ 1048576) (d : Nat) : ∀ (i k : Nat), i + d = l.length → d < k → laws_eqIntS.l0 k l l (i : Int) = some true := by
  induction d with
  | zero =>
    intro i k h hk
    obtain ⟨k, rfl⟩ : ∃ m, k = m + 1 := ⟨k - 1, by omega⟩
    simp only [laws_eqIntS.l0]
    rw [if_neg (by omega)]
  | succ d ih =>
    intro i k h hk
    obtain ⟨k, rfl⟩ : ∃ m, k = m + 1 := ⟨k - 1, by omega⟩
    simp only [laws_eqIntS.l0]
    rw [if_pos (by omega), if_pos (by omega), if_pos (by omega), w64 (by omega) (by omega)]
    simp only [if_true]
    exact ih (i + 1) k (by omega) (by omega)
theorem eqIntS_ok {k : Nat} (l : List Int) (hl : l.length ≤ 1048576) (hk : l.length < k) : laws_eqIntS.f k l l = some true := by
  unfold laws_eqIntS.f
  rw [if_pos rfl]
  exact eqIntS_l l hl l.length 0 k (by omega) hk
/-- Pulses in their range that ascend, behind one that may stand ahead of them. -/
def good : Option Int → List Int → Bool
  | _, [] => true
  | none, x :: xs => decide (0 ≤ x ∧ x ≤ 100000000) && good (some x) xs
  | some p, x :: xs => decide (0 ≤ x ∧ x ≤ 100000000) && (decide (p < x) && good (some x) xs)
def prev (l : List Int) (i : Nat) : Option Int := if i = 0 then none else some (rd l ((i : Int) - 1))
theorem prev_succ (l : List Int) (i : Nat) : prev l (i + 1) = some (rd l (i : Int)) := by unfold prev; rw [if_neg (by omega)]; congr 2; omega
def okP (l : List Int) : Bool := good none l && decide (l.length ≤ 16)
theorem drop_at (l : List Int) (i : Nat) (h : i < l.length) : l.drop i = rd l (i : Int) :: l.drop (i + 1) := by
  rw [rd_at l i h, List.drop_eq_getElem_cons h]
theorem validP_il (l : List Int) (hl : l.length ≤ 1048576) (n : Nat) : ∀ (i k : Nat), i + n = l.length → n < k → impl_ValidPulses.l0 k l l (l.length : Int) (i : Int) = some (good (prev l i) (l.drop i) && decide (l.length ≤ 16)) := by
  induction n with
  | zero =>
    intro i k h hk
    obtain ⟨k, rfl⟩ : ∃ m, k = m + 1 := ⟨k - 1, by omega⟩
    simp only [impl_ValidPulses.l0]
    rw [if_neg (by omega), List.drop_eq_nil_of_le (by omega)]
    unfold prev
    split <;> (simp only [good, Bool.true_and]; exact congrArg some (decide_eq_decide.2 (by omega)))
  | succ n ih =>
    intro i k h hk
    obtain ⟨k, rfl⟩ : ∃ m, k = m + 1 := ⟨k - 1, by omega⟩
    have IH := ih (i + 1) k (by omega) (by omega)
    rw [prev_succ, show ((i + 1 : Nat) : Int) = (i : Int) + 1 by omega] at IH
    simp only [impl_ValidPulses.l0]
    rw [if_pos (by omega), if_pos (by omega), if_pos (by omega), within_eq, Option.bind_some, drop_at l i (by omega), w64 (x := (i : Int) + 1) (by omega) (by omega), IH]
    by_cases h1 : 0 ≤ rd l (i : Int) ∧ rd l (i : Int) ≤ 100000000
    · rw [if_pos (decide_eq_true h1)]
      by_cases h0 : i = 0
      · subst h0
        rw [if_neg (by omega)]
        simp only [prev, if_true, good, decide_eq_true h1, Bool.true_and]
      · rw [if_pos (by omega), w64 (by omega) (by omega), if_pos (by omega), if_pos (by omega)]
        unfold prev
        rw [if_neg h0]
        simp only [good, decide_eq_true h1, Bool.true_and]
        by_cases h2 : rd l ((i : Int) - 1) < rd l (i : Int)
        · rw [if_neg (by omega), decide_eq_true h2, Bool.true_and]
        · rw [if_pos (by omega), decide_eq_false h2, Bool.false_and, Bool.false_and]
    · rw [if_neg (by simpa using h1)]
      unfold prev
      split <;> simp only [good, decide_eq_false h1, Bool.false_and]
theorem validP_i {k : Nat} (l : List Int) (hl : l.length ≤ 1048576) (hk : l.length < k) : impl_ValidPulses.f k l = some (okP l) := by
  have := validP_il l hl l.length 0 k (by omega) hk
  simpa [impl_ValidPulses.f, okP, prev] using this
theorem validP_sl (l : List Int) (hl : l.length ≤ 1048576) (n : Nat) : ∀ (i k : Nat), i + n = l.length → n < k → spec_validPulses.l0 k l (i : Int) = some (good (prev l i) (l.drop i) && decide (l.length ≤ 16)) := by
  induction n with
  | zero =>
    intro i k h hk
    obtain ⟨k, rfl⟩ : ∃ m, k = m + 1 := ⟨k - 1, by omega⟩
    simp only [spec_validPulses.l0]
    rw [if_neg (by omega), List.drop_eq_nil_of_le (by omega)]
    unfold prev
    split <;> (simp only [good, Bool.true_and]; exact congrArg some (decide_eq_decide.2 (by omega)))
  | succ n ih =>
    intro i k h hk
    obtain ⟨k, rfl⟩ : ∃ m, k = m + 1 := ⟨k - 1, by omega⟩
    have IH := ih (i + 1) k (by omega) (by omega)
    rw [prev_succ, show ((i + 1 : Nat) : Int) = (i : Int) + 1 by omega] at IH
    simp only [spec_validPulses.l0]
    rw [if_pos (by omega), if_pos (by omega), inRange_eq, Option.bind_some, drop_at l i (by omega), w64 (x := (i : Int) + 1) (by omega) (by omega), IH]
    by_cases h1 : 0 ≤ rd l (i : Int) ∧ rd l (i : Int) ≤ 100000000
    · rw [if_pos (decide_eq_true h1)]
      by_cases h0 : i = 0
      · subst h0
        rw [if_neg (by omega)]
        simp only [prev, if_true, good, decide_eq_true h1, Bool.true_and]
      · rw [if_pos (by omega), w64 (by omega) (by omega), if_pos (by omega), if_pos (by omega)]
        unfold prev
        rw [if_neg h0]
        simp only [good, decide_eq_true h1, Bool.true_and]
        by_cases h2 : rd l ((i : Int) - 1) < rd l (i : Int)
        · rw [if_neg (by omega), decide_eq_true h2, Bool.true_and]
        · rw [if_pos (by omega), decide_eq_false h2, Bool.false_and, Bool.false_and]
    · rw [if_neg (by simpa using h1)]
      unfold prev
      split <;> simp only [good, decide_eq_false h1, Bool.false_and]
theorem validP_s {k : Nat} (l : List Int) (hl : l.length ≤ 1048576) (hk : l.length < k) : spec_validPulses.f k l = some (okP l) := by
  have := validP_sl l hl l.length 0 k (by omega) hk
  simpa [spec_validPulses.f, okP, prev] using this
end KFnExactValidPulses
open KFnExactValidPulses
theorem FnExactValidPulses (l : List Int) (_hl : l.length ≤ maxLen) (_hs : l.length * 8 ≤ 140737488351232) (_ : ∀ x ∈ l, (Lit.int .i64 x).wf = true) : ∃ k, laws_FnExactValidPulses.f k l = some true := by
  refine ⟨l.length + 1, ?_⟩
  unfold laws_FnExactValidPulses.f
  by_cases h0 : (l.length : Int) > 1048576
  · rw [if_pos h0]
  unfold spec_ValidPulses.f
  rw [if_neg h0, toIntS_ok l (by omega) (by omega), Option.bind_some, validP_s l (by omega) (by omega), Option.bind_some, Option.bind_some, Option.bind_some, validP_i l (by omega) (by omega), Option.bind_some]
  simp only [bne_self_eq_false, Bool.false_eq_true, if_false, Option.bind_some]
  rw [eqIntS_ok l (by omega) (by omega)]
  rfl

end Go.Proofs.Ytpkpbcfehllehaa.Pure
