/- Proved: the program's LabelPulses returns what the reference's returns, for all arguments, and its result shares no memory (FnExactLabelPulses); no condition beyond the statement's own. -/
import Derived.Test.YtchlfonhhmkipaaPFnExactLabelPulsesx
import Derived.Laws.BitsLemmas
namespace Go.Proofs.Ytchlfonhhmkipaa.Pure
open Go Go.RowKit Go.Proofs.Ytchlfonhhmkipaa.PFnExactLabelPulses Go.Proofs.YtchlfonhhmkipaaW.PrintWords Go.Proofs.YtchlfonhhmkipaaW.PrintLast Go.Proofs.YtchlfonhhmkipaaW.PrintMore

namespace KFnExactLabelPulses
theorem w64 {x : Int} (h1 : -9223372036854775808 ≤ x) (h2 : x < 9223372036854775808) : wrap64 x = x := by unfold wrap64; omega
theorem i64wrap (x : Int) : IntKind.i64.wrap x = wrap64 x := by rw [IntKind.wrap_i64]; unfold wrap64; rfl
theorem tm {a b : Int} (h : 0 ≤ a) : Int.tmod a b = a % b := Int.tmod_eq_emod_of_nonneg h
theorem td {a b : Int} (h : 0 ≤ a) : Int.tdiv a b = a / b := Int.tdiv_eq_ediv_of_nonneg h
theorem sval {α : Type} {x : Option α} {a : α} (h : x = some a) {β : Type} (f : α → Option β) : x.bind f = f a := by rw [h]; rfl
theorem rd_in {b : List Int} {lo hi : Int} (h : ∀ x ∈ b, lo ≤ x ∧ x ≤ hi) {i : Int} (h0 : 0 ≤ i) (h1 : i < b.length) : lo ≤ rd b i ∧ rd b i ≤ hi := by
  have hi' : i.toNat < b.length := by omega
  have e : rd b i = b[i.toNat] := by unfold rd; simp [List.getD_eq_getElem?_getD, List.getElem?_eq_getElem hi']
  rw [e]
  exact h _ (List.getElem_mem hi')
theorem rd_mem {b : List Int} {i : Int} (h0 : 0 ≤ i) (h1 : i < b.length) : rd b i ∈ b := by
  have hi' : i.toNat < b.length := by omega
  have e : rd b i = b[i.toNat] := by unfold rd; simp [List.getD_eq_getElem?_getD, List.getElem?_eq_getElem hi']
  rw [e]
  exact List.getElem_mem hi'
theorem within_eq (n lo hi : Int) : impl_within.f n lo hi = some (decide (lo ≤ n ∧ n ≤ hi)) := by
  unfold impl_within.f
  by_cases h : lo ≤ n <;> simp [h]
theorem inRange_eq (n lo hi : Int) : spec_inRange.f n lo hi = some (decide (lo ≤ n ∧ n ≤ hi)) := by
  unfold spec_inRange.f
  by_cases h : lo ≤ n <;> simp [h]
theorem fill_step {α : Type} (l : List α) (z v : α) (i : Nat) (h : i < l.length) (hv : v = l[i]) : (l.take i ++ List.replicate (l.length - i) z).set i v = l.take (i + 1) ++ List.replicate (l.length - (i + 1)) z := by
  have e : l.length - i = (l.length - (i + 1)) + 1 := by omega
  have ht : (l.take i).length = i := by rw [List.length_take]; omega
  rw [List.set_append_right i v (by omega), ht, Nat.sub_self, e, List.replicate_succ, List.set_cons_zero, hv, show List.take (i + 1) l = List.take i l ++ [l[i]] from List.take_succ_eq_append_getElem h, List.append_assoc]
  rfl
theorem fill_end {α : Type} (l : List α) (z : α) : l.take l.length ++ List.replicate (l.length - l.length) z = l := by simp
theorem rd_at (l : List Int) (i : Nat) (h : i < l.length) : rd l (i : Int) = l[i] := by unfold rd; simp [List.getD_eq_getElem?_getD, h]
theorem toIntS_l (l : List Int) (hl : l.length ≤ 1048576) (d : Nat) : ∀ (i k : Nat), i + d = l.length → d < k → laws_toIntS.l0 k l (l.take i ++ List.replicate (l.length - i) 0) (i : Int) = some l := by
  induction d with
  | zero =>
    intro i k h hk
    obtain ⟨k, rfl⟩ : ∃ m, k = m + 1 := ⟨k - 1, by omega⟩
    obtain rfl : i = l.length := by omega
    simp only [laws_toIntS.l0]
    rw [if_neg (by omega), fill_end]
  | succ d ih =>
    intro i k h hk
    obtain ⟨k, rfl⟩ : ∃ m, k = m + 1 := ⟨k - 1, by omega⟩
    simp only [laws_toIntS.l0]
    rw [if_pos (by omega), if_pos (by omega), if_pos (by simp; omega), w64 (by omega) (by omega), Int.toNat_natCast, fill_step l 0 _ i (by omega) (rd_at l i (by omega))]
    exact ih (i + 1) k (by omega) (by omega)
theorem toIntS_ok {k : Nat} (l : List Int) (hl : l.length ≤ 1048576) (hk : l.length < k) : laws_toIntS.f k l = some l := by
  unfold laws_toIntS.f
  rw [if_pos (by omega), if_pos (by omega), Int.toNat_natCast]
  exact toIntS_l l hl l.length 0 k (by omega) hk
theorem eqIntS_l (l : List Int) (hl : l.length ≤ 1048576) (d : Nat) : ∀ (i k : Nat), i + d = l.length → d < k → laws_eqIntS.l0 k l l (i : Int) = some true := by
  induction d with
  | zero =>
    intro i k h hk
    obtain ⟨k, rfl⟩ : ∃ m, k = m + 1 := ⟨k - 1, by omega⟩
    simp only [laws_eqIntS.l0]
    rw [if_neg (by omega)]
  | succ d ih =>
    intro i k h hk
    obtain ⟨k, rfl⟩ : ∃ m, k = m + 1 := ⟨k - 1, by omega⟩
    simp only [laws_eqIntS.l0]
    rw [if_pos (by omega), if_pos (by omega), if_pos (by omega), w64 (by omega) (by omega)]
    simp only [if_true]
    exact ih (i + 1) k (by omega) (by omega)
theorem eqIntS_ok {k : Nat} (l : List Int) (hl : l.length ≤ 1048576) (hk : l.length < k) : laws_eqIntS.f k l l = some true := by
  unfold laws_eqIntS.f
  rw [if_pos rfl]
  exact eqIntS_l l hl l.length 0 k (by omega) hk
/-- Pulses in their range that ascend, behind one that may stand ahead of them. -/
def good : Option Int → List Int → Bool
  | _, [] => true
  | none, x :: xs => decide (0 ≤ x ∧ x ≤ 100000000) && good (some x) xs
  | some p, x :: xs => decide (0 ≤ x ∧ x ≤ 100000000) && (decide (p < x) && good (some x) xs)
def prev (l : List Int) (i : Nat) : Option Int := if i = 0 then none else some (rd l ((i : Int) - 1))
theorem prev_succ (l : List Int) (i : Nat) : prev l (i + 1) = some (rd l (i : Int)) := by unfold prev; rw [if_neg (by omega)]; congr 2; omega
def okP (l : List Int) : Bool := good none l && decide (l.length ≤ 16)
theorem drop_at (l : List Int) (i : Nat) (h : i < l.length) : l.drop i = rd l (i : Int) :: l.drop (i + 1) := by
  rw [rd_at l i h, List.drop_eq_getElem_cons h]
theorem validP_il (l : List Int) (hl : l.length ≤ 1048576) (n : Nat) : ∀ (i k : Nat), i + n = l.length → n < k → impl_ValidPulses.l0 k l l (l.length : Int) (i : Int) = some (good (prev l i) (l.drop i) && decide (l.length ≤ 16)) := by
  induction n with
  | zero =>
    intro i k h hk
    obtain ⟨k, rfl⟩ : ∃ m, k = m + 1 := ⟨k - 1, by omega⟩
    simp only [impl_ValidPulses.l0]
    rw [if_neg (by omega), List.drop_eq_nil_of_le (by omega)]
    unfold prev
    split <;> (simp only [good, Bool.true_and]; exact congrArg some (decide_eq_decide.2 (by omega)))
  | succ n ih =>
    intro i k h hk
    obtain ⟨k, rfl⟩ : ∃ m, k = m + 1 := ⟨k - 1, by omega⟩
    have IH := ih (i + 1) k (by omega) (by omega)
    rw [prev_succ, show ((i + 1 : Nat) : Int) = (i : Int) + 1 by omega] at IH
    simp only [impl_ValidPulses.l0]
    rw [if_pos (by omega), if_pos (by omega), if_pos (by omega), within_eq, Option.bind_some, drop_at l i (by omega), w64 (x := (i : Int) + 1) (by omega) (by omega), IH]
    by_cases h1 : 0 ≤ rd l (i : Int) ∧ rd l (i : Int) ≤ 100000000
    · rw [if_pos (decide_eq_true h1)]
      by_cases h0 : i = 0
      · subst h0
        rw [if_neg (by omega)]
        simp only [prev, if_true, good, decide_eq_true h1, Bool.true_and]
      · rw [if_pos (by omega), w64 (by omega) (by omega), if_pos (by omega), if_pos (by omega)]
        unfold prev
        rw [if_neg h0]
        simp only [good, decide_eq_true h1, Bool.true_and]
        by_cases h2 : rd l ((i : Int) - 1) < rd l (i : Int)
        · rw [if_neg (by omega), decide_eq_true h2, Bool.true_and]
        · rw [if_pos (by omega), decide_eq_false h2, Bool.false_and, Bool.false_and]
    · rw [if_neg (by simpa using h1)]
      unfold prev
      split <;> simp only [good, decide_eq_false h1, Bool.false_and]
theorem validP_i {k : Nat} (l : List Int) (hl : l.length ≤ 1048576) (hk : l.length < k) : impl_ValidPulses.f k l = some (okP l) := by
  have := validP_il l hl l.length 0 k (by omega) hk
  simpa [impl_ValidPulses.f, okP, prev] using this
theorem validP_sl (l : List Int) (hl : l.length ≤ 1048576) (n : Nat) : ∀ (i k : Nat), i + n = l.length → n < k → spec_validPulses.l0 k l (i : Int) = some (good (prev l i) (l.drop i) && decide (l.length ≤ 16)) := by
  induction n with
  | zero =>
    intro i k h hk
    obtain ⟨k, rfl⟩ : ∃ m, k = m + 1 := ⟨k - 1, by omega⟩
    simp only [spec_validPulses.l0]
    rw [if_neg (by omega), List.drop_eq_nil_of_le (by omega)]
    unfold prev
    split <;> (simp only [good, Bool.true_and]; exact congrArg some (decide_eq_decide.2 (by omega)))
  | succ n ih =>
    intro i k h hk
    obtain ⟨k, rfl⟩ : ∃ m, k = m + 1 := ⟨k - 1, by omega⟩
    have IH := ih (i + 1) k (by omega) (by omega)
    rw [prev_succ, show ((i + 1 : Nat) : Int) = (i : Int) + 1 by omega] at IH
    simp only [spec_validPulses.l0]
    rw [if_pos (by omega), if_pos (by omega), inRange_eq, Option.bind_some, drop_at l i (by omega), w64 (x := (i : Int) + 1) (by omega) (by omega), IH]
    by_cases h1 : 0 ≤ rd l (i : Int) ∧ rd l (i : Int) ≤ 100000000
    · rw [if_pos (decide_eq_true h1)]
      by_cases h0 : i = 0
      · subst h0
        rw [if_neg (by omega)]
        simp only [prev, if_true, good, decide_eq_true h1, Bool.true_and]
      · rw [if_pos (by omega), w64 (by omega) (by omega), if_pos (by omega), if_pos (by omega)]
        unfold prev
        rw [if_neg h0]
        simp only [good, decide_eq_true h1, Bool.true_and]
        by_cases h2 : rd l ((i : Int) - 1) < rd l (i : Int)
        · rw [if_neg (by omega), decide_eq_true h2, Bool.true_and]
        · rw [if_pos (by omega), decide_eq_false h2, Bool.false_and, Bool.false_and]
    · rw [if_neg (by simpa using h1)]
      unfold prev
      split <;> simp only [good, decide_eq_false h1, Bool.false_and]
theorem validP_s {k : Nat} (l : List Int) (hl : l.length ≤ 1048576) (hk : l.length < k) : spec_validPulses.f k l = some (okP l) := by
  have := validP_sl l hl l.length 0 k (by omega) hk
  simpa [spec_validPulses.f, okP, prev] using this
theorem good_cons {pr : Option Int} {x : Int} {xs : List Int} (h : good pr (x :: xs) = true) : (0 ≤ x ∧ x ≤ 100000000) ∧ (∀ p, pr = some p → p < x) ∧ good (some x) xs = true := by
  cases pr with
  | none => simp [good] at h; exact ⟨h.1, fun p e => (by cases e), h.2⟩
  | some p => simp [good] at h; exact ⟨h.1, fun q e => (by cases e; exact h.2.1), h.2.2⟩
theorem good_mk {pr : Option Int} {x : Int} {xs : List Int} (h1 : 0 ≤ x ∧ x ≤ 100000000) (h2 : ∀ p, pr = some p → p < x) (h3 : good (some x) xs = true) : good pr (x :: xs) = true := by
  cases pr with
  | none => simp [good, h1, h3]
  | some p => simp [good, h1, h3, h2 p rfl]
theorem good_tail {pr : Option Int} {x : Int} {xs : List Int} (h : good pr (x :: xs) = true) : good pr xs = true := by
  obtain ⟨h1, h2, h3⟩ := good_cons h
  cases xs with
  | nil => cases pr <;> rfl
  | cons y ys =>
    obtain ⟨g1, g2, g3⟩ := good_cons h3
    exact good_mk g1 (fun p e => by have := h2 p e; have := g2 x rfl; omega) g3
theorem good_sub {a l : List Int} (h : List.Sublist a l) : ∀ pr, good pr l = true → good pr a = true := by
  induction h with
  | slnil => intro pr h; exact h
  | cons x _ ih => intro pr h; exact ih pr (good_tail h)
  | cons_cons x _ ih =>
    intro pr h
    obtain ⟨h1, h2, h3⟩ := good_cons h
    exact good_mk h1 h2 (ih _ h3)
theorem okP_sub {a l : List Int} (h : List.Sublist a l) (hl : okP l = true) : okP a = true := by
  have hlen := h.length_le
  simp only [okP, Bool.and_eq_true, decide_eq_true_eq] at hl ⊢
  exact ⟨good_sub h _ hl.1, by omega⟩
theorem good_range {l : List Int} : ∀ pr, good pr l = true → ∀ x ∈ l, 0 ≤ x ∧ x ≤ 100000000 := by
  induction l with
  | nil => intro pr _ x hx; cases hx
  | cons y ys ih =>
    intro pr h x hx
    obtain ⟨h1, _, h3⟩ := good_cons h
    rcases List.mem_cons.1 hx with rfl | hx
    · exact h1
    · exact ih _ h3 x hx
theorem rdl_at (l : List S34) (i : Nat) (h : i < l.length) : rd_T34 l (i : Int) = l[i] := by unfold rd_T34; simp [List.getD_eq_getElem?_getD, h]
theorem dropl_at (l : List S34) (i : Nat) (h : i < l.length) : l.drop i = rd_T34 l (i : Int) :: l.drop (i + 1) := by
  rw [rdl_at l i h, List.drop_eq_getElem_cons h]
def inL (x : S34) : Prop := (0 ≤ x.f0 ∧ x.f0 ≤ 100000000) ∧ 0 ≤ x.f1 ∧ x.f1 ≤ 3786479999
instance (x : S34) : Decidable (inL x) := by unfold inL; infer_instance
/-- Labels in their range whose counts ascend. -/
def goodL : Option Int → List S34 → Bool
  | _, [] => true
  | none, x :: xs => decide (inL x) && goodL (some x.f0) xs
  | some p, x :: xs => decide (inL x) && (decide (p < x.f0) && goodL (some x.f0) xs)
def prevL (l : List S34) (i : Nat) : Option Int := if i = 0 then none else some (rd_T34 l ((i : Int) - 1)).f0
theorem prevL_succ (l : List S34) (i : Nat) : prevL l (i + 1) = some (rd_T34 l (i : Int)).f0 := by unfold prevL; rw [if_neg (by omega), show ((i + 1 : Nat) : Int) - 1 = (i : Int) by omega]
def okL (l : List S34) : Bool := goodL none l && decide (l.length ≤ 16)
theorem inL_f {x : S34} (h : ¬ inL x) (h1 : 0 ≤ x.f0 ∧ x.f0 ≤ 100000000) : ¬ (0 ≤ x.f1 ∧ x.f1 ≤ 3786479999) := fun g => h ⟨h1, g⟩
theorem goodL_out (l : List S34) (i : Nat) (x : S34) (xs : List S34) (h : ¬ inL x) : goodL (prevL l i) (x :: xs) = false := by
  unfold prevL
  split <;> simp only [goodL, decide_eq_false h, Bool.false_and]
theorem validL_il (l : List S34) (hl : l.length ≤ 1048576) (n : Nat) : ∀ (i k : Nat), i + n = l.length → n < k → impl_labelsValid.l0 k l l (l.length : Int) (i : Int) = some (goodL (prevL l i) (l.drop i) && decide (l.length ≤ 16)) := by
  induction n with
  | zero =>
    intro i k h hk
    obtain ⟨k, rfl⟩ : ∃ m, k = m + 1 := ⟨k - 1, by omega⟩
    simp only [impl_labelsValid.l0]
    rw [if_neg (by omega), List.drop_eq_nil_of_le (by omega)]
    unfold prevL
    split <;> (simp only [goodL, Bool.true_and]; exact congrArg some (decide_eq_decide.2 (by omega)))
  | succ n ih =>
    intro i k h hk
    obtain ⟨k, rfl⟩ : ∃ m, k = m + 1 := ⟨k - 1, by omega⟩
    have IH := ih (i + 1) k (by omega) (by omega)
    rw [prevL_succ, show ((i + 1 : Nat) : Int) = (i : Int) + 1 by omega] at IH
    simp only [impl_labelsValid.l0]
    unfold impl_isTime.f
    rw [if_pos (by omega), if_pos (by omega), if_pos (by omega), within_eq, Option.bind_some, within_eq, Option.bind_some, Option.bind_some, dropl_at l i (by omega), w64 (x := (i : Int) + 1) (by omega) (by omega), IH]
    generalize hx : rd_T34 l (i : Int) = x
    by_cases hin : inL x
    · rw [if_pos (decide_eq_true hin.1), if_pos (decide_eq_true hin.2)]
      by_cases h0 : i = 0
      · subst h0
        rw [if_neg (by omega)]
        simp only [prevL, if_true, goodL, decide_eq_true hin, Bool.true_and]
      · rw [if_pos (by omega), w64 (by omega) (by omega), if_pos (by omega), if_pos (by omega)]
        unfold prevL
        rw [if_neg h0]
        simp only [goodL, decide_eq_true hin, Bool.true_and]
        by_cases h2 : (rd_T34 l ((i : Int) - 1)).f0 < x.f0
        · rw [if_neg (by omega), decide_eq_true h2, Bool.true_and]
        · rw [if_pos (by omega), decide_eq_false h2, Bool.false_and, Bool.false_and]
    · rw [goodL_out l i x _ hin, Bool.false_and]
      by_cases h1 : 0 ≤ x.f0 ∧ x.f0 ≤ 100000000
      · rw [if_pos (decide_eq_true h1), if_neg (by simpa using inL_f hin h1)]
      · rw [if_neg (by simpa using h1)]
theorem validL_i {k : Nat} (l : List S34) (hl : l.length ≤ 1048576) (hk : l.length < k) : impl_labelsValid.f k l = some (okL l) := by
  have := validL_il l hl l.length 0 k (by omega) hk
  simpa [impl_labelsValid.f, okL, prevL] using this
theorem validL_sl (l : List S34) (hl : l.length ≤ 1048576) (n : Nat) : ∀ (i k : Nat), i + n = l.length → n < k → spec_validLabels.l0 k l (i : Int) = some (goodL (prevL l i) (l.drop i) && decide (l.length ≤ 16)) := by
  induction n with
  | zero =>
    intro i k h hk
    obtain ⟨k, rfl⟩ : ∃ m, k = m + 1 := ⟨k - 1, by omega⟩
    simp only [spec_validLabels.l0]
    rw [if_neg (by omega), List.drop_eq_nil_of_le (by omega)]
    unfold prevL
    split <;> (simp only [goodL, Bool.true_and]; exact congrArg some (decide_eq_decide.2 (by omega)))
  | succ n ih =>
    intro i k h hk
    obtain ⟨k, rfl⟩ : ∃ m, k = m + 1 := ⟨k - 1, by omega⟩
    have IH := ih (i + 1) k (by omega) (by omega)
    rw [prevL_succ, show ((i + 1 : Nat) : Int) = (i : Int) + 1 by omega] at IH
    simp only [spec_validLabels.l0]
    unfold spec_validTime.f
    rw [if_pos (by omega), if_pos (by omega), inRange_eq, Option.bind_some, inRange_eq, Option.bind_some, Option.bind_some, dropl_at l i (by omega), w64 (x := (i : Int) + 1) (by omega) (by omega), IH]
    generalize hx : rd_T34 l (i : Int) = x
    by_cases hin : inL x
    · rw [if_pos (decide_eq_true hin.1), if_pos (decide_eq_true hin.2)]
      by_cases h0 : i = 0
      · subst h0
        rw [if_neg (by omega)]
        simp only [prevL, if_true, goodL, decide_eq_true hin, Bool.true_and]
      · rw [if_pos (by omega), w64 (by omega) (by omega), if_pos (by omega), if_pos (by omega)]
        unfold prevL
        rw [if_neg h0]
        simp only [goodL, decide_eq_true hin, Bool.true_and]
        by_cases h2 : (rd_T34 l ((i : Int) - 1)).f0 < x.f0
        · rw [if_neg (by omega), decide_eq_true h2, Bool.true_and]
        · rw [if_pos (by omega), decide_eq_false h2, Bool.false_and, Bool.false_and]
    · rw [goodL_out l i x _ hin, Bool.false_and]
      by_cases h1 : 0 ≤ x.f0 ∧ x.f0 ≤ 100000000
      · rw [if_pos (decide_eq_true h1), if_neg (by simpa using inL_f hin h1)]
      · rw [if_neg (by simpa using h1)]
theorem validL_s {k : Nat} (l : List S34) (hl : l.length ≤ 1048576) (hk : l.length < k) : spec_validLabels.f k l = some (okL l) := by
  have := validL_sl l hl l.length 0 k (by omega) hk
  simpa [spec_validLabels.f, okL, prevL] using this
theorem goodL_cons {pr : Option Int} {x : S34} {xs : List S34} (h : goodL pr (x :: xs) = true) : inL x ∧ (∀ p, pr = some p → p < x.f0) ∧ goodL (some x.f0) xs = true := by
  cases pr with
  | none => simp [goodL] at h; exact ⟨h.1, fun p e => (by cases e), h.2⟩
  | some p => simp [goodL] at h; exact ⟨h.1, fun q e => (by cases e; exact h.2.1), h.2.2⟩
theorem goodL_mk {pr : Option Int} {x : S34} {xs : List S34} (h1 : inL x) (h2 : ∀ p, pr = some p → p < x.f0) (h3 : goodL (some x.f0) xs = true) : goodL pr (x :: xs) = true := by
  cases pr with
  | none => simp [goodL, h1, h3]
  | some p => simp [goodL, h1, h3, h2 p rfl]
theorem goodL_tail {pr : Option Int} {x : S34} {xs : List S34} (h : goodL pr (x :: xs) = true) : goodL pr xs = true := by
  obtain ⟨h1, h2, h3⟩ := goodL_cons h
  cases xs with
  | nil => cases pr <;> rfl
  | cons y ys =>
    obtain ⟨g1, g2, g3⟩ := goodL_cons h3
    exact goodL_mk g1 (fun p e => by have := h2 p e; have := g2 x.f0 rfl; omega) g3
theorem goodL_sub {a l : List S34} (h : List.Sublist a l) : ∀ pr, goodL pr l = true → goodL pr a = true := by
  induction h with
  | slnil => intro pr h; exact h
  | cons x _ ih => intro pr h; exact ih pr (goodL_tail h)
  | cons_cons x _ ih =>
    intro pr h
    obtain ⟨h1, h2, h3⟩ := goodL_cons h
    exact goodL_mk h1 h2 (ih _ h3)
theorem okL_sub {a l : List S34} (h : List.Sublist a l) (hl : okL l = true) : okL a = true := by
  have hlen := h.length_le
  simp only [okL, Bool.and_eq_true, decide_eq_true_eq] at hl ⊢
  exact ⟨goodL_sub h _ hl.1, by omega⟩
theorem goodL_range {l : List S34} : ∀ pr, goodL pr l = true → ∀ x ∈ l, inL x := by
  induction l with
  | nil => intro pr _ x hx; cases hx
  | cons y ys ih =>
    intro pr h x hx
    obtain ⟨h1, _, h3⟩ := goodL_cons h
    rcases List.mem_cons.1 hx with rfl | hx
    · exact h1
    · exact ih _ h3 x hx
theorem rdl_mem {l : List S34} {i : Int} (h0 : 0 ≤ i) (h1 : i < l.length) : rd_T34 l i ∈ l := by
  have hi' : i.toNat < l.length := by omega
  have e : rd_T34 l i = l[i.toNat] := by unfold rd_T34; simp [List.getD_eq_getElem?_getD, hi']
  rw [e]
  exact List.getElem_mem hi'
/-- The last pulse that is not behind a count. -/
def lastP : List Int → Int → Int → Int
  | [], _, a => a
  | p :: ps, c, a => if p ≤ c then lastP ps c p else lastP ps c a
theorem lastP_nil (c a : Int) : lastP [] c a = a := rfl
theorem lastP_cons (p : Int) (ps : List Int) (c a : Int) : lastP (p :: ps) c a = if p ≤ c then lastP ps c p else lastP ps c a := rfl
def lab (ps : List Int) : List S34 → List S34
  | [] => []
  | x :: xs => if 0 ≤ lastP ps x.f0 (-1) ∧ x.f0 - lastP ps x.f0 (-1) ≤ 700000 then ⟨lastP ps x.f0 (-1), x.f1⟩ :: lab ps xs else lab ps xs
def labelP (ps : List Int) (ls : List S34) : List S34 := if okP ps = true ∧ okL ls = true then lab ps ls else []
theorem lastP_in (ps : List Int) (hr : ∀ x ∈ ps, 0 ≤ x ∧ x ≤ 100000000) (c : Int) : ∀ a, lastP ps c a = a ∨ (lastP ps c a ∈ ps ∧ lastP ps c a ≤ c) := by
  induction ps with
  | nil => intro a; exact .inl rfl
  | cons p ps ih =>
    intro a
    have ih' := ih (fun x hx => hr x (by simp [hx]))
    simp only [lastP]
    split
    · rename_i h
      rcases ih' p with e | ⟨e1, e2⟩
      · right; rw [e]; exact ⟨by simp, h⟩
      · exact .inr ⟨by simp [e1], e2⟩
    · rcases ih' a with e | ⟨e1, e2⟩
      · exact .inl e
      · exact .inr ⟨by simp [e1], e2⟩
theorem lastP_bd (ps : List Int) (hr : ∀ x ∈ ps, 0 ≤ x ∧ x ≤ 100000000) (c a : Int) (ha : -1 ≤ a ∧ a ≤ 100000000) : -1 ≤ lastP ps c a ∧ lastP ps c a ≤ 100000000 := by
  rcases lastP_in ps hr c a with e | ⟨e1, _⟩
  · rw [e]; exact ha
  · have := hr _ e1; omega
theorem lab_length (ps : List Int) (ls : List S34) : (lab ps ls).length ≤ ls.length := by
  induction ls with
  | nil => simp [lab]
  | cons x xs ih =>
    simp only [lab]
    split <;> simp only [List.length_cons] <;> omega
theorem labelP_length (ps : List Int) (ls : List S34) : (labelP ps ls).length ≤ ls.length := by
  unfold labelP
  split
  · exact lab_length ps ls
  · simp
theorem lab_i1 (ps : List Int) (hl : ps.length ≤ 16) (hr : ∀ x ∈ ps, 0 ≤ x ∧ x ≤ 100000000) (ls : List S34) (out : List S34) (ho : out.length ≤ 100) (i : Int) (hi : 0 ≤ i ∧ i ≤ 1000) (c t : Int) (hc : 0 ≤ c ∧ c ≤ 100000000) (n : Nat) : ∀ (q k : Nat) (a : Int), q + n = ps.length → n < k → -1 ≤ a → a ≤ 100000000 →
    impl_LabelPulses.l1 k ps out a ls (ls.length : Int) i ps (ps.length : Int) (q : Int) c t = (if 0 ≤ lastP (ps.drop q) c a ∧ c - lastP (ps.drop q) c a ≤ 700000 then impl_LabelPulses.l0 (k - (n + 1)) ps (out ++ [⟨lastP (ps.drop q) c a, t⟩]) ls (ls.length : Int) (i + 1) else impl_LabelPulses.l0 (k - (n + 1)) ps out ls (ls.length : Int) (i + 1)) := by
  induction n with
  | zero =>
    intro q k a h hk h1 h2
    obtain ⟨k, rfl⟩ : ∃ m, k = m + 1 := ⟨k - 1, by omega⟩
    rw [List.drop_eq_nil_of_le (by omega)]
    simp only [impl_LabelPulses.l1]
    rw [lastP_nil, if_neg (by omega), w64 (x := i + 1) (by omega) (by omega), w64 (x := c - a) (by omega) (by omega), show k + 1 - (0 + 1) = k by omega]
    by_cases ha : a ≥ 0
    · rw [if_pos ha]
      by_cases hb : c - a ≤ 700000
      · rw [if_pos hb, if_pos (by omega), if_pos ⟨ha, hb⟩]
      · rw [if_neg hb, if_neg (fun g => hb g.2)]
    · rw [if_neg ha, if_neg (fun g => ha g.1)]
  | succ n ih =>
    intro q k a h hk h1 h2
    obtain ⟨k, rfl⟩ : ∃ m, k = m + 1 := ⟨k - 1, by omega⟩
    have hp := hr _ (rd_mem (b := ps) (i := (q : Int)) (by omega) (by omega))
    simp only [impl_LabelPulses.l1]
    rw [if_pos (by omega), if_pos (by omega), if_pos (by omega), w64 (by omega) (by omega), drop_at ps q (by omega), show (q : Int) + 1 = ((q + 1 : Nat) : Int) by omega, show k + 1 - (n + 1 + 1) = k - (n + 1) by omega, lastP_cons]
    by_cases hle : rd ps (q : Int) ≤ c
    · simp only [if_pos hle]
      exact ih (q + 1) k _ (by omega) (by omega) (by omega) (by omega)
    · simp only [if_neg hle]
      exact ih (q + 1) k _ (by omega) (by omega) h1 h2
theorem lab_i0 (ps : List Int) (hl : ps.length ≤ 16) (hr : ∀ x ∈ ps, 0 ≤ x ∧ x ≤ 100000000) (ls : List S34) (hls : ls.length ≤ 16) (hrl : ∀ x ∈ ls, inL x) (n : Nat) : ∀ (i k : Nat) (out : List S34), i + n = ls.length → out.length ≤ i → 20 * n < k →
    impl_LabelPulses.l0 k ps out ls (ls.length : Int) (i : Int) = some (out ++ lab ps (ls.drop i)) := by
  induction n with
  | zero =>
    intro i k out h ho hk
    obtain ⟨k, rfl⟩ : ∃ m, k = m + 1 := ⟨k - 1, by omega⟩
    rw [List.drop_eq_nil_of_le (by omega)]
    simp only [impl_LabelPulses.l0, lab]
    rw [if_neg (by omega), List.append_nil]
  | succ n ih =>
    intro i k out h ho hk
    obtain ⟨k, rfl⟩ : ∃ m, k = m + 1 := ⟨k - 1, by omega⟩
    have hx := hrl _ (rdl_mem (l := ls) (i := (i : Int)) (by omega) (by omega))
    simp only [impl_LabelPulses.l0]
    rw [if_pos (by omega), if_pos (by omega), if_pos (by omega)]
    have e := lab_i1 ps hl hr ls out (by omega) (i : Int) (by omega) (rd_T34 ls (i : Int)).f0 (rd_T34 ls (i : Int)).f1 hx.1 ps.length 0 k (-1) (by omega) (by omega) (by omega) (by omega)
    rw [List.drop_zero, show ((0 : Nat) : Int) = 0 from rfl] at e
    rw [e, dropl_at ls i (by omega), show (i : Int) + 1 = ((i + 1 : Nat) : Int) by omega]
    simp only [lab]
    split
    · rw [ih (i + 1) _ _ (by omega) (by simp; omega) (by omega), List.append_assoc]
      rfl
    · exact ih (i + 1) _ _ (by omega) (by omega) (by omega)
theorem labelP_i {k : Nat} (ps : List Int) (ls : List S34) (h1 : ps.length ≤ 1048576) (h2 : ls.length ≤ 1048576) (hk : 400 < k) (hk1 : ps.length < k) (hk2 : ls.length < k) : impl_LabelPulses.f k ps ls = some (labelP ps ls) := by
  obtain ⟨k, rfl⟩ : ∃ m, k = m + 1 := ⟨k - 1, by omega⟩
  unfold impl_LabelPulses.f labelP
  rw [Option.bind_some, validP_i ps h1 hk1, Option.bind_some, validL_i ls h2 hk2, Option.bind_some]
  simp only [impl_LabelPulses.j0, if_true]
  by_cases hp : okP ps = true
  · rw [if_pos hp]
    by_cases hlb : okL ls = true
    · rw [if_neg (by simp [hlb]), if_pos ⟨hp, hlb⟩]
      have a : good none ps = true ∧ ps.length ≤ 16 := by simpa [okP] using hp
      have b : goodL none ls = true ∧ ls.length ≤ 16 := by simpa [okL] using hlb
      have := lab_i0 ps a.2 (good_range none a.1) ls b.2 (goodL_range none b.1) ls.length 0 k [] (by omega) (by simp) (by omega)
      simpa using this
    · rw [if_pos (by simpa using hlb), if_neg (fun g => hlb g.2)]
  · rw [if_neg hp, if_neg (fun g => hp g.1)]
theorem lab_s1 (ps : List Int) (hl : ps.length ≤ 16) (hr : ∀ x ∈ ps, 0 ≤ x ∧ x ≤ 100000000) (ls : List S34) (hls : ls.length ≤ 16) (out : List S34) (ho : out.length ≤ 100) (i : Nat) (hi : i < ls.length) (hc : inL (rd_T34 ls (i : Int))) (n : Nat) : ∀ (q k : Nat) (a : Int), q + n = ps.length → n < k → -1 ≤ a → a ≤ 100000000 →
    spec_LabelPulses.l1 k ps ls out (i : Int) a (q : Int) = (if 0 ≤ lastP (ps.drop q) (rd_T34 ls (i : Int)).f0 a ∧ (rd_T34 ls (i : Int)).f0 - lastP (ps.drop q) (rd_T34 ls (i : Int)).f0 a ≤ 700000 then spec_LabelPulses.l0 (k - (n + 1)) ps ls (out ++ [⟨lastP (ps.drop q) (rd_T34 ls (i : Int)).f0 a, (rd_T34 ls (i : Int)).f1⟩]) ((i : Int) + 1) else spec_LabelPulses.l0 (k - (n + 1)) ps ls out ((i : Int) + 1)) := by
  unfold inL at hc
  induction n with
  | zero =>
    intro q k a h hk h1 h2
    obtain ⟨k, rfl⟩ : ∃ m, k = m + 1 := ⟨k - 1, by omega⟩
    rw [List.drop_eq_nil_of_le (by omega)]
    simp only [spec_LabelPulses.l1]
    rw [lastP_nil, if_neg (by omega), w64 (x := (i : Int) + 1) (by omega) (by omega), w64 (x := (rd_T34 ls (i : Int)).f0 - a) (by omega) (by omega), show k + 1 - (0 + 1) = k by omega]
    by_cases ha : a ≥ 0
    · rw [if_pos ha, if_pos (by omega), if_pos (by omega)]
      by_cases hb : (rd_T34 ls (i : Int)).f0 - a ≤ 700000
      · rw [if_pos hb, if_pos (by omega), if_pos ⟨ha, hb⟩]
      · rw [if_neg hb, if_neg (fun g => hb g.2)]
    · rw [if_neg ha, if_neg (fun g => ha g.1)]
  | succ n ih =>
    intro q k a h hk h1 h2
    obtain ⟨k, rfl⟩ : ∃ m, k = m + 1 := ⟨k - 1, by omega⟩
    have hp := hr _ (rd_mem (b := ps) (i := (q : Int)) (by omega) (by omega))
    simp only [spec_LabelPulses.l1]
    rw [if_pos (by omega), if_pos (by omega), if_pos (by omega), if_pos (by omega), w64 (x := (q : Int) + 1) (by omega) (by omega), drop_at ps q (by omega), show (q : Int) + 1 = ((q + 1 : Nat) : Int) by omega, show k + 1 - (n + 1 + 1) = k - (n + 1) by omega, lastP_cons]
    by_cases hle : rd ps (q : Int) ≤ (rd_T34 ls (i : Int)).f0
    · simp only [if_pos hle]
      exact ih (q + 1) k _ (by omega) (by omega) (by omega) (by omega)
    · simp only [if_neg hle]
      exact ih (q + 1) k _ (by omega) (by omega) h1 h2
theorem lab_s0 (ps : List Int) (hl : ps.length ≤ 16) (hr : ∀ x ∈ ps, 0 ≤ x ∧ x ≤ 100000000) (ls : List S34) (hls : ls.length ≤ 16) (hrl : ∀ x ∈ ls, inL x) (n : Nat) : ∀ (i k : Nat) (out : List S34), i + n = ls.length → out.length ≤ i → 20 * n < k →
    spec_LabelPulses.l0 k ps ls out (i : Int) = some (out ++ lab ps (ls.drop i)) := by
  induction n with
  | zero =>
    intro i k out h ho hk
    obtain ⟨k, rfl⟩ : ∃ m, k = m + 1 := ⟨k - 1, by omega⟩
    rw [List.drop_eq_nil_of_le (by omega)]
    simp only [spec_LabelPulses.l0, lab]
    rw [if_neg (by omega), List.append_nil]
  | succ n ih =>
    intro i k out h ho hk
    obtain ⟨k, rfl⟩ : ∃ m, k = m + 1 := ⟨k - 1, by omega⟩
    have hx := hrl _ (rdl_mem (l := ls) (i := (i : Int)) (by omega) (by omega))
    simp only [spec_LabelPulses.l0]
    rw [if_pos (by omega)]
    have e := lab_s1 ps hl hr ls hls out (by omega) i (by omega) hx ps.length 0 k (-1) (by omega) (by omega) (by omega) (by omega)
    rw [List.drop_zero, show ((0 : Nat) : Int) = 0 from rfl] at e
    rw [e, dropl_at ls i (by omega), show (i : Int) + 1 = ((i + 1 : Nat) : Int) by omega]
    simp only [lab]
    split
    · rw [ih (i + 1) _ _ (by omega) (by simp; omega) (by omega), List.append_assoc]
      rfl
    · exact ih (i + 1) _ _ (by omega) (by omega) (by omega)
theorem labelP_s {k : Nat} (ps : List Int) (ls : List S34) (h1 : ps.length ≤ 1048576) (h2 : ls.length ≤ 1048576) (hk : 400 < k) (hk1 : ps.length < k) (hk2 : ls.length < k) : spec_LabelPulses.f k ps ls = some (labelP ps ls) := by
  obtain ⟨k, rfl⟩ : ∃ m, k = m + 1 := ⟨k - 1, by omega⟩
  unfold spec_LabelPulses.f labelP
  rw [Option.bind_some, validP_s ps h1 hk1, Option.bind_some, validL_s ls h2 hk2, Option.bind_some]
  simp only [spec_LabelPulses.j0, if_true]
  by_cases hp : okP ps = true
  · rw [if_pos hp]
    by_cases hlb : okL ls = true
    · rw [if_neg (by simp [hlb]), if_pos ⟨hp, hlb⟩]
      have a : good none ps = true ∧ ps.length ≤ 16 := by simpa [okP] using hp
      have b : goodL none ls = true ∧ ls.length ≤ 16 := by simpa [okL] using hlb
      have := lab_s0 ps a.2 (good_range none a.1) ls b.2 (goodL_range none b.1) ls.length 0 k [] (by omega) (by simp) (by omega)
      simpa using this
    · rw [if_pos (by simpa using hlb), if_neg (fun g => hlb g.2)]
  · rw [if_neg hp, if_neg (fun g => hp g.1)]
def toL (x : S56) : S34 := ⟨x.f0, x.f1⟩
theorem rdg_at (l : List S56) (i : Nat) (h : i < l.length) : rd_T56 l (i : Int) = l[i] := by unfold rd_T56; simp [List.getD_eq_getElem?_getD, h]
theorem fill_map {α β : Type} (g : α → β) (l : List α) (z v : β) (i : Nat) (h : i < l.length) (hv : v = g l[i]) : ((l.map g).take i ++ List.replicate (l.length - i) z).set i v = (l.map g).take (i + 1) ++ List.replicate (l.length - (i + 1)) z := by
  have := fill_step (l.map g) z v i (by simpa using h) (by simpa using hv)
  simpa using this
theorem toLabelS_l (l : List S56) (hl : l.length ≤ 1048576) (d : Nat) : ∀ (i k : Nat), i + d = l.length → d < k → laws_toLabelS.l0 k l ((l.map toL).take i ++ List.replicate (l.length - i) z34) (i : Int) = some (l.map toL) := by
  induction d with
  | zero =>
    intro i k h hk
    obtain ⟨k, rfl⟩ : ∃ m, k = m + 1 := ⟨k - 1, by omega⟩
    obtain rfl : i = l.length := by omega
    simp only [laws_toLabelS.l0]
    rw [if_neg (by omega), List.take_of_length_le (by simp)]
    simp
  | succ d ih =>
    intro i k h hk
    obtain ⟨k, rfl⟩ : ∃ m, k = m + 1 := ⟨k - 1, by omega⟩
    simp only [laws_toLabelS.l0]
    unfold laws_toLabel.f
    rw [if_pos (by omega), if_pos (by omega), Option.bind_some, if_pos (by simp; omega), w64 (by omega) (by omega), Int.toNat_natCast, fill_map toL l z34 _ i (by omega) (by rw [rdg_at l i (by omega)]; rfl)]
    exact ih (i + 1) k (by omega) (by omega)
theorem toLabelS_ok {k : Nat} (l : List S56) (hl : l.length ≤ 1048576) (hk : l.length < k) : laws_toLabelS.f k l = some (l.map toL) := by
  unfold laws_toLabelS.f
  rw [if_pos (by omega), if_pos (by omega), Int.toNat_natCast]
  exact toLabelS_l l hl l.length 0 k (by omega) hk
theorem eqLabelS_l (l : List S34) (hl : l.length ≤ 1048576) (d : Nat) : ∀ (i k : Nat), i + d = l.length → d < k → laws_eqLabelS.l0 k l l (i : Int) = some true := by
  induction d with
  | zero =>
    intro i k h hk
    obtain ⟨k, rfl⟩ : ∃ m, k = m + 1 := ⟨k - 1, by omega⟩
    simp only [laws_eqLabelS.l0]
    rw [if_neg (by omega)]
  | succ d ih =>
    intro i k h hk
    obtain ⟨k, rfl⟩ : ∃ m, k = m + 1 := ⟨k - 1, by omega⟩
    simp only [laws_eqLabelS.l0]
    unfold laws_eqLabel.f
    rw [if_pos (by omega), if_pos (by omega), if_pos (by omega), w64 (by omega) (by omega)]
    simp only [if_true, Option.bind_some]
    exact ih (i + 1) k (by omega) (by omega)
theorem eqLabelS_ok {k : Nat} (l : List S34) (hl : l.length ≤ 1048576) (hk : l.length < k) : laws_eqLabelS.f k l l = some true := by
  unfold laws_eqLabelS.f
  rw [if_pos rfl]
  exact eqLabelS_l l hl l.length 0 k (by omega) hk
theorem szLabelS_eq (l : List S56) (hs : l.length * 16 ≤ 140737488351232) : laws_szLabelS.f l 1048576 = some (if l.length ≤ 1048576 then 1048576 - (l.length : Int) else -1) := by
  unfold laws_szLabelS.f
  rw [w64 (by omega) (by omega)]
  by_cases h : l.length ≤ 1048576
  · rw [if_neg (by omega), if_pos h]
  · rw [if_pos (by omega), if_neg h]
/-- The numbers from a on. -/
def from_ (a : Int) : Nat → List Int
  | 0 => []
  | n + 1 => a :: from_ (a + 1) n
theorem from_succ (a : Int) (n : Nat) : from_ a (n + 1) = a :: from_ (a + 1) n := rfl
theorem from_length (n : Nat) : ∀ a, (from_ a n).length = n := by
  induction n with
  | zero => intro a; rfl
  | succ n ih => intro a; simp [from_, ih]
theorem mark_l (n : Nat) : ∀ (pre l : List Int) (a : Int) (k : Nat), l.length = n → n < k → 0 ≤ a → a + n ≤ 100000000 → pre.length + n ≤ 10000000 →
    laws_markIntS.l0 k (pre ++ l) a (pre.length : Int) = some (a + n, pre ++ from_ a n) := by
  induction n with
  | zero =>
    intro pre l a k hl hk h0 h1 h2
    obtain ⟨k, rfl⟩ : ∃ m, k = m + 1 := ⟨k - 1, by omega⟩
    obtain rfl : l = [] := List.eq_nil_of_length_eq_zero hl
    simp only [laws_markIntS.l0]
    rw [if_neg (by simp), List.append_nil]
    simp [from_]
  | succ n ih =>
    intro pre l a k hl hk h0 h1 h2
    obtain ⟨k, rfl⟩ : ∃ m, k = m + 1 := ⟨k - 1, by omega⟩
    obtain ⟨x, xs, rfl⟩ : ∃ x xs, l = x :: xs := by cases l with
      | nil => simp at hl
      | cons x xs => exact ⟨x, xs, rfl⟩
    simp only [laws_markIntS.l0]
    rw [if_pos (by simp; omega), if_pos (by omega), Int.toNat_natCast, List.set_append_right _ _ (by omega), Nat.sub_self, List.set_cons_zero, w64 (x := a + 1) (by omega) (by omega), w64 (x := (pre.length : Int) + 1) (by omega) (by omega)]
    have IH := ih (pre ++ [a]) xs (a + 1) k (by simpa using hl) (by omega) (by omega) (by omega) (by simp; omega)
    rw [show (((pre ++ [a]).length : Nat) : Int) = (pre.length : Int) + 1 by simp, List.append_assoc, List.append_assoc] at IH
    rw [show pre ++ a :: xs = pre ++ ([a] ++ xs) from rfl, IH]
    simp only [from_]
    congr 2
    omega
theorem mark_ok {k : Nat} (l : List Int) (a : Int) (hk : l.length < k) (h0 : 0 ≤ a ∧ a ≤ 1000) (hl : l.length ≤ 1048576) : ∃ m, laws_markIntS.f k l a = some (a + l.length, m) := by
  have := mark_l l.length [] l a k rfl hk h0.1 (by omega) (by simp; omega)
  exact ⟨_, this⟩
def fromL (a : Int) : Nat → List S34
  | 0 => []
  | n + 1 => ⟨a, a + 1⟩ :: fromL (a + 2) n
theorem fromL_succ (a : Int) (n : Nat) : fromL a (n + 1) = ⟨a, a + 1⟩ :: fromL (a + 2) n := rfl
theorem markL_l (n : Nat) : ∀ (pre l : List S34) (a : Int) (k : Nat), l.length = n → n < k → 0 ≤ a → a + 2 * n ≤ 100000000 → pre.length + n ≤ 10000000 →
    laws_markLabelS.l0 k (pre ++ l) a (pre.length : Int) = some (a + 2 * n, pre ++ fromL a n) := by
  induction n with
  | zero =>
    intro pre l a k hl hk h0 h1 h2
    obtain ⟨k, rfl⟩ : ∃ m, k = m + 1 := ⟨k - 1, by omega⟩
    obtain rfl : l = [] := List.eq_nil_of_length_eq_zero hl
    simp only [laws_markLabelS.l0]
    rw [if_neg (by simp), List.append_nil]
    simp [fromL]
  | succ n ih =>
    intro pre l a k hl hk h0 h1 h2
    obtain ⟨k, rfl⟩ : ∃ m, k = m + 1 := ⟨k - 1, by omega⟩
    obtain ⟨x, xs, rfl⟩ : ∃ x xs, l = x :: xs := by cases l with
      | nil => simp at hl
      | cons x xs => exact ⟨x, xs, rfl⟩
    have hr1 : ∀ y : S34, rd_T34 (pre ++ y :: xs) (pre.length : Int) = y := fun y => by rw [rdl_at _ _ (by simp)]; simp
    have hs1 : ∀ y z : S34, (pre ++ y :: xs).set pre.length z = pre ++ z :: xs := fun y z => by rw [List.set_append_right _ _ (by omega), Nat.sub_self, List.set_cons_zero]
    simp only [laws_markLabelS.l0]
    rw [if_pos (by simp; try omega), if_pos (by omega), Int.toNat_natCast, hr1, hs1, Option.bind_some, hr1, hs1, w64 (x := a + 1) (by omega) (by omega), w64 (x := a + 1 + 1) (by omega) (by omega), w64 (x := (pre.length : Int) + 1) (by omega) (by omega)]
    have IH := ih (pre ++ [⟨a, a + 1⟩]) xs (a + 2) k (by simpa using hl) (by omega) (by omega) (by omega) (by simp; omega)
    rw [show (((pre ++ [(⟨a, a + 1⟩ : S34)]).length : Nat) : Int) = (pre.length : Int) + 1 by simp, List.append_assoc, List.append_assoc] at IH
    rw [show a + 1 + 1 = a + 2 by omega, fromL_succ]
    have IH' : laws_markLabelS.l0 k (pre ++ (⟨a, a + 1⟩ : S34) :: xs) (a + 2) ((pre.length : Int) + 1) = some (a + 2 + 2 * n, pre ++ (⟨a, a + 1⟩ : S34) :: fromL (a + 2) n) := IH
    rw [IH']
    congr 2
    omega
theorem markL_ok {k : Nat} (l : List S34) (a : Int) (hk : l.length < k) (h0 : 0 ≤ a ∧ a ≤ 10000000) (hl : l.length ≤ 1048576) : ∃ m, laws_markLabelS.f k l a = some (a + 2 * l.length, m) := by
  have := markL_l l.length [] l a k rfl hk h0.1 (by omega) (by simp; omega)
  exact ⟨_, this⟩
theorem heldL_l (n : Nat) : ∀ (pre : List S34) (a : Int) (k : Nat), n < k → 0 ≤ a → a + 2 * n ≤ 100000000 → pre.length + n ≤ 10000000 →
    laws_heldLabelS.l0 k (pre ++ fromL a n) a (pre.length : Int) = some (a + 2 * n) := by
  induction n with
  | zero =>
    intro pre a k hk h0 h1 h2
    obtain ⟨k, rfl⟩ : ∃ m, k = m + 1 := ⟨k - 1, by omega⟩
    simp only [laws_heldLabelS.l0]
    rw [if_neg (by simp [fromL])]
    simp
  | succ n ih =>
    intro pre a k hk h0 h1 h2
    obtain ⟨k, rfl⟩ : ∃ m, k = m + 1 := ⟨k - 1, by omega⟩
    rw [fromL_succ]
    have hr : rd_T34 (pre ++ (⟨a, a + 1⟩ : S34) :: fromL (a + 2) n) (pre.length : Int) = ⟨a, a + 1⟩ := by rw [rdl_at _ _ (by simp)]; simp
    simp only [laws_heldLabelS.l0]
    rw [if_pos (by simp; try omega), if_pos (by omega), hr, if_pos rfl, w64 (x := a + 1) (by omega) (by omega), if_pos rfl, w64 (x := a + 1 + 1) (by omega) (by omega), w64 (x := (pre.length : Int) + 1) (by omega) (by omega), show a + 1 + 1 = a + 2 by omega]
    have IH := ih (pre ++ [⟨a, a + 1⟩]) (a + 2) k (by omega) (by omega) (by omega) (by simp; omega)
    rw [show (((pre ++ [(⟨a, a + 1⟩ : S34)]).length : Nat) : Int) = (pre.length : Int) + 1 by simp, List.append_assoc] at IH
    have IH' : laws_heldLabelS.l0 k (pre ++ (⟨a, a + 1⟩ : S34) :: fromL (a + 2) n) (a + 2) ((pre.length : Int) + 1) = some (a + 2 + 2 * n) := IH
    rw [IH']
    congr 1
    omega
theorem markL_held {k : Nat} (l : List S34) (a : Int) (hk : l.length < k) (h0 : 0 ≤ a ∧ a ≤ 1000) (hl : l.length ≤ 1048576) : ∃ m, laws_markLabelS.f k l a = some (a + 2 * l.length, m) ∧ laws_heldLabelS.f k m a = some (a + 2 * l.length) := by
  have h1 := markL_l l.length [] l a k rfl hk h0.1 (by omega) (by simp; omega)
  have h2 := heldL_l l.length [] a k hk h0.1 (by omega) (by simp; omega)
  exact ⟨_, h1, h2⟩
end KFnExactLabelPulses
open KFnExactLabelPulses
theorem FnExactLabelPulses (l : List Int) (_ : l.length * 8 ≤ 140737488351232) (ls : List S56) (hs : ls.length * 16 ≤ 140737488351232) : ∃ k, laws_FnExactLabelPulses.f k l ls = some true := by
  refine ⟨l.length + ls.length + 503, ?_⟩
  unfold laws_FnExactLabelPulses.f
  by_cases h0 : (l.length : Int) > 1048576
  · rw [if_pos h0]
  rw [if_neg h0, szLabelS_eq ls hs, Option.bind_some]
  by_cases h1 : ls.length ≤ 1048576
  · have hm : (ls.map toL).length = ls.length := List.length_map _
    have hlen := labelP_length l (ls.map toL)
    obtain ⟨m1, e1⟩ := mark_ok (k := l.length + ls.length + 503) l 1 (by omega) (by omega) (by omega)
    obtain ⟨m2, e2⟩ := markL_ok (k := l.length + ls.length + 503) (ls.map toL) (1 + l.length) (by omega) (by omega) (by omega)
    obtain ⟨m3, e3, hh⟩ := markL_held (k := l.length + ls.length + 502) (labelP l (ls.map toL)) 1 (by omega) (by omega) (by omega)
    rw [if_pos h1, if_neg (by omega), toIntS_ok l (by omega) (by omega), Option.bind_some, toLabelS_ok ls h1 (by omega), Option.bind_some, labelP_s _ _ (by omega) (by omega) (by omega) (by omega) (by omega), Option.bind_some, Option.bind_some, Option.bind_some, labelP_i _ _ (by omega) (by omega) (by omega) (by omega) (by omega), Option.bind_some, eqLabelS_ok _ (by omega) (by omega), Option.bind_some, if_pos rfl, Option.bind_some, eqIntS_ok l (by omega) (by omega), Option.bind_some, if_pos rfl, Option.bind_some, eqLabelS_ok _ (by omega) (by omega), Option.bind_some, if_pos rfl, e1, Option.bind_some, e2, Option.bind_some]
    dsimp only
    rw [if_neg (by omega), Option.bind_some]
    simp only [laws_FnExactLabelPulses.j0]
    rw [if_neg (by simp), e3, Option.bind_some]
    dsimp only
    rw [hh, Option.bind_some, if_neg (by omega), if_pos rfl, toIntS_ok l (by omega) (by omega), Option.bind_some, toLabelS_ok ls h1 (by omega), Option.bind_some, labelP_i _ _ (by omega) (by omega) (by omega) (by omega) (by omega), Option.bind_some, eqLabelS_ok _ (by omega) (by omega), Option.bind_some, if_pos rfl, Option.bind_some, if_neg (by omega), if_pos rfl]
  · rw [if_neg h1]
    rfl

end Go.Proofs.Ytchlfonhhmkipaa.Pure
