/- Proved: the program's GainOf returns what the reference's returns, for all arguments (FnExactGainOf); no condition beyond the statement's own. -/
import Derived.Test.YtpkpbcfehllehaaPFnExactGainOfx
import Derived.Laws.BitsLemmas
namespace Go.Proofs.Ytpkpbcfehllehaa.Pure
open Go Go.RowKit Go.Proofs.Ytpkpbcfehllehaa.PFnExactGainOf Go.Proofs.YtpkpbcfehllehaaW.PrintWords Go.Proofs.YtpkpbcfehllehaaW.PrintLast Go.Proofs.YtpkpbcfehllehaaW.PrintMore

namespace KFnExactGainOf
theorem w64 {x : Int} (h1 : -9223372036854775808 ≤ x) (h2 : x < 9223372036854775808) : wrap64 x = x := by unfold wrap64; omega
theorem i64wrap (x : Int) : IntKind.i64.wrap x = wrap64 x := by rw [IntKind.wrap_i64]; unfold wrap64; rfl
theorem tm {a b : Int} (h : 0 ≤ a) : Int.tmod a b = a % b := Int.tmod_eq_emod_of_nonneg h
theorem td {a b : Int} (h : 0 ≤ a) : Int.tdiv a b = a / b := Int.tdiv_eq_ediv_of_nonneg h
theorem sval {α : Type} {x : Option α} {a : α} (h : x = some a) {β : Type} (f : α → Option β) : x.bind f = f a := by rw [h]; rfl
theorem within_eq (n lo hi : Int) : impl_within.f n lo hi = some (decide (lo ≤ n ∧ n ≤ hi)) := by
  unfold impl_within.f
  by_cases h : lo ≤ n <;> simp [h]
theorem inRange_eq (n lo hi : Int) : spec_inRange.f n lo hi = some (decide (lo ≤ n ∧ n ≤ hi)) := by
  unfold spec_inRange.f
  by_cases h : lo ≤ n <;> simp [h]
theorem fill_step {α : Type} (l : List α) (z v : α) (i : Nat) (h : i < l.length) (hv : v = l[i]) : (l.take i ++ List.replicate (l.length - i) z).set i v = l.take (i + 1) ++ List.replicate (l.length - (i + 1)) z := by
  have e : l.length - i = (l.length - (i + 1)) + 1 := by omega
  have ht : (l.take i).length = i := by rw [List.length_take]; omega
  rw [List.set_append_right i v (by omega), ht, Nat.sub_self, e, List.replicate_succ, List.set_cons_zero, hv, show List.take (i + 1) l = List.take i l ++ [l[i]] from List.take_succ_eq_append_getElem h, List.append_assoc]
  rfl
theorem fill_end {α : Type} (l : List α) (z : α) : l.take l.length ++ List.replicate (l.length - l.length) z = l := by simp
theorem rd_at (l : List Int) (i : Nat) (h : i < l.length) : rd l (i : Int) = l[i] := by unfold rd; simp [List.getD_eq_getElem?_getD, h]
theorem rdl_at (l : List S40) (i : Nat) (h : i < l.length) : rd_T40 l (i : Int) = l[i] := by unfold rd_T40; simp [List.getD_eq_getElem?_getD, h]
theorem dropl_at (l : List S40) (i : Nat) (h : i < l.length) : l.drop i = rd_T40 l (i : Int) :: l.drop (i + 1) := by
  rw [rdl_at l i h, List.drop_eq_getElem_cons h]
def inL (x : S40) : Prop := (0 ≤ x.f0 ∧ x.f0 ≤ 100000000) ∧ 0 ≤ x.f1 ∧ x.f1 ≤ 3786479999
instance (x : S40) : Decidable (inL x) := by unfold inL; infer_instance
/-- Labels in their range whose counts ascend. -/
def goodL : Option Int → List S40 → Bool
  | _, [] => true
  | none, x :: xs => decide (inL x) && goodL (some x.f0) xs
  | some p, x :: xs => decide (inL x) && (decide (p < x.f0) && goodL (some x.f0) xs)
def prevL (l : List S40) (i : Nat) : Option Int := if i = 0 then none else some (rd_T40 l ((i : Int) - 1)).f0
theorem prevL_succ (l : List S40) (i : Nat) : prevL l (i + 1) = some (rd_T40 l (i : Int)).f0 := by unfold prevL; rw [if_neg (by omega), show ((i + 1 : Nat) : Int) - 1 = (i : Int) by omega]
def okL (l : List S40) : Bool := goodL none l && decide (l.length ≤ 16)
theorem inL_f {x : S40} (h : ¬ inL x) (h1 : 0 ≤ x.f0 ∧ x.f0 ≤ 100000000) : ¬ (0 ≤ x.f1 ∧ x.f1 ≤ 3786479999) := fun g => h ⟨h1, g⟩
theorem goodL_out (l : List S40) (i : Nat) (x : S40) (xs : List S40) (h : ¬ inL x) : goodL (prevL l i) (x :: xs) = false := by
  unfold prevL
  split <;> simp only [goodL, decide_eq_false h, Bool.false_and]
theorem validL_il (l : List S40) (hl : l.length ≤ 1048576) (n : Nat) : ∀ (i k : Nat), i + n = l.length → n < k → impl_labelsValid.l0 k l l (l.length : Int) (i : Int) = some (goodL (prevL l i) (l.drop i) && decide (l.length ≤ 16)) := by
  induction n with
  | zero =>
    intro i k h hk
    obtain ⟨k, rfl⟩ : ∃ m, k = m + 1 := ⟨k - 1, by omega⟩
    simp only [impl_labelsValid.l0]
    rw [if_neg (by omega), List.drop_eq_nil_of_le (by omega)]
    unfold prevL
    split <;> (simp only [goodL, Bool.true_and]; exact congrArg some (decide_eq_decide.2 (by omega)))
  | succ n ih =>
    intro i k h hk
    obtain ⟨k, rfl⟩ : ∃ m, k = m + 1 := ⟨k - 1, by omega⟩
    have IH := ih (i + 1) k (by omega) (by omega)
    rw [prevL_succ, show ((i + 1 : Nat) : Int) = (i : Int) + 1 by omega] at IH
    simp only [impl_labelsValid.l0]
    unfold impl_isTime.f
    rw [if_pos (by omega), if_pos (by omega), if_pos (by omega), within_eq, Option.bind_some, within_eq, Option.bind_some, Option.bind_some, dropl_at l i (by omega), w64 (x := (i : Int) + 1) (by omega) (by omega), IH]
    generalize hx : rd_T40 l (i : Int) = x
    by_cases hin : inL x
    · rw [if_pos (decide_eq_true hin.1), if_pos (decide_eq_true hin.2)]
      by_cases h0 : i = 0
      · subst h0
        rw [if_neg (by omega)]
        simp only [prevL, if_true, goodL, decide_eq_true hin, Bool.true_and]
      · rw [if_pos (by omega), w64 (by omega) (by omega), if_pos (by omega), if_pos (by omega)]
        unfold prevL
        rw [if_neg h0]
        simp only [goodL, decide_eq_true hin, Bool.true_and]
        by_cases h2 : (rd_T40 l ((i : Int) - 1)).f0 < x.f0
        · rw [if_neg (by omega), decide_eq_true h2, Bool.true_and]
        · rw [if_pos (by omega), decide_eq_false h2, Bool.false_and, Bool.false_and]
    · rw [goodL_out l i x _ hin, Bool.false_and]
      by_cases h1 : 0 ≤ x.f0 ∧ x.f0 ≤ 100000000
      · rw [if_pos (decide_eq_true h1), if_neg (by simpa using inL_f hin h1)]
      · rw [if_neg (by simpa using h1)]
theorem validL_i {k : Nat} (l : List S40) (hl : l.length ≤ 1048576) (hk : l.length < k) : impl_labelsValid.f k l = some (okL l) := by
  have := validL_il l hl l.length 0 k (by omega) hk
  simpa [impl_labelsValid.f, okL, prevL] using this
theorem validL_sl (l : List S40) (hl : l.length ≤ 1048576) (n : Nat) : ∀ (i k : Nat), i + n = l.length → n < k → spec_validLabels.l0 k l (i : Int) = some (goodL (prevL l i) (l.drop i) && decide (l.length ≤ 16)) := by
  induction n with
  | zero =>
    intro i k h hk
    obtain ⟨k, rfl⟩ : ∃ m, k = m + 1 := ⟨k - 1, by omega⟩
    simp only [spec_validLabels.l0]
    rw [if_neg (by omega), List.drop_eq_nil_of_le (by omega)]
    unfold prevL
    split <;> (simp only [goodL, Bool.true_and]; exact congrArg some (decide_eq_decide.2 (by omega)))
  | succ n ih =>
    intro i k h hk
    obtain ⟨k, rfl⟩ : ∃ m, k = m + 1 := ⟨k - 1, by omega⟩
    have IH := ih (i + 1) k (by omega) (by omega)
    rw [prevL_succ, show ((i + 1 : Nat) : Int) = (i : Int) + 1 by omega] at IH
    simp only [spec_validLabels.l0]
    unfold spec_validTime.f
    rw [if_pos (by omega), if_pos (by omega), inRange_eq, Option.bind_some, inRange_eq, Option.bind_some, Option.bind_some, dropl_at l i (by omega), w64 (x := (i : Int) + 1) (by omega) (by omega), IH]
    generalize hx : rd_T40 l (i : Int) = x
    by_cases hin : inL x
    · rw [if_pos (decide_eq_true hin.1), if_pos (decide_eq_true hin.2)]
      by_cases h0 : i = 0
      · subst h0
        rw [if_neg (by omega)]
        simp only [prevL, if_true, goodL, decide_eq_true hin, Bool.true_and]
      · rw [if_pos (by omega), w64 (by omega) (by omega), if_pos (by omega), if_pos (by omega)]
        unfold prevL
        rw [if_neg h0]
        simp only [goodL, decide_eq_true hin, Bool.true_and]
        by_cases h2 : (rd_T40 l ((i : Int) - 1)).f0 < x.f0
        · rw [if_neg (by omega), decide_eq_true h2, Bool.true_and]
        · rw [if_pos (by omega), decide_eq_false h2, Bool.false_and, Bool.false_and]
    · rw [goodL_out l i x _ hin, Bool.false_and]
      by_cases h1 : 0 ≤ x.f0 ∧ x.f0 ≤ 100000000
      · rw [if_pos (decide_eq_true h1), if_neg (by simpa using inL_f hin h1)]
      · rw [if_neg (by simpa using h1)]
theorem validL_s {k : Nat} (l : List S40) (hl : l.length ≤ 1048576) (hk : l.length < k) : spec_validLabels.f k l = some (okL l) := by
  have := validL_sl l hl l.length 0 k (by omega) hk
  simpa [spec_validLabels.f, okL, prevL] using this
theorem goodL_cons {pr : Option Int} {x : S40} {xs : List S40} (h : goodL pr (x :: xs) = true) : inL x ∧ (∀ p, pr = some p → p < x.f0) ∧ goodL (some x.f0) xs = true := by
  cases pr with
  | none => simp [goodL] at h; exact ⟨h.1, fun p e => (by cases e), h.2⟩
  | some p => simp [goodL] at h; exact ⟨h.1, fun q e => (by cases e; exact h.2.1), h.2.2⟩
theorem goodL_mk {pr : Option Int} {x : S40} {xs : List S40} (h1 : inL x) (h2 : ∀ p, pr = some p → p < x.f0) (h3 : goodL (some x.f0) xs = true) : goodL pr (x :: xs) = true := by
  cases pr with
  | none => simp [goodL, h1, h3]
  | some p => simp [goodL, h1, h3, h2 p rfl]
theorem goodL_tail {pr : Option Int} {x : S40} {xs : List S40} (h : goodL pr (x :: xs) = true) : goodL pr xs = true := by
  obtain ⟨h1, h2, h3⟩ := goodL_cons h
  cases xs with
  | nil => cases pr <;> rfl
  | cons y ys =>
    obtain ⟨g1, g2, g3⟩ := goodL_cons h3
    exact goodL_mk g1 (fun p e => by have := h2 p e; have := g2 x.f0 rfl; omega) g3
theorem goodL_sub {a l : List S40} (h : List.Sublist a l) : ∀ pr, goodL pr l = true → goodL pr a = true := by
  induction h with
  | slnil => intro pr h; exact h
  | cons x _ ih => intro pr h; exact ih pr (goodL_tail h)
  | cons_cons x _ ih =>
    intro pr h
    obtain ⟨h1, h2, h3⟩ := goodL_cons h
    exact goodL_mk h1 h2 (ih _ h3)
theorem okL_sub {a l : List S40} (h : List.Sublist a l) (hl : okL l = true) : okL a = true := by
  have hlen := h.length_le
  simp only [okL, Bool.and_eq_true, decide_eq_true_eq] at hl ⊢
  exact ⟨goodL_sub h _ hl.1, by omega⟩
theorem goodL_range {l : List S40} : ∀ pr, goodL pr l = true → ∀ x ∈ l, inL x := by
  induction l with
  | nil => intro pr _ x hx; cases hx
  | cons y ys ih =>
    intro pr h x hx
    obtain ⟨h1, _, h3⟩ := goodL_cons h
    rcases List.mem_cons.1 hx with rfl | hx
    · exact h1
    · exact ih _ h3 x hx
theorem rdl_mem {l : List S40} {i : Int} (h0 : 0 ≤ i) (h1 : i < l.length) : rd_T40 l i ∈ l := by
  have hi' : i.toNat < l.length := by omega
  have e : rd_T40 l i = l[i.toNat] := by unfold rd_T40; simp [List.getD_eq_getElem?_getD, hi']
  rw [e]
  exact List.getElem_mem hi'
/-- Times that ascend. -/
def tasc : Int → List S40 → Bool
  | _, [] => true
  | p, x :: xs => decide (p < x.f1) && tasc x.f1 xs
theorem tasc_cons (p : Int) (x : S40) (xs : List S40) : tasc p (x :: xs) = (decide (p < x.f1) && tasc x.f1 xs) := rfl
def lastL (l : List S40) : S40 := rd_T40 l ((l.length : Int) - 1)
def gainOf (l : List S40) : Int := (lastL l).f0 - (rd_T40 l 0).f0 - 1000000 * ((lastL l).f1 - (rd_T40 l 0).f1)
def gain (l : List S40) : Int × Bool := if okL l = true ∧ 2 ≤ l.length ∧ tasc (rd_T40 l 0).f1 (l.drop 1) = true then (gainOf l, true) else (0, false)
theorem gain_wraps (l : List S40) (h : okL l = true) (h2 : 2 ≤ l.length) : wrap64 (wrap64 ((rd_T40 l ((l.length : Int) - 1)).f0 - (rd_T40 l 0).f0) - wrap64 (1000000 * wrap64 ((rd_T40 l ((l.length : Int) - 1)).f1 - (rd_T40 l 0).f1))) = gainOf l := by
  have h' : goodL none l = true ∧ l.length ≤ 16 := by simpa [okL] using h
  have hr := goodL_range none h'.1
  have a := hr _ (rdl_mem (l := l) (i := 0) (by omega) (by omega))
  have b := hr _ (rdl_mem (l := l) (i := (l.length : Int) - 1) (by omega) (by omega))
  unfold inL at a b
  unfold gainOf lastL
  generalize rd_T40 l 0 = x at *
  generalize rd_T40 l ((l.length : Int) - 1) = y at *
  rw [w64 (x := y.f0 - x.f0) (by omega) (by omega), w64 (x := y.f1 - x.f1) (by omega) (by omega), w64 (x := 1000000 * (y.f1 - x.f1)) (by omega) (by omega), w64 (by omega) (by omega)]
theorem gain_il (l : List S40) (h : okL l = true) (h2 : 2 ≤ l.length) (n : Nat) : ∀ (i k : Nat), 1 ≤ i → i + n = l.length → n < k → impl_GainOf.l0 k l (l.length : Int) (i : Int) = some (if tasc (rd_T40 l ((i : Int) - 1)).f1 (l.drop i) = true then (gainOf l, true) else (0, false)) := by
  have h' : goodL none l = true ∧ l.length ≤ 16 := by simpa [okL] using h
  induction n with
  | zero =>
    intro i k hi hn hk
    obtain ⟨k, rfl⟩ : ∃ m, k = m + 1 := ⟨k - 1, by omega⟩
    simp only [impl_GainOf.l0]
    rw [if_neg (by omega), w64 (x := (l.length : Int) - 1) (by omega) (by omega), if_pos (by omega), if_pos (by omega), if_pos (by omega), gain_wraps l h h2, List.drop_eq_nil_of_le (by omega)]
    rfl
  | succ n ih =>
    intro i k hi hn hk
    obtain ⟨k, rfl⟩ : ∃ m, k = m + 1 := ⟨k - 1, by omega⟩
    have IH := ih (i + 1) k (by omega) (by omega) (by omega)
    rw [show ((i + 1 : Nat) : Int) - 1 = (i : Int) by omega, show ((i + 1 : Nat) : Int) = (i : Int) + 1 by omega] at IH
    simp only [impl_GainOf.l0]
    rw [if_pos (by omega), w64 (x := (i : Int) - 1) (by omega) (by omega), if_pos (by omega), if_pos (by omega), if_pos (by omega), if_pos (by omega), w64 (by omega) (by omega), IH, dropl_at l i (by omega)]
    rw [tasc_cons]
    by_cases ht : (rd_T40 l ((i : Int) - 1)).f1 < (rd_T40 l (i : Int)).f1
    · rw [if_neg (by omega), decide_eq_true ht, Bool.true_and]
    · rw [if_pos (by omega), decide_eq_false ht, Bool.false_and]
      rfl
theorem gain_i {k : Nat} (l : List S40) (hl : l.length ≤ 1048576) (hk : l.length + 1 < k) : impl_GainOf.f k l = some (gain l) := by
  obtain ⟨k, rfl⟩ : ∃ m, k = m + 1 := ⟨k - 1, by omega⟩
  unfold impl_GainOf.f gain
  rw [validL_i l hl (by omega)]
  simp only [Option.bind_some, impl_GainOf.j0, if_true]
  by_cases h2 : (l.length : Int) < 2
  · rw [if_pos h2, if_neg (by omega)]
  · rw [if_neg h2]
    cases ho : okL l with
    | false => rw [if_pos (by simp), if_neg (by simp)]
    | true =>
      rw [if_neg (by simp)]
      have := gain_il l ho (by omega) (l.length - 1) 1 k (by omega) (by omega) (by omega)
      rw [show ((1 : Nat) : Int) = 1 from rfl, show (1 : Int) - 1 = 0 from rfl] at this
      rw [this]
      by_cases ht : tasc (rd_T40 l 0).f1 (l.drop 1) = true
      · rw [if_pos ht, if_pos ⟨rfl, by omega, ht⟩]
      · rw [if_neg ht, if_neg (fun g => ht g.2.2)]
theorem gain_sl (l : List S40) (h : okL l = true) (h2 : 2 ≤ l.length) (n : Nat) : ∀ (i k : Nat), 1 ≤ i → i + n = l.length → n < k → spec_GainOf.l0 k l (i : Int) = some (if tasc (rd_T40 l ((i : Int) - 1)).f1 (l.drop i) = true then (gainOf l, true) else (0, false)) := by
  have h' : goodL none l = true ∧ l.length ≤ 16 := by simpa [okL] using h
  induction n with
  | zero =>
    intro i k hi hn hk
    obtain ⟨k, rfl⟩ : ∃ m, k = m + 1 := ⟨k - 1, by omega⟩
    simp only [spec_GainOf.l0]
    rw [if_neg (by omega), w64 (x := (l.length : Int) - 1) (by omega) (by omega), if_pos (by omega), if_pos (by omega), if_pos (by omega), gain_wraps l h h2, List.drop_eq_nil_of_le (by omega)]
    rfl
  | succ n ih =>
    intro i k hi hn hk
    obtain ⟨k, rfl⟩ : ∃ m, k = m + 1 := ⟨k - 1, by omega⟩
    have IH := ih (i + 1) k (by omega) (by omega) (by omega)
    rw [show ((i + 1 : Nat) : Int) - 1 = (i : Int) by omega, show ((i + 1 : Nat) : Int) = (i : Int) + 1 by omega] at IH
    simp only [spec_GainOf.l0]
    rw [if_pos (by omega), if_pos (by omega), w64 (x := (i : Int) - 1) (by omega) (by omega), if_pos (by omega), if_pos (by omega), w64 (by omega) (by omega), IH, dropl_at l i (by omega)]
    rw [tasc_cons]
    by_cases ht : (rd_T40 l ((i : Int) - 1)).f1 < (rd_T40 l (i : Int)).f1
    · rw [if_neg (by omega), decide_eq_true ht, Bool.true_and]
    · rw [if_pos (by omega), decide_eq_false ht, Bool.false_and]
      rfl
theorem gain_s {k : Nat} (l : List S40) (hl : l.length ≤ 1048576) (hk : l.length + 1 < k) : spec_GainOf.f k l = some (gain l) := by
  obtain ⟨k, rfl⟩ : ∃ m, k = m + 1 := ⟨k - 1, by omega⟩
  unfold spec_GainOf.f gain
  rw [validL_s l hl (by omega), Option.bind_some]
  simp only [spec_GainOf.j0, if_true]
  cases ho : okL l with
  | false => rw [if_neg (by simp), if_neg (by simp)]
  | true =>
    rw [if_pos rfl]
    by_cases h2 : (l.length : Int) < 2
    · rw [if_pos (by simpa using h2), if_neg (by omega)]
    · rw [if_neg (by simpa using h2)]
      have := gain_sl l ho (by omega) (l.length - 1) 1 k (by omega) (by omega) (by omega)
      rw [show ((1 : Nat) : Int) = 1 from rfl, show (1 : Int) - 1 = 0 from rfl] at this
      rw [this]
      by_cases ht : tasc (rd_T40 l 0).f1 (l.drop 1) = true
      · rw [if_pos ht, if_pos ⟨rfl, by omega, ht⟩]
      · rw [if_neg ht, if_neg (fun g => ht g.2.2)]
def toL (x : S47) : S40 := ⟨x.f0, x.f1⟩
theorem rdg_at (l : List S47) (i : Nat) (h : i < l.length) : rd_T47 l (i : Int) = l[i] := by unfold rd_T47; simp [List.getD_eq_getElem?_getD, h]
theorem fill_map {α β : Type} (g : α → β) (l : List α) (z v : β) (i : Nat) (h : i < l.length) (hv : v = g l[i]) : ((l.map g).take i ++ List.replicate (l.length - i) z).set i v = (l.map g).take (i + 1) ++ List.replicate (l.length - (i + 1)) z := by
  have := fill_step (l.map g) z v i (by simpa using h) (by simpa using hv)
  simpa using this
theorem toLabelS_l (l : List S47) (hl : l.length ≤ 1048576) (d : Nat) : ∀ (i k : Nat), i + d = l.length → d < k → laws_toLabelS.l0 k l ((l.map toL).take i ++ List.replicate (l.length - i) z40) (i : Int) = some (l.map toL) := by
  induction d with
  | zero =>
    intro i k h hk
    obtain ⟨k, rfl⟩ : ∃ m, k = m + 1 := ⟨k - 1, by omega⟩
    obtain rfl : i = l.length := by omega
    simp only [laws_toLabelS.l0]
    rw [if_neg (by omega), List.take_of_length_le (by simp)]
    simp
  | succ d ih =>
    intro i k h hk
    obtain ⟨k, rfl⟩ : ∃ m, k = m + 1 := ⟨k - 1, by omega⟩
    simp only [laws_toLabelS.l0]
    unfold laws_toLabel.f
    rw [if_pos (by omega), if_pos (by omega), Option.bind_some, if_pos (by simp; omega), w64 (by omega) (by omega), Int.toNat_natCast, fill_map toL l z40 _ i (by omega) (by rw [rdg_at l i (by omega)]; rfl)]
    exact ih (i + 1) k (by omega) (by omega)
theorem toLabelS_ok {k : Nat} (l : List S47) (hl : l.length ≤ 1048576) (hk : l.length < k) : laws_toLabelS.f k l = some (l.map toL) := by
  unfold laws_toLabelS.f
  rw [if_pos (by omega), if_pos (by omega), Int.toNat_natCast]
  exact toLabelS_l l hl l.length 0 k (by omega) hk
theorem eqLabelS_l (l : List S40) (hl : l.length ≤ 1048576) (d : Nat) : ∀ (i k : Nat), i + d = l.length → d < k → laws_eqLabelS.l0 k l l (i : Int) = some true := by
  induction d with
  | zero =>
    intro i k h hk
    obtain ⟨k, rfl⟩ : ∃ m, k = m + 1 := ⟨k - 1, by omega⟩
    simp only [laws_eqLabelS.l0]
    rw [if_neg (by omega)]
  | succ d ih =>
    intro i k h hk
    obtain ⟨k, rfl⟩ : ∃ m, k = m + 1 := ⟨k - 1, by omega⟩
    simp only [laws_eqLabelS.l0]
    unfold laws_eqLabel.f
    rw [if_pos (by omega), if_pos (by omega), if_pos (by omega), w64 (by omega) (by omega)]
    simp only [if_true, Option.bind_some]
    exact ih (i + 1) k (by omega) (by omega)
theorem eqLabelS_ok {k : Nat} (l : List S40) (hl : l.length ≤ 1048576) (hk : l.length < k) : laws_eqLabelS.f k l l = some true := by
  unfold laws_eqLabelS.f
  rw [if_pos rfl]
  exact eqLabelS_l l hl l.length 0 k (by omega) hk
theorem szLabelS_eq (l : List S47) (hs : l.length * 16 ≤ 140737488351232) : laws_szLabelS.f l 1048576 = some (if l.length ≤ 1048576 then 1048576 - (l.length : Int) else -1) := by
  unfold laws_szLabelS.f
  rw [w64 (by omega) (by omega)]
  by_cases h : l.length ≤ 1048576
  · rw [if_neg (by omega), if_pos h]
  · rw [if_pos (by omega), if_neg h]
end KFnExactGainOf
open KFnExactGainOf
theorem FnExactGainOf (l : List S47) (hs : l.length * 16 ≤ 140737488351232) : ∃ k, laws_FnExactGainOf.f k l = some true := by
  refine ⟨l.length + 3, ?_⟩
  unfold laws_FnExactGainOf.f
  rw [szLabelS_eq l hs, Option.bind_some]
  by_cases h0 : l.length ≤ 1048576
  · have hm : (l.map toL).length = l.length := List.length_map _
    rw [if_pos h0, if_neg (by omega), toLabelS_ok l h0 (by omega), Option.bind_some, gain_s _ (by omega) (by omega), Option.bind_some, Option.bind_some, gain_i _ (by omega) (by omega), Option.bind_some, if_pos rfl]
    simp only [laws_FnExactGainOf.j0]
    rw [if_neg (by simp), toLabelS_ok l h0 (by omega), Option.bind_some, eqLabelS_ok _ (by omega) (by omega)]
    rfl
  · rw [if_neg h0]
    rfl

end Go.Proofs.Ytpkpbcfehllehaa.Pure
