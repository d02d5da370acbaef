/- Proved: the program's CleanPulses returns what the reference's returns, for all arguments, and its result shares no memory (FnExactCleanPulses); no condition beyond the statement's own. -/
import Derived.Test.YtpkpbcfehllehaaPFnExactCleanPulsesx3
import Derived.Laws.BitsLemmas
namespace Go.Proofs.Ytpkpbcfehllehaa.Pure
open Go Go.RowKit Go.Proofs.Ytpkpbcfehllehaa.PFnExactCleanPulses Go.Proofs.YtpkpbcfehllehaaW.PrintWords Go.Proofs.YtpkpbcfehllehaaW.PrintLast Go.Proofs.YtpkpbcfehllehaaW.PrintMore

namespace KFnExactCleanPulses
theorem w64 {x : Int} (h1 : -9223372036854775808 ≤ x) (h2 : x < 9223372036854775808) : wrap64 x = x := by unfold wrap64; omega
theorem i64wrap (x : Int) : IntKind.i64.wrap x = wrap64 x := by rw [IntKind.wrap_i64]; unfold wrap64; rfl
theorem tm {a b : Int} (h : 0 ≤ a) : Int.tmod a b = a % b := Int.tmod_eq_emod_of_nonneg h
theorem td {a b : Int} (h : 0 ≤ a) : Int.tdiv a b = a / b := Int.tdiv_eq_ediv_of_nonneg h
theorem sval {α : Type} {x : Option α} {a : α} (h : x = some a) {β : Type} (f : α → Option β) : x.bind f = f a := by rw [h]; rfl
theorem within_eq (n lo hi : Int) : impl_within.f n lo hi = some (decide (lo ≤ n ∧ n ≤ hi)) := by
  unfold impl_within.f
  by_cases h : lo ≤ n <;> simp [h]
theorem inRange_eq (n lo hi : Int) : spec_inRange.f n lo hi = some (decide (lo ≤ n ∧ n ≤ hi)) := by
  unfold spec_inRange.f
  by_cases h : lo ≤ n <;> simp [h]
theorem fill_step {α : Type} (l : List α) (z v : α) (i : Nat) (h : i < l.length) (hv : v = l[i]) : (l.take i ++ List.replicate (l.length - i) z).set i v = l.take (i + 1) ++ List.replicate (l.length - (i + 1)) z := by
  have e : l.length - i = (l.length - (i + 1)) + 1 := by omega
  have ht : (l.take i).length = i := by rw [List.length_take]; omega
  rw [List.set_append_right i v (by omega), ht, Nat.sub_self, e, List.replicate_succ, List.set_cons_zero, hv, show List.take (i + 1) l = List.take i l ++ [l[i]] from List.take_succ_eq_append_getElem h, List.append_assoc]
  rfl
theorem fill_end {α : Type} (l : List α) (z : α) : l.take l.length ++ List.replicate (l.length - l.length) z = l := by simp
theorem rd_at (l : List Int) (i : Nat) (h : i < l.length) : rd l (i : Int) = l[i] := by unfold rd; simp [List.getD_eq_getElem?_getD, h]
theorem toIntS_l (l : List Int) (hl : l.length ≤ 1048576) (d : Nat) : ∀ (i k : Nat), i + d = l.length → d < k → laws_toIntS.l0 k l (l.take i ++ List.replicate (l.length - i) 0) (i : Int) = some l := by
  induction d with
  | zero =>
    intro i k h hk
    obtain ⟨k, rfl⟩ : ∃ m, k = m + 1 := ⟨k - 1, by omega⟩
    obtain rfl : i = l.length := by omega
    simp only [laws_toIntS.l0]
    rw [if_neg (by omega), fill_end]
  | succ d ih =>
    intro i k h hk
    obtain ⟨k, rfl⟩ : ∃ m, k = m + 1 := ⟨k - 1, by omega⟩
    simp only [laws_toIntS.l0]
    rw [if_pos (by omega), if_pos (by omega), if_pos (by simp; omega), w64 (by omega) (by omega), Int.toNat_natCast, fill_step l 0 _ i (by omega) (rd_at l i (by omega))]
    exact ih (i + 1) k (by omega) (by omega)
theorem toIntS_ok {k : Nat} (l : List Int) (hl : l.length ≤ 1048576) (hk : l.length < k) : laws_toIntS.f k l = some l := by
  unfold laws_toIntS.f
  rw [if_pos (by omega), if_pos (by omega), Int.toNat_natCast]
  exact toIntS_l l hl l.length 0 k (by omega) hk
theorem eqIntS_l (l : List Int) (hl : l.length ≤ 1048576) (d : Nat) : ∀ (i k : Nat), i + d = l.length → d < k → laws_eqIntS.l0 k l l (i : Int) = some true := by
  induction d with
  | zero =>
    intro i k h hk
    obtain ⟨k, rfl⟩ : ∃ m, k = m + 1 := ⟨k - 1, by omega⟩
    simp only [laws_eqIntS.l0]
    rw [if_neg (by omega)]
  | succ d ih =>
    intro i k h hk
    obtain ⟨k, rfl⟩ : ∃ m, k = m + 1 := ⟨k - 1, by omega⟩
    simp only [laws_eqIntS.l0]
    rw [if_pos (by omega), if_pos (by omega), if_pos (by omega), w64 (by omega) (by omega)]
    simp only [if_true]
    exact ih (i + 1) k (by omega) (by omega)
theorem eqIntS_ok {k : Nat} (l : List Int) (hl : l.length ≤ 1048576) (hk : l.length < k) : laws_eqIntS.f k l l = some true := by
  unfold laws_eqIntS.f
  rw [if_pos rfl]
  exact eqIntS_l l hl l.length 0 k (by omega) hk
/-- Pulses in their range that ascend, behind one that may stand ahead of them. -/
def good : Option Int → List Int → Bool
  | _, [] => true
  | none, x :: xs => decide (0 ≤ x ∧ x ≤ 100000000) && good (some x) xs
  | some p, x :: xs => decide (0 ≤ x ∧ x ≤ 100000000) && (decide (p < x) && good (some x) xs)
def prev (l : List Int) (i : Nat) : Option Int := if i = 0 then none else some (rd l ((i : Int) - 1))
theorem prev_succ (l : List Int) (i : Nat) : prev l (i + 1) = some (rd l (i : Int)) := by unfold prev; rw [if_neg (by omega)]; congr 2; omega
def okP (l : List Int) : Bool := good none l && decide (l.length ≤ 16)
theorem drop_at (l : List Int) (i : Nat) (h : i < l.length) : l.drop i = rd l (i : Int) :: l.drop (i + 1) := by
  rw [rd_at l i h, List.drop_eq_getElem_cons h]
theorem validP_il (l : List Int) (hl : l.length ≤ 1048576) (n : Nat) : ∀ (i k : Nat), i + n = l.length → n < k → impl_ValidPulses.l0 k l l (l.length : Int) (i : Int) = some (good (prev l i) (l.drop i) && decide (l.length ≤ 16)) := by
  induction n with
  | zero =>
    intro i k h hk
    obtain ⟨k, rfl⟩ : ∃ m, k = m + 1 := ⟨k - 1, by omega⟩
    simp only [impl_ValidPulses.l0]
    rw [if_neg (by omega), List.drop_eq_nil_of_le (by omega)]
    unfold prev
    split <;> (simp only [good, Bool.true_and]; exact congrArg some (decide_eq_decide.2 (by omega)))
  | succ n ih =>
    intro i k h hk
    obtain ⟨k, rfl⟩ : ∃ m, k = m + 1 := ⟨k - 1, by omega⟩
    have IH := ih (i + 1) k (by omega) (by omega)
    rw [prev_succ, show ((i + 1 : Nat) : Int) = (i : Int) + 1 by omega] at IH
    simp only [impl_ValidPulses.l0]
    rw [if_pos (by omega), if_pos (by omega), if_pos (by omega), within_eq, Option.bind_some, drop_at l i (by omega), w64 (x := (i : Int) + 1) (by omega) (by omega), IH]
    by_cases h1 : 0 ≤ rd l (i : Int) ∧ rd l (i : Int) ≤ 100000000
    · rw [if_pos (decide_eq_true h1)]
      by_cases h0 : i = 0
      · subst h0
        rw [if_neg (by omega)]
        simp only [prev, if_true, good, decide_eq_true h1, Bool.true_and]
      · rw [if_pos (by omega), w64 (by omega) (by omega), if_pos (by omega), if_pos (by omega)]
        unfold prev
        rw [if_neg h0]
        simp only [good, decide_eq_true h1, Bool.true_and]
        by_cases h2 : rd l ((i : Int) - 1) < rd l (i : Int)
        · rw [if_neg (by omega), decide_eq_true h2, Bool.true_and]
        · rw [if_pos (by omega), decide_eq_false h2, Bool.false_and, Bool.false_and]
    · rw [if_neg (by simpa using h1)]
      unfold prev
      split <;> simp only [good, decide_eq_false h1, Bool.false_and]
theorem validP_i {k : Nat} (l : List Int) (hl : l.length ≤ 1048576) (hk : l.length < k) : impl_ValidPulses.f k l = some (okP l) := by
  have := validP_il l hl l.length 0 k (by omega) hk
  simpa [impl_ValidPulses.f, okP, prev] using this
theorem validP_sl (l : List Int) (hl : l.length ≤ 1048576) (n : Nat) : ∀ (i k : Nat), i + n = l.length → n < k → spec_validPulses.l0 k l (i : Int) = some (good (prev l i) (l.drop i) && decide (l.length ≤ 16)) := by
  induction n with
  | zero =>
    intro i k h hk
    obtain ⟨k, rfl⟩ : ∃ m, k = m + 1 := ⟨k - 1, by omega⟩
    simp only [spec_validPulses.l0]
    rw [if_neg (by omega), List.drop_eq_nil_of_le (by omega)]
    unfold prev
    split <;> (simp only [good, Bool.true_and]; exact congrArg some (decide_eq_decide.2 (by omega)))
  | succ n ih =>
    intro i k h hk
    obtain ⟨k, rfl⟩ : ∃ m, k = m + 1 := ⟨k - 1, by omega⟩
    have IH := ih (i + 1) k (by omega) (by omega)
    rw [prev_succ, show ((i + 1 : Nat) : Int) = (i : Int) + 1 by omega] at IH
    simp only [spec_validPulses.l0]
    rw [if_pos (by omega), if_pos (by omega), inRange_eq, Option.bind_some, drop_at l i (by omega), w64 (x := (i : Int) + 1) (by omega) (by omega), IH]
    by_cases h1 : 0 ≤ rd l (i : Int) ∧ rd l (i : Int) ≤ 100000000
    · rw [if_pos (decide_eq_true h1)]
      by_cases h0 : i = 0
      · subst h0
        rw [if_neg (by omega)]
        simp only [prev, if_true, good, decide_eq_true h1, Bool.true_and]
      · rw [if_pos (by omega), w64 (by omega) (by omega), if_pos (by omega), if_pos (by omega)]
        unfold prev
        rw [if_neg h0]
        simp only [good, decide_eq_true h1, Bool.true_and]
        by_cases h2 : rd l ((i : Int) - 1) < rd l (i : Int)
        · rw [if_neg (by omega), decide_eq_true h2, Bool.true_and]
        · rw [if_pos (by omega), decide_eq_false h2, Bool.false_and, Bool.false_and]
    · rw [if_neg (by simpa using h1)]
      unfold prev
      split <;> simp only [good, decide_eq_false h1, Bool.false_and]
theorem validP_s {k : Nat} (l : List Int) (hl : l.length ≤ 1048576) (hk : l.length < k) : spec_validPulses.f k l = some (okP l) := by
  have := validP_sl l hl l.length 0 k (by omega) hk
  simpa [spec_validPulses.f, okP, prev] using this
theorem good_cons {pr : Option Int} {x : Int} {xs : List Int} (h : good pr (x :: xs) = true) : (0 ≤ x ∧ x ≤ 100000000) ∧ (∀ p, pr = some p → p < x) ∧ good (some x) xs = true := by
  cases pr with
  | none => simp [good] at h; exact ⟨h.1, fun p e => (by cases e), h.2⟩
  | some p => simp [good] at h; exact ⟨h.1, fun q e => (by cases e; exact h.2.1), h.2.2⟩
theorem good_mk {pr : Option Int} {x : Int} {xs : List Int} (h1 : 0 ≤ x ∧ x ≤ 100000000) (h2 : ∀ p, pr = some p → p < x) (h3 : good (some x) xs = true) : good pr (x :: xs) = true := by
  cases pr with
  | none => simp [good, h1, h3]
  | some p => simp [good, h1, h3, h2 p rfl]
theorem good_tail {pr : Option Int} {x : Int} {xs : List Int} (h : good pr (x :: xs) = true) : good pr xs = true := by
  obtain ⟨h1, h2, h3⟩ := good_cons h
  cases xs with
  | nil => cases pr <;> rfl
  | cons y ys =>
    obtain ⟨g1, g2, g3⟩ := good_cons h3
    exact good_mk g1 (fun p e => by have := h2 p e; have := g2 x rfl; omega) g3
theorem good_sub {a l : List Int} (h : List.Sublist a l) : ∀ pr, good pr l = true → good pr a = true := by
  induction h with
  | slnil => intro pr h; exact h
  | cons x _ ih => intro pr h; exact ih pr (good_tail h)
  | cons_cons x _ ih =>
    intro pr h
    obtain ⟨h1, h2, h3⟩ := good_cons h
    exact good_mk h1 h2 (ih _ h3)
theorem okP_sub {a l : List Int} (h : List.Sublist a l) (hl : okP l = true) : okP a = true := by
  have hlen := h.length_le
  simp only [okP, Bool.and_eq_true, decide_eq_true_eq] at hl ⊢
  exact ⟨good_sub h _ hl.1, by omega⟩
theorem good_range {l : List Int} : ∀ pr, good pr l = true → ∀ x ∈ l, 0 ≤ x ∧ x ≤ 100000000 := by
  induction l with
  | nil => intro pr _ x hx; cases hx
  | cons y ys ih =>
    intro pr h x hx
    obtain ⟨h1, _, h3⟩ := good_cons h
    rcases List.mem_cons.1 hx with rfl | hx
    · exact h1
    · exact ih _ h3 x hx
/-- A difference that is near a multiple of a second that is greater than 0. -/
def near (d : Int) : Bool := decide (998000 ≤ d ∧ (d % 1000000 ≤ 2000 ∨ d % 1000000 ≥ 998000))
def clean : Option Int → List Int → List Int
  | _, [] => []
  | none, x :: xs => x :: clean (some x) xs
  | some p, x :: xs => if near (x - p) = true then x :: clean (some x) xs else clean (some p) xs
/-- CleanPulses. -/
def cleanP (l : List Int) : List Int := if okP l = true then clean none l else []
theorem clean_sub (l : List Int) : ∀ pr, List.Sublist (clean pr l) l := by
  induction l with
  | nil => intro pr; cases pr <;> exact List.Sublist.slnil
  | cons x xs ih =>
    intro pr
    cases pr with
    | none => exact (ih _).cons_cons x
    | some p =>
      simp only [clean]
      split
      · exact (ih _).cons_cons x
      · exact (ih _).cons x
theorem apart_near (d : Int) (h : 0 < d ∧ d ≤ 100000000) : ∃ r, impl_apart.f d (wrap64 (mx (wrap64 (Int.tdiv (wrap64 (d + 500000)) 1000000)) 1 * 1000000)) = some r ∧ (r ≤ 2000 ↔ near d = true) := by
  rw [w64 (x := d + 500000) (by omega) (by omega), td (show 0 ≤ d + 500000 by omega), w64 (x := (d + 500000) / 1000000) (by omega) (by omega)]
  have hq : 1 ≤ mx ((d + 500000) / 1000000) 1 ∧ mx ((d + 500000) / 1000000) 1 ≤ 101 ∧ (mx ((d + 500000) / 1000000) 1 = (d + 500000) / 1000000 ∨ (mx ((d + 500000) / 1000000) 1 = 1 ∧ (d + 500000) / 1000000 < 1)) := by unfold mx; split <;> omega
  generalize mx ((d + 500000) / 1000000) 1 = q at *
  rw [w64 (x := q * 1000000) (by omega) (by omega)]
  unfold impl_apart.f
  rw [w64 (by omega) (by omega), w64 (by omega) (by omega)]
  refine ⟨_, rfl, ?_⟩
  simp only [near, decide_eq_true_eq]
  unfold mx
  split <;> omega
theorem clean_il (l : List Int) (hl : l.length ≤ 16) (n : Nat) : ∀ (i k : Nat) (out : List Int), i + n = l.length → n < k → out.length ≤ i → (i = 0 → out = []) → (0 < i → ∃ a p, out = a ++ [p] ∧ (0 ≤ p ∧ p ≤ 100000000) ∧ good (some p) (l.drop i) = true) → (i = 0 → good none l = true) →
    impl_CleanPulses.l0 k out l (l.length : Int) (i : Int) = some (out ++ clean out.getLast? (l.drop i)) := by
  induction n with
  | zero =>
    intro i k out h hk ho h0 h1 h2
    obtain ⟨k, rfl⟩ : ∃ m, k = m + 1 := ⟨k - 1, by omega⟩
    simp only [impl_CleanPulses.l0]
    rw [if_neg (by omega), List.drop_eq_nil_of_le (by omega)]
    cases out.getLast? <;> simp [clean]
  | succ n ih =>
    intro i k out h hk ho h0 h1 h2
    obtain ⟨k, rfl⟩ : ∃ m, k = m + 1 := ⟨k - 1, by omega⟩
    simp only [impl_CleanPulses.l0]
    rw [if_pos (by omega), if_pos (by omega), if_pos (by omega), w64 (x := (i : Int) + 1) (by omega) (by omega)]
    have hd := drop_at l i (by omega)
    by_cases hi : i = 0
    · have e0 := h0 hi
      subst hi
      subst e0
      have hg := h2 rfl
      have hd0 : l = rd l ((0 : Nat) : Int) :: l.drop 1 := by simpa using hd
      rw [hd0] at hg
      obtain ⟨g1, _, g3⟩ := good_cons hg
      have IH := ih 1 k ([] ++ [rd l ((0 : Nat) : Int)]) (by omega) (by omega) (by simp) (by omega) (fun _ => ⟨[], _, rfl, g1, g3⟩) (by omega)
      rw [if_pos (show ((0 : Nat) : Int) = 0 from rfl), if_pos (by simp)]
      rw [show (((0 : Nat) : Int) + 1) = ((1 : Nat) : Int) by rfl, IH, hd]
      rfl
    · obtain ⟨a, p, rfl, hp, hg⟩ := h1 (by omega)
      rw [hd] at hg
      obtain ⟨g1, g2, g3⟩ := good_cons hg
      have hpx := g2 p rfl
      have hlast : (a ++ [p]).getLast? = some p := by simp
      have hlen : ((a ++ [p]).length : Int) = (a.length : Int) + 1 := by simp
      have hrd : rd (a ++ [p]) (((a ++ [p]).length : Int) - 1) = p := by
        rw [hlen, show ((a.length : Int) + 1 - 1) = ((a.length : Nat) : Int) by omega, rd_at _ _ (by simp)]
        simp
      have hale : (a ++ [p]).length ≤ 16 := by omega
      rw [if_neg (by omega), w64 (x := ((a ++ [p]).length : Int) - 1) (by omega) (by omega), if_pos (by rw [hlen]; omega), if_pos (by omega), hrd, w64 (x := rd l (i : Int) - p) (by omega) (by omega)]
      obtain ⟨r, er, hr⟩ := apart_near (rd l (i : Int) - p) (by omega)
      rw [er, Option.bind_some, hd, hlast]
      simp only [clean]
      by_cases hn : near (rd l (i : Int) - p) = true
      · rw [if_pos (hr.2 hn), if_pos hn, if_pos (by omega)]
        have IH := ih (i + 1) k (a ++ [p] ++ [rd l (i : Int)]) (by omega) (by omega) (by simp at ho ⊢; omega) (by omega) (fun _ => ⟨a ++ [p], _, rfl, g1, g3⟩) (by omega)
        rw [show ((i + 1 : Nat) : Int) = (i : Int) + 1 by omega] at IH
        rw [IH]
        simp
      · rw [if_neg (fun g => hn (hr.1 g)), if_neg hn]
        have g4 : good (some p) (l.drop (i + 1)) = true := good_tail hg
        have IH := ih (i + 1) k (a ++ [p]) (by omega) (by omega) (by omega) (by omega) (fun _ => ⟨a, p, rfl, hp, g4⟩) (by omega)
        rw [show ((i + 1 : Nat) : Int) = (i : Int) + 1 by omega, hlast] at IH
        exact IH
theorem clean_i {k : Nat} (l : List Int) (hl : l.length ≤ 1048576) (hk : l.length < k) : impl_CleanPulses.f k l = some (cleanP l) := by
  unfold impl_CleanPulses.f cleanP
  rw [Option.bind_some, validP_i l hl hk, Option.bind_some]
  by_cases h : okP l = true
  · rw [if_pos h, if_pos h]
    have h' : good none l = true ∧ l.length ≤ 16 := by simpa [okP] using h
    have := clean_il l h'.2 l.length 0 k [] (by omega) hk (by simp) (fun _ => rfl) (by omega) (fun _ => h'.1)
    simpa using this
  · rw [if_neg h, if_neg h]
theorem near_s (d : Int) (h : 0 < d ∧ d ≤ 100000000) : spec_nearSecond.f d = some (near d) := by
  unfold spec_nearSecond.f
  rw [tm (show 0 ≤ d by omega)]
  by_cases h1 : d ≥ 998000
  · rw [if_pos h1]
    by_cases h2 : d % 1000000 ≤ 2000
    · rw [if_pos h2]
      exact congrArg some (Eq.symm (by simp only [near, decide_eq_true_eq]; omega))
    · rw [if_neg h2]
      exact congrArg some (by simp only [near]; exact decide_eq_decide.2 (by omega))
  · rw [if_neg h1]
    exact congrArg some (Eq.symm (by simp only [near, decide_eq_false_iff_not]; omega))
theorem clean_sl (l : List Int) (hl : l.length ≤ 16) (n : Nat) : ∀ (i k : Nat) (out : List Int), i + n = l.length → n < k → out.length ≤ i → (i = 0 → out = []) → (0 < i → ∃ a p, out = a ++ [p] ∧ (0 ≤ p ∧ p ≤ 100000000) ∧ good (some p) (l.drop i) = true) → (i = 0 → good none l = true) →
    spec_CleanPulses.l0 k l out (i : Int) = some (out ++ clean out.getLast? (l.drop i)) := by
  induction n with
  | zero =>
    intro i k out h hk ho h0 h1 h2
    obtain ⟨k, rfl⟩ : ∃ m, k = m + 1 := ⟨k - 1, by omega⟩
    simp only [spec_CleanPulses.l0]
    rw [if_neg (by omega), List.drop_eq_nil_of_le (by omega)]
    cases out.getLast? <;> simp [clean]
  | succ n ih =>
    intro i k out h hk ho h0 h1 h2
    obtain ⟨k, rfl⟩ : ∃ m, k = m + 1 := ⟨k - 1, by omega⟩
    simp only [spec_CleanPulses.l0]
    rw [if_pos (by omega), w64 (x := (i : Int) + 1) (by omega) (by omega)]
    have hd := drop_at l i (by omega)
    by_cases hi : i = 0
    · have e0 := h0 hi
      subst hi
      subst e0
      have hg := h2 rfl
      have hd0 : l = rd l ((0 : Nat) : Int) :: l.drop 1 := by simpa using hd
      rw [hd0] at hg
      obtain ⟨g1, _, g3⟩ := good_cons hg
      have IH := ih 1 k ([] ++ [rd l ((0 : Nat) : Int)]) (by omega) (by omega) (by simp) (by omega) (fun _ => ⟨[], _, rfl, g1, g3⟩) (by omega)
      rw [if_pos (show (([] : List Int).length : Int) = 0 from rfl), if_pos (by omega), if_pos (by simp)]
      rw [show (((0 : Nat) : Int) + 1) = ((1 : Nat) : Int) by rfl, IH, hd]
      rfl
    · obtain ⟨a, p, rfl, hp, hg⟩ := h1 (by omega)
      rw [hd] at hg
      obtain ⟨g1, g2, g3⟩ := good_cons hg
      have hpx := g2 p rfl
      have hlast : (a ++ [p]).getLast? = some p := by simp
      have hlen : ((a ++ [p]).length : Int) = (a.length : Int) + 1 := by simp
      have hrd : rd (a ++ [p]) (((a ++ [p]).length : Int) - 1) = p := by
        rw [hlen, show ((a.length : Int) + 1 - 1) = ((a.length : Nat) : Int) by omega, rd_at _ _ (by simp)]
        simp
      have hale : (a ++ [p]).length ≤ 16 := by omega
      rw [if_neg (by rw [hlen]; omega), if_pos (by omega), w64 (x := ((a ++ [p]).length : Int) - 1) (by omega) (by omega), if_pos (by rw [hlen]; omega), if_pos (by omega), hrd, w64 (x := rd l (i : Int) - p) (by omega) (by omega)]
      rw [near_s _ (by omega), Option.bind_some, hd, hlast]
      simp only [clean]
      by_cases hn : near (rd l (i : Int) - p) = true
      · rw [if_pos hn, if_pos hn, if_pos (by omega)]
        have IH := ih (i + 1) k (a ++ [p] ++ [rd l (i : Int)]) (by omega) (by omega) (by simp at ho ⊢; omega) (by omega) (fun _ => ⟨a ++ [p], _, rfl, g1, g3⟩) (by omega)
        rw [show ((i + 1 : Nat) : Int) = (i : Int) + 1 by omega] at IH
        rw [IH]
        simp
      · rw [if_neg hn, if_neg hn]
        have g4 : good (some p) (l.drop (i + 1)) = true := good_tail hg
        have IH := ih (i + 1) k (a ++ [p]) (by omega) (by omega) (by omega) (by omega) (fun _ => ⟨a, p, rfl, hp, g4⟩) (by omega)
        rw [show ((i + 1 : Nat) : Int) = (i : Int) + 1 by omega, hlast] at IH
        exact IH
theorem clean_s {k : Nat} (l : List Int) (hl : l.length ≤ 1048576) (hk : l.length < k) : spec_CleanPulses.f k l = some (cleanP l) := by
  unfold spec_CleanPulses.f cleanP
  rw [validP_s l hl hk, Option.bind_some]
  by_cases h : okP l = true
  · rw [if_pos h, if_pos h]
    have h' : good none l = true ∧ l.length ≤ 16 := by simpa [okP] using h
    have := clean_sl l h'.2 l.length 0 k [] (by omega) hk (by simp) (fun _ => rfl) (by omega) (fun _ => h'.1)
    simpa using this
  · rw [if_neg h, if_neg h]
theorem cleanP_sub (l : List Int) : List.Sublist (cleanP l) l := by
  unfold cleanP
  split
  · exact clean_sub l none
  · exact List.nil_sublist l
/-- The numbers from a on. -/
def from_ (a : Int) : Nat → List Int
  | 0 => []
  | n + 1 => a :: from_ (a + 1) n
theorem from_succ (a : Int) (n : Nat) : from_ a (n + 1) = a :: from_ (a + 1) n := rfl
theorem from_length (n : Nat) : ∀ a, (from_ a n).length = n := by
  induction n with
  | zero => intro a; rfl
  | succ n ih => intro a; simp [from_, ih]
theorem mark_l (n : Nat) : ∀ (pre l : List Int) (a : Int) (k : Nat), l.length = n → n < k → 0 ≤ a → a + n ≤ 100000000 → pre.length + n ≤ 10000000 →
    laws_markIntS.l0 k (pre ++ l) a (pre.length : Int) = some (a + n, pre ++ from_ a n) := by
  induction n with
  | zero =>
    intro pre l a k hl hk h0 h1 h2
    obtain ⟨k, rfl⟩ : ∃ m, k = m + 1 := ⟨k - 1, by omega⟩
    obtain rfl : l = [] := List.eq_nil_of_length_eq_zero hl
    simp only [laws_markIntS.l0]
    rw [if_neg (by simp), List.append_nil]
    simp [from_]
  | succ n ih =>
    intro pre l a k hl hk h0 h1 h2
    obtain ⟨k, rfl⟩ : ∃ m, k = m + 1 := ⟨k - 1, by omega⟩
    obtain ⟨x, xs, rfl⟩ : ∃ x xs, l = x :: xs := by cases l with
      | nil => simp at hl
      | cons x xs => exact ⟨x, xs, rfl⟩
    simp only [laws_markIntS.l0]
    rw [if_pos (by simp; omega), if_pos (by omega), Int.toNat_natCast, List.set_append_right _ _ (by omega), Nat.sub_self, List.set_cons_zero, w64 (x := a + 1) (by omega) (by omega), w64 (x := (pre.length : Int) + 1) (by omega) (by omega)]
    have IH := ih (pre ++ [a]) xs (a + 1) k (by simpa using hl) (by omega) (by omega) (by omega) (by simp; omega)
    rw [show (((pre ++ [a]).length : Nat) : Int) = (pre.length : Int) + 1 by simp, List.append_assoc, List.append_assoc] at IH
    rw [show pre ++ a :: xs = pre ++ ([a] ++ xs) from rfl, IH]
    simp only [from_]
    congr 2
    omega
theorem mark_ok {k : Nat} (l : List Int) (a : Int) (hk : l.length < k) (h0 : 0 ≤ a ∧ a ≤ 1000) (hl : l.length ≤ 1048576) : ∃ m, laws_markIntS.f k l a = some (a + l.length, m) := by
  have := mark_l l.length [] l a k rfl hk h0.1 (by omega) (by simp; omega)
  exact ⟨_, this⟩
theorem held_l (n : Nat) : ∀ (pre : List Int) (a : Int) (k : Nat), n < k → 0 ≤ a → a + n ≤ 100000000 → pre.length + n ≤ 10000000 →
    laws_heldIntS.l0 k (pre ++ from_ a n) a (pre.length : Int) = some (a + n) := by
  induction n with
  | zero =>
    intro pre a k hk h0 h1 h2
    obtain ⟨k, rfl⟩ : ∃ m, k = m + 1 := ⟨k - 1, by omega⟩
    simp only [laws_heldIntS.l0]
    rw [if_neg (by simp [from_])]
    simp
  | succ n ih =>
    intro pre a k hk h0 h1 h2
    obtain ⟨k, rfl⟩ : ∃ m, k = m + 1 := ⟨k - 1, by omega⟩
    rw [from_succ]
    simp only [laws_heldIntS.l0]
    have hr : rd (pre ++ a :: from_ (a + 1) n) (pre.length : Int) = a := by rw [rd_at _ _ (by simp)]; simp
    rw [if_pos (by simp; try omega), if_pos (by omega), hr, if_pos rfl, w64 (x := a + 1) (by omega) (by omega), w64 (x := (pre.length : Int) + 1) (by omega) (by omega)]
    have IH := ih (pre ++ [a]) (a + 1) k (by omega) (by omega) (by omega) (by simp; omega)
    rw [show (((pre ++ [a]).length : Nat) : Int) = (pre.length : Int) + 1 by simp, List.append_assoc] at IH
    rw [show pre ++ a :: from_ (a + 1) n = pre ++ ([a] ++ from_ (a + 1) n) from rfl, IH]
    congr 1
    omega
theorem mark_held {k : Nat} (l : List Int) (a : Int) (hk : l.length < k) (h0 : 0 ≤ a ∧ a ≤ 1000) (hl : l.length ≤ 1048576) : ∃ m, laws_markIntS.f k l a = some (a + l.length, m) ∧ laws_heldIntS.f k m a = some (a + l.length) := by
  have h1 := mark_l l.length [] l a k rfl hk h0.1 (by omega) (by simp; omega)
  have h2 := held_l l.length [] a k hk h0.1 (by omega) (by simp; omega)
  exact ⟨_, h1, h2⟩
end KFnExactCleanPulses
open KFnExactCleanPulses
theorem FnExactCleanPulses (l : List Int) (_hl : l.length ≤ maxLen) (_hs : l.length * 8 ≤ 140737488351232) (_ : ∀ x ∈ l, (Lit.int .i64 x).wf = true) : ∃ k, laws_FnExactCleanPulses.f k l = some true := by
  refine ⟨l.length + 2, ?_⟩
  unfold laws_FnExactCleanPulses.f
  by_cases h0 : (l.length : Int) > 1048576
  · rw [if_pos h0]
  have hs := (cleanP_sub l).length_le
  rw [if_neg h0, toIntS_ok l (by omega) (by omega), Option.bind_some, clean_s l (by omega) (by omega), Option.bind_some, Option.bind_some, clean_i l (by omega) (by omega), Option.bind_some, eqIntS_ok _ (by omega) (by omega), Option.bind_some, if_pos rfl, Option.bind_some, eqIntS_ok l (by omega) (by omega), Option.bind_some, if_pos rfl]
  obtain ⟨m1, e1⟩ := mark_ok (k := l.length + 2) l 1 (by omega) (by omega) (by omega)
  rw [e1, Option.bind_some]
  dsimp only
  rw [if_neg (by omega), Option.bind_some]
  simp only [laws_FnExactCleanPulses.j0]
  obtain ⟨m2, e2, hh⟩ := mark_held (k := l.length + 1) (cleanP l) 1 (by omega) (by omega) (by omega)
  rw [if_neg (by simp), e2, Option.bind_some]
  dsimp only
  rw [hh, Option.bind_some, if_neg (by omega), if_pos rfl, toIntS_ok l (by omega) (by omega), Option.bind_some, clean_i l (by omega) (by omega), Option.bind_some, eqIntS_ok _ (by omega) (by omega), Option.bind_some, if_pos rfl, Option.bind_some, if_neg (by omega), if_pos rfl]

end Go.Proofs.Ytpkpbcfehllehaa.Pure
