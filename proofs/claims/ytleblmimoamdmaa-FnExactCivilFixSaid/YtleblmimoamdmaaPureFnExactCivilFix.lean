/- Proved: the program's CivilFix returns what the reference's returns, for all arguments (FnExactCivilFix); no condition beyond the statement's own. -/
import Derived.Test.YtleblmimoamdmaaPFnExactCivilFixx
import Derived.Laws.BitsLemmas
namespace Go.Proofs.Ytleblmimoamdmaa.Pure
open Go Go.RowKit Go.Proofs.Ytleblmimoamdmaa.PFnExactCivilFix Go.Proofs.YtleblmimoamdmaaW.PrintWords Go.Proofs.YtleblmimoamdmaaW.PrintLast Go.Proofs.YtleblmimoamdmaaW.PrintMore

namespace KFnExactCivilFix
theorem w64 {x : Int} (h1 : -9223372036854775808 ≤ x) (h2 : x < 9223372036854775808) : wrap64 x = x := by unfold wrap64; omega
theorem i64wrap (x : Int) : IntKind.i64.wrap x = wrap64 x := by rw [IntKind.wrap_i64]; unfold wrap64; rfl
theorem tm {a b : Int} (h : 0 ≤ a) : Int.tmod a b = a % b := Int.tmod_eq_emod_of_nonneg h
theorem td {a b : Int} (h : 0 ≤ a) : Int.tdiv a b = a / b := Int.tdiv_eq_ediv_of_nonneg h
theorem sval {α : Type} {x : Option α} {a : α} (h : x = some a) {β : Type} (f : α → Option β) : x.bind f = f a := by rw [h]; rfl
theorem within_eq (n lo hi : Int) : impl_within.f n lo hi = some (decide (lo ≤ n ∧ n ≤ hi)) := by
  unfold impl_within.f
  by_cases h : lo ≤ n <;> simp [h]
theorem inRange_eq (n lo hi : Int) : spec_inRange.f n lo hi = some (decide (lo ≤ n ∧ n ≤ hi)) := by
  unfold spec_inRange.f
  by_cases h : lo ≤ n <;> simp [h]
/-- The days of a month of a year in 1980..2099. -/
def mdays (y m : Int) : Int :=
  if m = 2 then (if y % 4 = 0 then 29 else 28) else if m = 4 ∨ m = 6 ∨ m = 9 ∨ m = 11 then 30 else 31
theorem mdays_in (y m : Int) : 28 ≤ mdays y m ∧ mdays y m ≤ 31 := by unfold mdays; split <;> (try split) <;> omega
/-- The days before the month number i, counted from 0 for the first month of 1980. -/
def S : Nat → Int
  | 0 => 0
  | i + 1 => S i + mdays (1980 + (i / 12 : Nat)) ((i % 12 : Nat) + 1)
theorem S_succ (i : Nat) : S (i + 1) = S i + mdays (1980 + (i / 12 : Nat)) ((i % 12 : Nat) + 1) := rfl
theorem S_at (a j : Nat) (h : j < 12) : S (12 * a + j + 1) = S (12 * a + j) + mdays (1980 + (a : Int)) ((j : Int) + 1) := by
  rw [S_succ, show (12 * a + j) / 12 = a by omega, show (12 * a + j) % 12 = j by omega]
theorem S_lt (i : Nat) : S i + 28 ≤ S (i + 1) ∧ S (i + 1) ≤ S i + 31 := by
  have := mdays_in (1980 + (i / 12 : Nat)) ((i % 12 : Nat) + 1)
  rw [S_succ]
  omega
theorem S_mono {i j : Nat} (h : i ≤ j) : S i ≤ S j := by
  induction j with
  | zero => obtain rfl : i = 0 := by omega
            exact Int.le_refl _
  | succ j ih =>
    by_cases e : i = j + 1
    · subst e; exact Int.le_refl _
    · have := ih (by omega); have := S_lt j; omega
theorem S_same {i j : Nat} {D : Int} (h1 : S i ≤ D) (h2 : D < S (i + 1)) (h3 : S j ≤ D) (h4 : D < S (j + 1)) : i = j := by
  by_cases a : i < j
  · have := S_mono (show i + 1 ≤ j by omega); omega
  · by_cases b : j < i
    · have := S_mono (show j + 1 ≤ i by omega); omega
    · omega
theorem S_nonneg (i : Nat) : 0 ≤ S i := S_mono (i := 0) (Nat.zero_le i)
theorem S_year (a : Nat) : S (12 * (a + 1)) = S (12 * a) + (365 + if (1980 + (a : Int)) % 4 = 0 then 1 else 0) := by
  have e0 := S_at a 0 (by omega)
  have e1 := S_at a 1 (by omega)
  have e2 := S_at a 2 (by omega)
  have e3 := S_at a 3 (by omega)
  have e4 := S_at a 4 (by omega)
  have e5 := S_at a 5 (by omega)
  have e6 := S_at a 6 (by omega)
  have e7 := S_at a 7 (by omega)
  have e8 := S_at a 8 (by omega)
  have e9 := S_at a 9 (by omega)
  have e10 := S_at a 10 (by omega)
  have e11 := S_at a 11 (by omega)
  simp [mdays] at e0 e1 e2 e3 e4 e5 e6 e7 e8 e9 e10 e11
  rw [show 12 * (a + 1) = 12 * a + 11 + 1 by omega, e11, e10, e9, e8, e7, e6, e5, e4, e3, e2, e1, e0]
  split <;> omega
theorem S_years (a : Nat) : S (12 * a) = 365 * a + ((a : Int) + 3) / 4 := by
  induction a with
  | zero => rfl
  | succ a ih =>
    rw [S_year, ih]
    split <;> omega
theorem S_all : S 1440 = 43830 := S_years 120
/-- Each day of the span lies in one month. -/
theorem S_find (n : Nat) : ∀ D : Int, 0 ≤ D → D < S n → ∃ i, i < n ∧ S i ≤ D ∧ D < S (i + 1) := by
  induction n with
  | zero => intro D h0 h1; simp [S] at h1; omega
  | succ n ih =>
    intro D h0 h1
    by_cases h : D < S n
    · obtain ⟨i, a, b, c⟩ := ih D h0 h
      exact ⟨i, by omega, b, c⟩
    · exact ⟨n, by omega, by omega, h1⟩
theorem S_le (i : Nat) : S i ≤ 31 * i := by
  induction i with
  | zero => simp [S]
  | succ i ih => have := S_lt i; omega
theorem leap_i (y : Int) (h : 1980 ≤ y ∧ y ≤ 2099) : impl_IsLeapYear.f y = some (decide (y % 4 = 0)) := by
  unfold impl_IsLeapYear.f
  rw [within_eq, tm (show 0 ≤ y by omega), tm (show 0 ≤ y by omega), tm (show 0 ≤ y by omega)]
  simp only [Option.bind_some, decide_eq_true h, if_true]
  by_cases h4 : y % 4 = 0
  · rw [if_pos h4, decide_eq_true h4]
    by_cases h1 : y % 100 = 0
    · rw [if_pos h1, beq_iff_eq.2 (by omega)]
    · rw [if_neg h1]
  · rw [if_neg h4, decide_eq_false h4, beq_eq_false_iff_ne.2 (by omega)]
theorem monthDays_i {k : Nat} (hk : 1 ≤ k) (y m : Int) : impl_MonthDays.f k y m = some (if (1980 ≤ y ∧ y ≤ 2099) ∧ 1 ≤ m ∧ m ≤ 12 then mdays y m else -1) := by
  obtain ⟨k, rfl⟩ : ∃ n, k = n + 1 := ⟨k - 1, by omega⟩
  unfold impl_MonthDays.f
  rw [within_eq, within_eq]
  simp only [Option.bind_some, impl_MonthDays.j0, if_true]
  by_cases h1 : 1980 ≤ y ∧ y ≤ 2099
  · by_cases h2 : 1 ≤ m ∧ m ≤ 12
    · rw [if_pos (decide_eq_true h1), if_neg (by simp [h2]), if_pos (show (1980 ≤ y ∧ y ≤ 2099) ∧ 1 ≤ m ∧ m ≤ 12 from ⟨h1, h2⟩), leap_i y h1]
      unfold mdays
      by_cases e : m = 2
      · rw [if_pos e, if_pos e]
        by_cases e4 : y % 4 = 0
        · simp [e4]
        · simp [e4]
      · rw [if_neg e, if_neg e]
        by_cases e2 : m = 4
        · rw [if_pos e2, if_pos (by omega)]
        · rw [if_neg e2]
          by_cases e3 : m = 6
          · rw [if_pos e3, if_pos (by omega)]
          · rw [if_neg e3]
            by_cases e4 : m = 9
            · rw [if_pos e4, if_pos (by omega)]
            · rw [if_neg e4]
              by_cases e5 : m = 11
              · rw [if_pos e5, if_pos (by omega)]
              · rw [if_neg e5, if_neg (by omega)]
    · rw [if_pos (decide_eq_true h1), if_pos (by simp; omega), if_neg (by omega)]
  · rw [if_neg (by simp; omega), if_neg (by omega)]
/-- A date of the span. -/
def okDate (y m d : Int) : Prop := (1980 ≤ y ∧ y ≤ 2099) ∧ (1 ≤ m ∧ m ≤ 12) ∧ 1 ≤ d ∧ d ≤ mdays y m
instance (y m d : Int) : Decidable (okDate y m d) := by unfold okDate; infer_instance
/-- The number of a day. -/
def dayNo (y m d : Int) : Int := d - 1 + S (12 * (y - 1980).toNat + (m - 1).toNat)
theorem leap_s (y : Int) (h : 1980 ≤ y ∧ y ≤ 2099) : spec_leap.f y = some (decide (y % 4 = 0)) := by
  unfold spec_leap.f
  rw [tm (show 0 ≤ y by omega), tm (show 0 ≤ y by omega), tm (show 0 ≤ y by omega)]
  by_cases h4 : y % 4 = 0
  · rw [if_pos h4, decide_eq_true h4]
    by_cases h1 : y % 100 = 0
    · rw [if_pos h1, beq_iff_eq.2 (by omega)]
    · rw [if_neg h1]
  · rw [if_neg h4, decide_eq_false h4, beq_eq_false_iff_ne.2 (by omega)]
theorem monthDays_s (y m : Int) (h : 1980 ≤ y ∧ y ≤ 2099) (hm : 1 ≤ m ∧ m ≤ 12) : spec_monthDays.f y m = some (mdays y m) := by
  unfold spec_monthDays.f
  rw [w64 (by omega) (by omega), Option.bind_some, if_pos (by omega), if_pos (by simp; omega), leap_s y h, Option.bind_some]
  rcases (by omega : m = 1 ∨ m = 2 ∨ m = 3 ∨ m = 4 ∨ m = 5 ∨ m = 6 ∨ m = 7 ∨ m = 8 ∨ m = 9 ∨ m = 10 ∨ m = 11 ∨ m = 12) with rfl | rfl | rfl | rfl | rfl | rfl | rfl | rfl | rfl | rfl | rfl | rfl
  · rfl
  · by_cases h4 : y % 4 = 0
    · simp only [h4, decide_true, if_true, mdays]; decide +kernel
    · simp only [h4, decide_false, mdays, if_false, Bool.false_eq_true, if_true]; rfl
  all_goals rfl
theorem dayOf_year (c : Int) (hc : 0 ≤ c ∧ c ≤ 31) (Y M D : Int) (hY : Y ≤ 2099) (a : Nat) (ha : 1980 + (a : Int) < Y) (n : Nat) : ∀ (j k : Nat), j + n = 12 → n + 2 ≤ k →
    impl_DayOf.l1 k (c + S (12 * a + j)) (1980 + (a : Int)) ((j : Int) + 1) Y M D = impl_DayOf.l0 (k - (n + 1)) (c + S (12 * (a + 1))) (1980 + ((a + 1 : Nat) : Int)) Y M D := by
  induction n with
  | zero =>
    intro j k hj hk
    obtain ⟨k, rfl⟩ : ∃ n, k = n + 1 := ⟨k - 1, by omega⟩
    obtain rfl : j = 12 := by omega
    simp only [impl_DayOf.l1]
    rw [if_neg (by omega), w64 (by omega) (by omega), show 12 * a + 12 = 12 * (a + 1) by omega]
    congr 1
  | succ n ih =>
    intro j k hj hk
    obtain ⟨k, rfl⟩ : ∃ n, k = n + 1 := ⟨k - 1, by omega⟩
    have e := S_at a j (by omega)
    have b := S_le (12 * a + j + 1)
    have b0 := S_nonneg (12 * a + j + 1)
    simp only [impl_DayOf.l1]
    rw [if_pos (by omega), if_pos ha, monthDays_i (by omega), if_pos (by omega)]
    simp only [Option.bind_some]
    rw [show c + S (12 * a + j) + mdays (1980 + (a : Int)) ((j : Int) + 1) = c + S (12 * a + (j + 1)) by rw [show 12 * a + (j + 1) = 12 * a + j + 1 by omega, e]; omega]
    rw [show 12 * a + (j + 1) = 12 * a + j + 1 by omega, w64 (by omega) (by omega), w64 (by omega) (by omega)]
    have := ih (j + 1) k (by omega) (by omega)
    rw [show ((j + 1 : Nat) : Int) = (j : Int) + 1 by omega, show 12 * a + (j + 1) = 12 * a + j + 1 by omega] at this
    rw [this, show k + 1 - (n + 1 + 1) = k - (n + 1) by omega]
theorem dayOf_last (c : Int) (hc : 0 ≤ c ∧ c ≤ 31) (D : Int) (a : Nat) (ha : a < 120) (m : Nat) (hm : m < 12) (n : Nat) : ∀ (j k : Nat), j + n = m → n + 3 ≤ k →
    impl_DayOf.l1 k (c + S (12 * a + j)) (1980 + (a : Int)) ((j : Int) + 1) (1980 + (a : Int)) ((m : Int) + 1) D = some (c + S (12 * a + m)) := by
  induction n with
  | zero =>
    intro j k hj hk
    obtain ⟨k, rfl⟩ : ∃ n, k = n + 2 := ⟨k - 2, by omega⟩
    obtain rfl : j = m := by omega
    simp only [impl_DayOf.l1]
    rw [if_pos (by omega), if_neg (by omega), if_neg (by omega), w64 (by omega) (by omega)]
    simp only [impl_DayOf.l0]
    rw [if_neg (by omega)]
  | succ n ih =>
    intro j k hj hk
    obtain ⟨k, rfl⟩ : ∃ n, k = n + 1 := ⟨k - 1, by omega⟩
    have e := S_at a j (by omega)
    have b := S_le (12 * a + j + 1)
    have b0 := S_nonneg (12 * a + j + 1)
    simp only [impl_DayOf.l1]
    rw [if_pos (by omega), if_neg (by omega), if_pos (by omega), monthDays_i (by omega), if_pos (by omega)]
    simp only [Option.bind_some]
    rw [show c + S (12 * a + j) + mdays (1980 + (a : Int)) ((j : Int) + 1) = c + S (12 * a + j + 1) by rw [e]; omega]
    rw [w64 (by omega) (by omega), w64 (by omega) (by omega)]
    have := ih (j + 1) k (by omega) (by omega)
    rw [show ((j + 1 : Nat) : Int) = (j : Int) + 1 by omega, show 12 * a + (j + 1) = 12 * a + j + 1 by omega] at this
    exact this
theorem dayOf_years (c : Int) (hc : 0 ≤ c ∧ c ≤ 31) (D : Int) (b : Nat) (hb : b < 120) (m : Nat) (hm : m < 12) (n : Nat) : ∀ (a k : Nat), a + n = b → 14 * n + 20 ≤ k →
    impl_DayOf.l0 k (c + S (12 * a)) (1980 + (a : Int)) (1980 + (b : Int)) ((m : Int) + 1) D = some (c + S (12 * b + m)) := by
  induction n with
  | zero =>
    intro a k ha hk
    obtain ⟨k, rfl⟩ : ∃ n, k = n + 1 := ⟨k - 1, by omega⟩
    obtain rfl : a = b := by omega
    simp only [impl_DayOf.l0]
    rw [if_pos (by omega)]
    exact dayOf_last c hc D a hb m hm m 0 k (by omega) (by omega)
  | succ n ih =>
    intro a k ha hk
    obtain ⟨k, rfl⟩ : ∃ n, k = n + 1 := ⟨k - 1, by omega⟩
    simp only [impl_DayOf.l0]
    rw [if_pos (by omega)]
    have := dayOf_year c hc (1980 + (b : Int)) ((m : Int) + 1) D (by omega) a (by omega) 12 0 k (by omega) (by omega)
    rw [Nat.add_zero, show ((0 : Nat) : Int) + 1 = 1 by rfl] at this
    rw [this]
    exact ih (a + 1) (k - (12 + 1)) (by omega) (by omega)
theorem dayOf_i {k : Nat} (hk : 2000 ≤ k) (y m d : Int) : impl_DayOf.f k y m d = some (if okDate y m d then dayNo y m d else -1) := by
  unfold impl_DayOf.f
  rw [monthDays_i (by omega)]
  simp only [Option.bind_some, within_eq]
  by_cases h0 : (1980 ≤ y ∧ y ≤ 2099) ∧ 1 ≤ m ∧ m ≤ 12
  · have hm := mdays_in y m
    rw [if_pos h0]
    by_cases h1 : 1 ≤ d ∧ d ≤ mdays y m
    · have h : okDate y m d := ⟨h0.1, h0.2, h1⟩
      rw [if_pos (decide_eq_true h1), if_pos h, w64 (by omega) (by omega)]
      have := dayOf_years (d - 1) (by omega) d (y - 1980).toNat (by omega) (m - 1).toNat (by omega) (y - 1980).toNat 0 k (by omega) (by omega)
      rw [show (1980 : Int) + ((y - 1980).toNat : Int) = y by omega, show ((m - 1).toNat : Int) + 1 = m by omega] at this
      simpa [S, dayNo] using this
    · rw [if_neg (by simpa using h1), if_neg (fun h => h1 h.2.2)]
  · rw [if_neg h0, if_neg (by simp; omega), if_neg (fun h => h0 ⟨h.1, h.2.1⟩)]
theorem dayNo_in {y m d : Int} (h : okDate y m d) : 0 ≤ dayNo y m d ∧ dayNo y m d ≤ 43829 ∧ ∃ i, i < 1440 ∧ y = 1980 + (i / 12 : Nat) ∧ m = (i % 12 : Nat) + 1 ∧ d = dayNo y m d - S i + 1 ∧ S i ≤ dayNo y m d ∧ dayNo y m d < S (i + 1) := by
  unfold okDate at h
  have e := S_succ (12 * (y - 1980).toNat + (m - 1).toNat)
  rw [show (1980 : Int) + ((12 * (y - 1980).toNat + (m - 1).toNat) / 12 : Nat) = y by omega, show (((12 * (y - 1980).toNat + (m - 1).toNat) % 12 : Nat) : Int) + 1 = m by omega] at e
  have hd : dayNo y m d = d - 1 + S (12 * (y - 1980).toNat + (m - 1).toNat) := rfl
  have b := S_mono (show 12 * (y - 1980).toNat + (m - 1).toNat + 1 ≤ 1440 by omega)
  have b0 := S_nonneg (12 * (y - 1980).toNat + (m - 1).toNat)
  rw [S_all] at b
  exact ⟨by omega, by omega, 12 * (y - 1980).toNat + (m - 1).toNat, by omega, by omega, by omega, by omega, by omega, by omega⟩
/-- A day has one date. -/
theorem dayNo_inj {y m d y' m' d' : Int} (h : okDate y m d) (h' : okDate y' m' d') (e : dayNo y m d = dayNo y' m' d') : y = y' ∧ m = m' ∧ d = d' := by
  obtain ⟨_, _, i, _, a1, a2, a3, a4, a5⟩ := dayNo_in h
  obtain ⟨_, _, j, _, b1, b2, b3, b4, b5⟩ := dayNo_in h'
  have : i = j := S_same a4 a5 (e ▸ b4) (e ▸ b5)
  subst this
  omega
theorem validDate_s (y m d : Int) : spec_validDate.f y m d = some (decide (okDate y m d)) := by
  unfold spec_validDate.f
  rw [inRange_eq, Option.bind_some]
  by_cases h1 : 1980 ≤ y ∧ y ≤ 2099
  · rw [if_pos (decide_eq_true h1), inRange_eq, Option.bind_some]
    by_cases h2 : 1 ≤ m ∧ m ≤ 12
    · rw [if_pos (decide_eq_true h2), monthDays_s y m h1 h2, Option.bind_some, inRange_eq, Option.bind_some]
      exact congrArg some (by simp only [okDate, h1, h2, true_and])
    · rw [if_neg (by simpa using h2), decide_eq_false (fun h => h2 h.2.1)]
  · rw [if_neg (by simpa using h1), decide_eq_false (fun h => h1 h.1)]
/-- A fix that is valid. -/
def okFix (y m d s n : Int) : Prop := okDate y m d ∧ (0 ≤ s ∧ s ≤ 86400) ∧ 0 ≤ n ∧ n ≤ 32
instance (y m d s n : Int) : Decidable (okFix y m d s n) := by unfold okFix; infer_instance
theorem validFix_s (y m d s n : Int) : spec_validFix.f y m d s n = some (decide (okFix y m d s n)) := by
  unfold spec_validFix.f
  rw [validDate_s, Option.bind_some]
  by_cases h1 : okDate y m d
  · rw [if_pos (decide_eq_true h1), inRange_eq, Option.bind_some]
    by_cases h2 : 0 ≤ s ∧ s ≤ 86400
    · rw [if_pos (decide_eq_true h2), inRange_eq, Option.bind_some]
      exact congrArg some (by simp only [okFix, h1, h2, true_and])
    · rw [if_neg (by simpa using h2), decide_eq_false (fun h => h2 h.2.1)]
  · rw [if_neg (by simpa using h1), decide_eq_false (fun h => h1 h.1)]
theorem validFix_i {k : Nat} (hk : 2000 ≤ k) (y m d s n : Int) : impl_ValidFix.f k y m d s n = some (decide (okFix y m d s n)) := by
  unfold impl_ValidFix.f
  rw [dayOf_i hk, Option.bind_some, within_eq, within_eq, Option.bind_some, Option.bind_some]
  by_cases h1 : okDate y m d
  · have := (dayNo_in h1).1
    rw [if_pos h1, if_pos this]
    by_cases h2 : 0 ≤ s ∧ s ≤ 86400
    · rw [if_pos (decide_eq_true h2)]
      exact congrArg some (by simp only [okFix, h1, h2, true_and])
    · rw [if_neg (by simpa using h2), decide_eq_false (fun h => h2 h.2.1)]
  · rw [if_neg h1, if_neg (by omega), decide_eq_false (fun h => h1 h.1)]
theorem dayOfs_months (c : Int) (hc : 0 ≤ c ∧ c ≤ 31) (D : Int) (a : Nat) (ha : a < 120) (m : Nat) (hm : m < 12) (n : Nat) : ∀ (j k : Nat), j + n = m → n + 1 ≤ k →
    spec_dayOf.l1 k (c + S (12 * a + j)) ((j : Int) + 1) (1980 + (a : Int)) ((m : Int) + 1) D = some (c + S (12 * a + m)) := by
  induction n with
  | zero =>
    intro j k hj hk
    obtain ⟨k, rfl⟩ : ∃ n, k = n + 1 := ⟨k - 1, by omega⟩
    obtain rfl : j = m := by omega
    simp only [spec_dayOf.l1]
    rw [if_neg (by omega)]
  | succ n ih =>
    intro j k hj hk
    obtain ⟨k, rfl⟩ : ∃ n, k = n + 1 := ⟨k - 1, by omega⟩
    have e := S_at a j (by omega)
    have b := S_le (12 * a + j + 1)
    have b0 := S_nonneg (12 * a + j + 1)
    simp only [spec_dayOf.l1]
    rw [if_pos (by omega), monthDays_s _ _ (by omega) (by omega), Option.bind_some]
    rw [show c + S (12 * a + j) + mdays (1980 + (a : Int)) ((j : Int) + 1) = c + S (12 * a + j + 1) by rw [e]; omega]
    rw [w64 (by omega) (by omega), w64 (by omega) (by omega)]
    have := ih (j + 1) k (by omega) (by omega)
    rw [show ((j + 1 : Nat) : Int) = (j : Int) + 1 by omega, show 12 * a + (j + 1) = 12 * a + j + 1 by omega] at this
    exact this
theorem toInt_eq (b : Bool) : spec_toInt.f b = some (if b = true then 1 else 0) := by unfold spec_toInt.f; split <;> rfl
theorem S_year' (a : Nat) : S (12 * (a + 1)) = S (12 * a) + 365 + (if decide ((1980 + (a : Int)) % 4 = 0) = true then 1 else 0) := by
  rw [S_year]
  by_cases h : (1980 + (a : Int)) % 4 = 0
  · rw [if_pos h, if_pos (decide_eq_true h)]; omega
  · rw [if_neg h, if_neg (by simpa using h)]; omega
theorem dayOfs_years (c : Int) (hc : 0 ≤ c ∧ c ≤ 31) (D : Int) (b : Nat) (hb : b < 120) (m : Nat) (hm : m < 12) (n : Nat) : ∀ (a k : Nat), a + n = b → n + 20 ≤ k →
    spec_dayOf.l0 k (c + S (12 * a)) (1980 + (a : Int)) (1980 + (b : Int)) ((m : Int) + 1) D = some (c + S (12 * b + m)) := by
  induction n with
  | zero =>
    intro a k ha hk
    obtain ⟨k, rfl⟩ : ∃ n, k = n + 1 := ⟨k - 1, by omega⟩
    obtain rfl : a = b := by omega
    simp only [spec_dayOf.l0]
    rw [if_neg (by omega)]
    exact dayOfs_months c hc D a hb m hm m 0 k (by omega) (by omega)
  | succ n ih =>
    intro a k ha hk
    obtain ⟨k, rfl⟩ : ∃ n, k = n + 1 := ⟨k - 1, by omega⟩
    have e := S_year' a
    have b1 := S_le (12 * (a + 1))
    have b0 := S_nonneg (12 * a)
    simp only [spec_dayOf.l0]
    rw [if_pos (by omega), leap_s _ (by omega), Option.bind_some, toInt_eq, Option.bind_some, w64 (x := c + S (12 * a) + 365) (by omega) (by omega)]
    rw [show c + S (12 * a) + 365 + (if decide ((1980 + (a : Int)) % 4 = 0) = true then 1 else 0) = c + S (12 * (a + 1)) by rw [e]; omega]
    rw [w64 (by omega) (by omega), w64 (by omega) (by omega)]
    have := ih (a + 1) k (by omega) (by omega)
    rw [show (1980 : Int) + ((a + 1 : Nat) : Int) = 1980 + (a : Int) + 1 by omega] at this
    exact this
theorem dayOf_s {k : Nat} (hk : 2000 ≤ k) {y m d : Int} (h : okDate y m d) : spec_dayOf.f k y m d = some (dayNo y m d) := by
  have hm := mdays_in y m
  have h' := h
  unfold okDate at h'
  unfold spec_dayOf.f
  rw [w64 (by omega) (by omega)]
  have := dayOfs_years (d - 1) (by omega) d (y - 1980).toNat (by omega) (m - 1).toNat (by omega) (y - 1980).toNat 0 k (by omega) (by omega)
  rw [show (1980 : Int) + ((y - 1980).toNat : Int) = y by omega, show ((m - 1).toNat : Int) + 1 = m by omega] at this
  simpa [S, dayNo] using this
/-- The civil time of a fix. -/
def civ (y m d s n : Int) : Int := if okFix y m d s n ∧ 5 ≤ dayNo y m d then (dayNo y m d - 5) * 86400 + mn s 86399 else -1
theorem mn_le (s : Int) : mn s 86399 ≤ 86399 ∧ mn s 86399 ≤ s ∧ (s ≤ 86399 → mn s 86399 = s) ∧ (86399 ≤ s → mn s 86399 = 86399) := by unfold mn; split <;> omega
theorem civil_i {k : Nat} (hk : 2000 ≤ k) (y m d s n : Int) : impl_CivilFix.f k y m d s n = some (civ y m d s n) := by
  unfold impl_CivilFix.f civ
  rw [validFix_i hk, Option.bind_some]
  by_cases h : okFix y m d s n
  · have hd := dayNo_in h.1
    have hm := mn_le s
    have hs := h.2.1
    have h0 : 0 ≤ mn s 86399 := by unfold mn; split <;> omega
    rw [if_pos (decide_eq_true h), dayOf_i hk, if_pos h.1, Option.bind_some]
    by_cases h5 : dayNo y m d < 5
    · rw [if_pos h5, if_neg (by omega)]
    · rw [if_neg h5, Option.bind_some, if_pos ⟨h, by omega⟩, w64 (x := dayNo y m d - 5) (by omega) (by omega), w64 (x := (dayNo y m d - 5) * 86400) (by omega) (by omega), w64 (by omega) (by omega)]
  · rw [if_neg (by simpa using h), if_neg (fun g => h g.1)]
theorem civil_s {k : Nat} (hk : 2000 ≤ k) (y m d s n : Int) : spec_CivilFix.f k y m d s n = some (civ y m d s n) := by
  unfold spec_CivilFix.f civ
  rw [validFix_s, Option.bind_some]
  by_cases h : okFix y m d s n
  · have hd := dayNo_in h.1
    have hm := mn_le s
    have hs := h.2.1
    have h0 : 0 ≤ mn s 86399 := by unfold mn; split <;> omega
    rw [if_pos (decide_eq_true h), dayOf_s hk h.1, Option.bind_some]
    by_cases h5 : dayNo y m d < 5
    · rw [if_pos h5, if_neg (by omega)]
    · rw [if_neg h5, Option.bind_some, if_pos ⟨h, by omega⟩, w64 (x := dayNo y m d - 5) (by omega) (by omega), w64 (x := (dayNo y m d - 5) * 86400) (by omega) (by omega), w64 (by omega) (by omega)]
  · rw [if_neg (by simpa using h), if_neg (fun g => h g.1)]
end KFnExactCivilFix
open KFnExactCivilFix
theorem FnExactCivilFix (y m d s n : Int) : ∃ k, laws_FnExactCivilFix.f k y m d s n = some true := by
  refine ⟨2000, ?_⟩
  unfold laws_FnExactCivilFix.f laws_toFix.f laws_toDate.f
  simp only [Option.bind_some]
  rw [civil_s (by omega), Option.bind_some, civil_i (by omega), Option.bind_some]
  simp

end Go.Proofs.Ytleblmimoamdmaa.Pure
