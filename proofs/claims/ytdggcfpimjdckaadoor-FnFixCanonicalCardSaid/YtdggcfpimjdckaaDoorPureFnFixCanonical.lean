/- Proved: what ParseFix takes, FormatFix writes back and ValidFix takes, at every code (law FnFixCanonical); no condition beyond the statement's own. -/
import Derived.Test.YtdggcfpimjdckaaDoorPFnFixCanonicalx
import Derived.Laws.BitsLemmas
namespace Go.Proofs.YtdggcfpimjdckaaDoor.Pure
open Go Go.RowKit Go.Proofs.YtdggcfpimjdckaaDoor.PFnFixCanonical Go.Proofs.YtdggcfpimjdckaaDoorW.PrintWords Go.Proofs.YtdggcfpimjdckaaDoorW.PrintLast Go.Proofs.YtdggcfpimjdckaaDoorW.PrintMore

namespace KFnFixCanonical
theorem w64 {x : Int} (h1 : -9223372036854775808 ≤ x) (h2 : x < 9223372036854775808) : wrap64 x = x := by unfold wrap64; omega
theorem i64wrap (x : Int) : IntKind.i64.wrap x = wrap64 x := by rw [IntKind.wrap_i64]; unfold wrap64; rfl
theorem tm {a b : Int} (h : 0 ≤ a) : Int.tmod a b = a % b := Int.tmod_eq_emod_of_nonneg h
theorem td {a b : Int} (h : 0 ≤ a) : Int.tdiv a b = a / b := Int.tdiv_eq_ediv_of_nonneg h
theorem sval {α : Type} {x : Option α} {a : α} (h : x = some a) {β : Type} (f : α → Option β) : x.bind f = f a := by rw [h]; rfl
theorem within_eq (n lo hi : Int) : impl_within.f n lo hi = some (decide (lo ≤ n ∧ n ≤ hi)) := by
  unfold impl_within.f
  by_cases h : lo ≤ n <;> simp [h]
theorem inRange_eq (n lo hi : Int) : spec_inRange.f n lo hi = some (decide (lo ≤ n ∧ n ≤ hi)) := by
  unfold spec_inRange.f
  by_cases h : lo ≤ n <;> simp [h]
/-- The days of a month of a year in 1980..2099. -/
def mdays (y m : Int) : Int :=
  if m = 2 then (if y % 4 = 0 then 29 else 28) else if m = 4 ∨ m = 6 ∨ m = 9 ∨ m = 11 then 30 else 31
theorem mdays_in (y m : Int) : 28 ≤ mdays y m ∧ mdays y m ≤ 31 := by unfold mdays; split <;> (try split) <;> omega
/-- The days before the month number i, counted from 0 for the first month of 1980. -/
def S : Nat → Int
  | 0 => 0
  | i + 1 => S i + mdays (1980 + (i / 12 : Nat)) ((i % 12 : Nat) + 1)
theorem S_succ (i : Nat) : S (i + 1) = S i + mdays (1980 + (i / 12 : Nat)) ((i % 12 : Nat) + 1) := rfl
theorem S_at (a j : Nat) (h : j < 12) : S (12 * a + j + 1) = S (12 * a + j) + mdays (1980 + (a : Int)) ((j : Int) + 1) := by
  rw [S_succ, show (12 * a + j) / 12 = a by omega, show (12 * a + j) % 12 = j by omega]
theorem S_lt (i : Nat) : S i + 28 ≤ S (i + 1) ∧ S (i + 1) ≤ S i + 31 := by
  have := mdays_in (1980 + (i / 12 : Nat)) ((i % 12 : Nat) + 1)
  rw [S_succ]
  omega
theorem S_mono {i j : Nat} (h : i ≤ j) : S i ≤ S j := by
  induction j with
  | zero => obtain rfl : i = 0 := by omega
            exact Int.le_refl _
  | succ j ih =>
    by_cases e : i = j + 1
    · subst e; exact Int.le_refl _
    · have := ih (by omega); have := S_lt j; omega
theorem S_same {i j : Nat} {D : Int} (h1 : S i ≤ D) (h2 : D < S (i + 1)) (h3 : S j ≤ D) (h4 : D < S (j + 1)) : i = j := by
  by_cases a : i < j
  · have := S_mono (show i + 1 ≤ j by omega); omega
  · by_cases b : j < i
    · have := S_mono (show j + 1 ≤ i by omega); omega
    · omega
theorem S_nonneg (i : Nat) : 0 ≤ S i := S_mono (i := 0) (Nat.zero_le i)
theorem S_year (a : Nat) : S (12 * (a + 1)) = S (12 * a) + (365 + if (1980 + (a : Int)) % 4 = 0 then 1 else 0) := by
  have e0 := S_at a 0 (by omega)
  have e1 := S_at a 1 (by omega)
  have e2 := S_at a 2 (by omega)
  have e3 := S_at a 3 (by omega)
  have e4 := S_at a 4 (by omega)
  have e5 := S_at a 5 (by omega)
  have e6 := S_at a 6 (by omega)
  have e7 := S_at a 7 (by omega)
  have e8 := S_at a 8 (by omega)
  have e9 := S_at a 9 (by omega)
  have e10 := S_at a 10 (by omega)
  have e11 := S_at a 11 (by omega)
  simp [mdays] at e0 e1 e2 e3 e4 e5 e6 e7 e8 e9 e10 e11
  rw [show 12 * (a + 1) = 12 * a + 11 + 1 by omega, e11, e10, e9, e8, e7, e6, e5, e4, e3, e2, e1, e0]
  split <;> omega
theorem S_years (a : Nat) : S (12 * a) = 365 * a + ((a : Int) + 3) / 4 := by
  induction a with
  | zero => rfl
  | succ a ih =>
    rw [S_year, ih]
    split <;> omega
theorem S_all : S 1440 = 43830 := S_years 120
/-- Each day of the span lies in one month. -/
theorem S_find (n : Nat) : ∀ D : Int, 0 ≤ D → D < S n → ∃ i, i < n ∧ S i ≤ D ∧ D < S (i + 1) := by
  induction n with
  | zero => intro D h0 h1; simp [S] at h1; omega
  | succ n ih =>
    intro D h0 h1
    by_cases h : D < S n
    · obtain ⟨i, a, b, c⟩ := ih D h0 h
      exact ⟨i, by omega, b, c⟩
    · exact ⟨n, by omega, by omega, h1⟩
theorem S_le (i : Nat) : S i ≤ 31 * i := by
  induction i with
  | zero => simp [S]
  | succ i ih => have := S_lt i; omega
theorem leap_i (y : Int) (h : 1980 ≤ y ∧ y ≤ 2099) : impl_IsLeapYear.f y = some (decide (y % 4 = 0)) := by
  unfold impl_IsLeapYear.f
  rw [within_eq, tm (show 0 ≤ y by omega), tm (show 0 ≤ y by omega), tm (show 0 ≤ y by omega)]
  simp only [Option.bind_some, decide_eq_true h, if_true]
  by_cases h4 : y % 4 = 0
  · rw [if_pos h4, decide_eq_true h4]
    by_cases h1 : y % 100 = 0
    · rw [if_pos h1, beq_iff_eq.2 (by omega)]
    · rw [if_neg h1]
  · rw [if_neg h4, decide_eq_false h4, beq_eq_false_iff_ne.2 (by omega)]
theorem monthDays_i {k : Nat} (hk : 1 ≤ k) (y m : Int) : impl_MonthDays.f k y m = some (if (1980 ≤ y ∧ y ≤ 2099) ∧ 1 ≤ m ∧ m ≤ 12 then mdays y m else -1) := by
  obtain ⟨k, rfl⟩ : ∃ n, k = n + 1 := ⟨k - 1, by omega⟩
  unfold impl_MonthDays.f
  rw [within_eq, within_eq]
  simp only [Option.bind_some, impl_MonthDays.j0, if_true]
  by_cases h1 : 1980 ≤ y ∧ y ≤ 2099
  · by_cases h2 : 1 ≤ m ∧ m ≤ 12
    · rw [if_pos (decide_eq_true h1), if_neg (by simp [h2]), if_pos (show (1980 ≤ y ∧ y ≤ 2099) ∧ 1 ≤ m ∧ m ≤ 12 from ⟨h1, h2⟩), leap_i y h1]
      unfold mdays
      by_cases e : m = 2
      · rw [if_pos e, if_pos e]
        by_cases e4 : y % 4 = 0
        · simp [e4]
        · simp [e4]
      · rw [if_neg e, if_neg e]
        by_cases e2 : m = 4
        · rw [if_pos e2, if_pos (by omega)]
        · rw [if_neg e2]
          by_cases e3 : m = 6
          · rw [if_pos e3, if_pos (by omega)]
          · rw [if_neg e3]
            by_cases e4 : m = 9
            · rw [if_pos e4, if_pos (by omega)]
            · rw [if_neg e4]
              by_cases e5 : m = 11
              · rw [if_pos e5, if_pos (by omega)]
              · rw [if_neg e5, if_neg (by omega)]
    · rw [if_pos (decide_eq_true h1), if_pos (by simp; omega), if_neg (by omega)]
  · rw [if_neg (by simp; omega), if_neg (by omega)]
/-- A date of the span. -/
def okDate (y m d : Int) : Prop := (1980 ≤ y ∧ y ≤ 2099) ∧ (1 ≤ m ∧ m ≤ 12) ∧ 1 ≤ d ∧ d ≤ mdays y m
instance (y m d : Int) : Decidable (okDate y m d) := by unfold okDate; infer_instance
/-- The number of a day. -/
def dayNo (y m d : Int) : Int := d - 1 + S (12 * (y - 1980).toNat + (m - 1).toNat)
theorem leap_s (y : Int) (h : 1980 ≤ y ∧ y ≤ 2099) : spec_leap.f y = some (decide (y % 4 = 0)) := by
  unfold spec_leap.f
  rw [tm (show 0 ≤ y by omega), tm (show 0 ≤ y by omega), tm (show 0 ≤ y by omega)]
  by_cases h4 : y % 4 = 0
  · rw [if_pos h4, decide_eq_true h4]
    by_cases h1 : y % 100 = 0
    · rw [if_pos h1, beq_iff_eq.2 (by omega)]
    · rw [if_neg h1]
  · rw [if_neg h4, decide_eq_false h4, beq_eq_false_iff_ne.2 (by omega)]
theorem monthDays_s (y m : Int) (h : 1980 ≤ y ∧ y ≤ 2099) (hm : 1 ≤ m ∧ m ≤ 12) : spec_monthDays.f y m = some (mdays y m) := by
  unfold spec_monthDays.f
  rw [w64 (by omega) (by omega), Option.bind_some, if_pos (by omega), if_pos (by simp; omega), leap_s y h, Option.bind_some]
  rcases (by omega : m = 1 ∨ m = 2 ∨ m = 3 ∨ m = 4 ∨ m = 5 ∨ m = 6 ∨ m = 7 ∨ m = 8 ∨ m = 9 ∨ m = 10 ∨ m = 11 ∨ m = 12) with rfl | rfl | rfl | rfl | rfl | rfl | rfl | rfl | rfl | rfl | rfl | rfl
  · rfl
  · by_cases h4 : y % 4 = 0
    · simp only [h4, decide_true, if_true, mdays]; decide +kernel
    · simp only [h4, decide_false, mdays, if_false, Bool.false_eq_true, if_true]; rfl
  all_goals rfl
theorem dayOf_year (c : Int) (hc : 0 ≤ c ∧ c ≤ 31) (Y M D : Int) (hY : Y ≤ 2099) (a : Nat) (ha : 1980 + (a : Int) < Y) (n : Nat) : ∀ (j k : Nat), j + n = 12 → n + 2 ≤ k →
    impl_DayOf.l1 k (c + S (12 * a + j)) (1980 + (a : Int)) ((j : Int) + 1) Y M D = impl_DayOf.l0 (k - (n + 1)) (c + S (12 * (a + 1))) (1980 + ((a + 1 : Nat) : Int)) Y M D := by
  induction n with
  | zero =>
    intro j k hj hk
    obtain ⟨k, rfl⟩ : ∃ n, k = n + 1 := ⟨k - 1, by omega⟩
    obtain rfl : j = 12 := by omega
    simp only [impl_DayOf.l1]
    rw [if_neg (by omega), w64 (by omega) (by omega), show 12 * a + 12 = 12 * (a + 1) by omega]
    congr 1
  | succ n ih =>
    intro j k hj hk
    obtain ⟨k, rfl⟩ : ∃ n, k = n + 1 := ⟨k - 1, by omega⟩
    have e := S_at a j (by omega)
    have b := S_le (12 * a + j + 1)
    have b0 := S_nonneg (12 * a + j + 1)
    simp only [impl_DayOf.l1]
    rw [if_pos (by omega), if_pos ha, monthDays_i (by omega), if_pos (by omega)]
    simp only [Option.bind_some]
    rw [show c + S (12 * a + j) + mdays (1980 + (a : Int)) ((j : Int) + 1) = c + S (12 * a + (j + 1)) by rw [show 12 * a + (j + 1) = 12 * a + j + 1 by omega, e]; omega]
    rw [show 12 * a + (j + 1) = 12 * a + j + 1 by omega, w64 (by omega) (by omega), w64 (by omega) (by omega)]
    have := ih (j + 1) k (by omega) (by omega)
    rw [show ((j + 1 : Nat) : Int) = (j : Int) + 1 by omega, show 12 * a + (j + 1) = 12 * a + j + 1 by omega] at this
    rw [this, show k + 1 - (n + 1 + 1) = k - (n + 1) by omega]
theorem dayOf_last (c : Int) (hc : 0 ≤ c ∧ c ≤ 31) (D : Int) (a : Nat) (ha : a < 120) (m : Nat) (hm : m < 12) (n : Nat) : ∀ (j k : Nat), j + n = m → n + 3 ≤ k →
    impl_DayOf.l1 k (c + S (12 * a + j)) (1980 + (a : Int)) ((j : Int) + 1) (1980 + (a : Int)) ((m : Int) + 1) D = some (c + S (12 * a + m)) := by
  induction n with
  | zero =>
    intro j k hj hk
    obtain ⟨k, rfl⟩ : ∃ n, k = n + 2 := ⟨k - 2, by omega⟩
    obtain rfl : j = m := by omega
    simp only [impl_DayOf.l1]
    rw [if_pos (by omega), if_neg (by omega), if_neg (by omega), w64 (by omega) (by omega)]
    simp only [impl_DayOf.l0]
    rw [if_neg (by omega)]
  | succ n ih =>
    intro j k hj hk
    obtain ⟨k, rfl⟩ : ∃ n, k = n + 1 := ⟨k - 1, by omega⟩
    have e := S_at a j (by omega)
    have b := S_le (12 * a + j + 1)
    have b0 := S_nonneg (12 * a + j + 1)
    simp only [impl_DayOf.l1]
    rw [if_pos (by omega), if_neg (by omega), if_pos (by omega), monthDays_i (by omega), if_pos (by omega)]
    simp only [Option.bind_some]
    rw [show c + S (12 * a + j) + mdays (1980 + (a : Int)) ((j : Int) + 1) = c + S (12 * a + j + 1) by rw [e]; omega]
    rw [w64 (by omega) (by omega), w64 (by omega) (by omega)]
    have := ih (j + 1) k (by omega) (by omega)
    rw [show ((j + 1 : Nat) : Int) = (j : Int) + 1 by omega, show 12 * a + (j + 1) = 12 * a + j + 1 by omega] at this
    exact this
theorem dayOf_years (c : Int) (hc : 0 ≤ c ∧ c ≤ 31) (D : Int) (b : Nat) (hb : b < 120) (m : Nat) (hm : m < 12) (n : Nat) : ∀ (a k : Nat), a + n = b → 14 * n + 20 ≤ k →
    impl_DayOf.l0 k (c + S (12 * a)) (1980 + (a : Int)) (1980 + (b : Int)) ((m : Int) + 1) D = some (c + S (12 * b + m)) := by
  induction n with
  | zero =>
    intro a k ha hk
    obtain ⟨k, rfl⟩ : ∃ n, k = n + 1 := ⟨k - 1, by omega⟩
    obtain rfl : a = b := by omega
    simp only [impl_DayOf.l0]
    rw [if_pos (by omega)]
    exact dayOf_last c hc D a hb m hm m 0 k (by omega) (by omega)
  | succ n ih =>
    intro a k ha hk
    obtain ⟨k, rfl⟩ : ∃ n, k = n + 1 := ⟨k - 1, by omega⟩
    simp only [impl_DayOf.l0]
    rw [if_pos (by omega)]
    have := dayOf_year c hc (1980 + (b : Int)) ((m : Int) + 1) D (by omega) a (by omega) 12 0 k (by omega) (by omega)
    rw [Nat.add_zero, show ((0 : Nat) : Int) + 1 = 1 by rfl] at this
    rw [this]
    exact ih (a + 1) (k - (12 + 1)) (by omega) (by omega)
theorem dayOf_i {k : Nat} (hk : 2000 ≤ k) (y m d : Int) : impl_DayOf.f k y m d = some (if okDate y m d then dayNo y m d else -1) := by
  unfold impl_DayOf.f
  rw [monthDays_i (by omega)]
  simp only [Option.bind_some, within_eq]
  by_cases h0 : (1980 ≤ y ∧ y ≤ 2099) ∧ 1 ≤ m ∧ m ≤ 12
  · have hm := mdays_in y m
    rw [if_pos h0]
    by_cases h1 : 1 ≤ d ∧ d ≤ mdays y m
    · have h : okDate y m d := ⟨h0.1, h0.2, h1⟩
      rw [if_pos (decide_eq_true h1), if_pos h, w64 (by omega) (by omega)]
      have := dayOf_years (d - 1) (by omega) d (y - 1980).toNat (by omega) (m - 1).toNat (by omega) (y - 1980).toNat 0 k (by omega) (by omega)
      rw [show (1980 : Int) + ((y - 1980).toNat : Int) = y by omega, show ((m - 1).toNat : Int) + 1 = m by omega] at this
      simpa [S, dayNo] using this
    · rw [if_neg (by simpa using h1), if_neg (fun h => h1 h.2.2)]
  · rw [if_neg h0, if_neg (by simp; omega), if_neg (fun h => h0 ⟨h.1, h.2.1⟩)]
theorem dayNo_in {y m d : Int} (h : okDate y m d) : 0 ≤ dayNo y m d ∧ dayNo y m d ≤ 43829 ∧ ∃ i, i < 1440 ∧ y = 1980 + (i / 12 : Nat) ∧ m = (i % 12 : Nat) + 1 ∧ d = dayNo y m d - S i + 1 ∧ S i ≤ dayNo y m d ∧ dayNo y m d < S (i + 1) := by
  unfold okDate at h
  have e := S_succ (12 * (y - 1980).toNat + (m - 1).toNat)
  rw [show (1980 : Int) + ((12 * (y - 1980).toNat + (m - 1).toNat) / 12 : Nat) = y by omega, show (((12 * (y - 1980).toNat + (m - 1).toNat) % 12 : Nat) : Int) + 1 = m by omega] at e
  have hd : dayNo y m d = d - 1 + S (12 * (y - 1980).toNat + (m - 1).toNat) := rfl
  have b := S_mono (show 12 * (y - 1980).toNat + (m - 1).toNat + 1 ≤ 1440 by omega)
  have b0 := S_nonneg (12 * (y - 1980).toNat + (m - 1).toNat)
  rw [S_all] at b
  exact ⟨by omega, by omega, 12 * (y - 1980).toNat + (m - 1).toNat, by omega, by omega, by omega, by omega, by omega, by omega⟩
/-- A day has one date. -/
theorem dayNo_inj {y m d y' m' d' : Int} (h : okDate y m d) (h' : okDate y' m' d') (e : dayNo y m d = dayNo y' m' d') : y = y' ∧ m = m' ∧ d = d' := by
  obtain ⟨_, _, i, _, a1, a2, a3, a4, a5⟩ := dayNo_in h
  obtain ⟨_, _, j, _, b1, b2, b3, b4, b5⟩ := dayNo_in h'
  have : i = j := S_same a4 a5 (e ▸ b4) (e ▸ b5)
  subst this
  omega
theorem validDate_s (y m d : Int) : spec_validDate.f y m d = some (decide (okDate y m d)) := by
  unfold spec_validDate.f
  rw [inRange_eq, Option.bind_some]
  by_cases h1 : 1980 ≤ y ∧ y ≤ 2099
  · rw [if_pos (decide_eq_true h1), inRange_eq, Option.bind_some]
    by_cases h2 : 1 ≤ m ∧ m ≤ 12
    · rw [if_pos (decide_eq_true h2), monthDays_s y m h1 h2, Option.bind_some, inRange_eq, Option.bind_some]
      exact congrArg some (by simp only [okDate, h1, h2, true_and])
    · rw [if_neg (by simpa using h2), decide_eq_false (fun h => h2 h.2.1)]
  · rw [if_neg (by simpa using h1), decide_eq_false (fun h => h1 h.1)]
/-- A fix that is valid. -/
def okFix (y m d s n : Int) : Prop := okDate y m d ∧ (0 ≤ s ∧ s ≤ 86400) ∧ 0 ≤ n ∧ n ≤ 32
instance (y m d s n : Int) : Decidable (okFix y m d s n) := by unfold okFix; infer_instance
theorem validFix_s (y m d s n : Int) : spec_validFix.f y m d s n = some (decide (okFix y m d s n)) := by
  unfold spec_validFix.f
  rw [validDate_s, Option.bind_some]
  by_cases h1 : okDate y m d
  · rw [if_pos (decide_eq_true h1), inRange_eq, Option.bind_some]
    by_cases h2 : 0 ≤ s ∧ s ≤ 86400
    · rw [if_pos (decide_eq_true h2), inRange_eq, Option.bind_some]
      exact congrArg some (by simp only [okFix, h1, h2, true_and])
    · rw [if_neg (by simpa using h2), decide_eq_false (fun h => h2 h.2.1)]
  · rw [if_neg (by simpa using h1), decide_eq_false (fun h => h1 h.1)]
theorem validFix_i {k : Nat} (hk : 2000 ≤ k) (y m d s n : Int) : impl_ValidFix.f k y m d s n = some (decide (okFix y m d s n)) := by
  unfold impl_ValidFix.f
  rw [dayOf_i hk, Option.bind_some, within_eq, within_eq, Option.bind_some, Option.bind_some]
  by_cases h1 : okDate y m d
  · have := (dayNo_in h1).1
    rw [if_pos h1, if_pos this]
    by_cases h2 : 0 ≤ s ∧ s ≤ 86400
    · rw [if_pos (decide_eq_true h2)]
      exact congrArg some (by simp only [okFix, h1, h2, true_and])
    · rw [if_neg (by simpa using h2), decide_eq_false (fun h => h2 h.2.1)]
  · rw [if_neg h1, if_neg (by omega), decide_eq_false (fun h => h1 h.1)]
/-- The text of these bytes. -/
def B (l : List UInt8) : ByteArray := ⟨l.toArray⟩
theorem B_app (a b : List UInt8) : B a ++ B b = B (a ++ b) := ByteArray.ext (by rw [ByteArray.data_append]; simp [B])
theorem B_size (l : List UInt8) : (B l).size = l.length := by show l.toArray.size = l.length; simp
theorem B_list (l : List UInt8) : (B l).toList = l := ByteArray.toList_mk l
theorem B_of (s : ByteArray) : s = B s.data.toList := rfl
theorem B_ext (l : List UInt8) (a b : Nat) : (B l).extract a b = B ((l.drop a).take (b - a)) := ByteArray.ext (by rw [ByteArray.data_extract]; apply Array.ext'; simp [B, List.take_drop]; try omega)
theorem B_inj {a b : List UInt8} (h : B a = B b) : a = b := by have := congrArg ByteArray.toList h; rwa [B_list, B_list] at this
theorem bt_B (l : List UInt8) (i : Nat) (h : i < l.length) : bt (B l) (i : Int) = (l[i].toNat : Int) := by
  unfold bt
  rw [dif_pos (by rw [B_size]; simpa using h)]
  rfl
theorem sn (n : Int) : strOfNums [n] = B [UInt8.ofNat n.toNat] := rfl
theorem u8n (n : Nat) (h : n < 256) : (UInt8.ofNat n).toNat = n := by simp; omega
theorem xor64 (a b : Nat) (ha : a < 128) (hb : b < 128) : Go.bits .xor .i64 (a : Int) (b : Int) = ((a ^^^ b : Nat) : Int) := by
  have e : (a ^^^ b) < 2 ^ 7 := Nat.xor_lt_two_pow (n := 7) ha hb
  have ha' : a % 2 ^ IntKind.i64.bits = a := Nat.mod_eq_of_lt (Nat.lt_of_lt_of_le ha (by decide))
  have hb' : b % 2 ^ IntKind.i64.bits = b := Nat.mod_eq_of_lt (Nat.lt_of_lt_of_le hb (by decide))
  simp only [Go.bits, BitVec.ofInt_natCast, BitVec.toNat_xor, BitVec.toNat_ofNat, ha', hb']
  rw [IntKind.wrap_i64]
  omega
/-- A byte that can stand in a sentence. -/
def okc (c : UInt8) : Bool := decide (32 ≤ c.toNat) && (decide (c.toNat ≤ 126) && (decide (c.toNat ≠ 36) && decide (c.toNat ≠ 42)))
theorem okc_iff (c : UInt8) : okc c = true ↔ 32 ≤ c.toNat ∧ c.toNat ≤ 126 ∧ c.toNat ≠ 36 ∧ c.toNat ≠ 42 := by unfold okc; simp only [Bool.and_eq_true, decide_eq_true_eq]
/-- A text that can stand in a sentence. -/
def okBody (l : List UInt8) : Bool := l.all okc && decide (1 ≤ l.length ∧ l.length ≤ 40)
def xorL (a : Nat) (l : List UInt8) : Nat := l.foldl (fun a c => a ^^^ c.toNat) a
theorem xorL_lt (l : List UInt8) : ∀ a, a < 128 → l.all okc = true → xorL a l < 128 := by
  induction l with
  | nil => intro a h _; exact h
  | cons c l ih =>
    intro a h hl
    rw [List.all_cons, Bool.and_eq_true] at hl
    have hc := (okc_iff c).1 hl.1
    exact ih _ (Nat.xor_lt_two_pow (n := 7) h (by omega)) hl.2
theorem drop_cons {l : List UInt8} {i : Nat} (h : i < l.length) : l.drop i = l[i] :: l.drop (i + 1) := List.drop_eq_getElem_cons h
theorem checksum_i {k : Nat} (l : List UInt8) (hk : l.length < k) : impl_ChecksumOf.f k (B l) = some (if okBody l = true then ((xorL 0 l : Nat) : Int) else -1) := by
  unfold impl_ChecksumOf.f
  rw [within_eq, Option.bind_some, B_size]
  by_cases hlen : (1 : Int) ≤ (l.length : Int) ∧ (l.length : Int) ≤ 40
  rotate_left
  · rw [if_neg (by rw [decide_eq_true_eq]; exact hlen), if_neg (by unfold okBody; rw [Bool.and_eq_true, decide_eq_true_eq]; omega)]
  rw [if_pos (decide_eq_true hlen)]
  have main : ∀ (n i k a : Nat), i + n = l.length → n < k → a < 128 → impl_ChecksumOf.l0 k (B l) (a : Int) (l.length : Int) (i : Int) = some (if (l.drop i).all okc = true then ((xorL a (l.drop i) : Nat) : Int) else -1) := fun n => by
    induction n with
    | zero =>
      intro i k a h hk ha
      obtain ⟨k, rfl⟩ : ∃ m, k = m + 1 := ⟨k - 1, by omega⟩
      simp only [impl_ChecksumOf.l0]
      rw [if_neg (by omega), List.drop_eq_nil_of_le (by omega)]
      rfl
    | succ n ih =>
      intro i k a h hk ha
      obtain ⟨k, rfl⟩ : ∃ m, k = m + 1 := ⟨k - 1, by omega⟩
      have hb : (l[i]'(by omega)).toNat < 256 := UInt8.toNat_lt _
      simp only [impl_ChecksumOf.l0]
      rw [if_pos (by omega), if_pos (by omega), if_pos (by rw [B_size]; omega), bt_B l i (by omega), drop_cons (l := l) (i := i) (by omega), List.all_cons]
      by_cases hc : okc (l[i]'(by omega)) = true
      · have hc' := (okc_iff _).1 hc
        rw [if_neg (by omega), if_neg (by omega), if_neg (by omega), if_neg (by omega), hc, Bool.true_and, w64 (x := ((l[i]'(by omega)).toNat : Int)) (by omega) (by omega), xor64 a _ ha (by omega), w64 (by omega) (by omega)]
        exact ih (i + 1) k _ (by omega) (by omega) (Nat.xor_lt_two_pow (n := 7) ha (by omega))
      · rw [Bool.eq_false_iff.2 hc, Bool.false_and, if_neg (show ¬ (false = true) by simp)]
        have hc' : ¬ (32 ≤ (l[i]'(by omega)).toNat ∧ (l[i]'(by omega)).toNat ≤ 126 ∧ (l[i]'(by omega)).toNat ≠ 36 ∧ (l[i]'(by omega)).toNat ≠ 42) := fun h => hc ((okc_iff _).2 h)
        by_cases h1 : ((l[i]'(by omega)).toNat : Int) < 32
        · rw [if_pos h1]
        rw [if_neg h1]
        by_cases h2 : ((l[i]'(by omega)).toNat : Int) > 126
        · rw [if_pos h2]
        rw [if_neg h2]
        by_cases h3 : ((l[i]'(by omega)).toNat : Int) = 36
        · rw [if_pos h3]
        rw [if_neg h3]
        by_cases h4 : ((l[i]'(by omega)).toNat : Int) = 42
        · rw [if_pos h4]
        exact absurd ⟨by omega, by omega, by omega, by omega⟩ hc'
  have := main l.length 0 k 0 (by omega) hk (by omega)
  rw [List.drop_zero] at this
  have e : impl_ChecksumOf.l0 k (B l) 0 (l.length : Int) 0 = _ := this
  rw [e]
  unfold okBody
  rw [decide_eq_true (by omega), Bool.and_true]
def hexL : List UInt8 := [48, 49, 50, 51, 52, 53, 54, 55, 56, 57, 65, 66, 67, 68, 69, 70]
/-- The sentence of a text. -/
def frame (l : List UInt8) : List UInt8 := [36] ++ l ++ [42] ++ (hexL.drop (xorL 0 l / 16)).take 1 ++ (hexL.drop (xorL 0 l % 16)).take 1
theorem frame_len {l : List UInt8} (h : okBody l = true) : (frame l).length = l.length + 4 := by
  unfold okBody at h
  rw [Bool.and_eq_true] at h
  have := xorL_lt l 0 (by omega) h.1
  have e : hexL.length = 16 := rfl
  unfold frame
  simp only [List.length_append, List.length_take, List.length_drop, e, List.length_singleton]
  omega
theorem frameBody_i {k : Nat} (l : List UInt8) (hk : l.length < k) : impl_FrameBody.f k (B l) = some (B (if okBody l = true then frame l else [])) := by
  unfold impl_FrameBody.f
  rw [checksum_i l hk, Option.bind_some]
  by_cases h : okBody l = true
  rotate_left
  · rw [if_neg h, if_neg h, if_pos (by omega)]
    rfl
  have h' := h
  unfold okBody at h'
  rw [Bool.and_eq_true, decide_eq_true_eq] at h'
  have hx := xorL_lt l 0 (by omega) h'.1
  have hfl := frame_len h
  rw [if_pos h, if_pos h, if_neg (by omega), td (by omega), tm (by omega)]
  have e16 : ((xorL 0 l : Nat) : Int) / 16 = ((xorL 0 l / 16 : Nat) : Int) := by omega
  have em : ((xorL 0 l : Nat) : Int) % 16 = ((xorL 0 l % 16 : Nat) : Int) := by omega
  rw [e16, em, w64 (x := ((xorL 0 l / 16 : Nat) : Int)) (by omega) (by omega), w64 (x := ((xorL 0 l / 16 : Nat) : Int) + 1) (by omega) (by omega), w64 (x := ((xorL 0 l % 16 : Nat) : Int) + 1) (by omega) (by omega)]
  have hH : (⟨#[48, 49, 50, 51, 52, 53, 54, 55, 56, 57, 65, 66, 67, 68, 69, 70]⟩ : ByteArray) = B hexL := rfl
  have h36 : (⟨#[36]⟩ : ByteArray) = B [36] := rfl
  have h42 : (⟨#[42]⟩ : ByteArray) = B [42] := rfl
  have t1 : (((xorL 0 l / 16 : Nat) : Int) + 1).toNat - (xorL 0 l / 16) = 1 := by omega
  have t2 : (((xorL 0 l % 16 : Nat) : Int) + 1).toNat - (xorL 0 l % 16) = 1 := by omega
  simp only [hH, h36, h42, B_ext, B_app, B_size, Int.toNat_natCast, t1, t2]
  have e : hexL.length = 16 := rfl
  simp only [List.length_append, List.length_take, List.length_drop, e, List.length_singleton]
  rw [if_pos (by omega), if_pos (by omega), if_pos (by omega), if_pos (by omega), if_pos (by omega), if_pos (by omega), if_pos (by omega), if_pos (by omega), if_pos (by omega), if_pos (by omega)]
  rfl
theorem isBody_s {k : Nat} (l : List UInt8) (hl : l.length ≤ 4611686018427387904) (hk : l.length < k) : spec_isBody.f k (B l) = some (okBody l) := by
  have main : ∀ (n i k : Nat), i + n = l.length → n < k → spec_isBody.l0 k (B l) (i : Int) = some ((l.drop i).all okc && decide (1 ≤ l.length ∧ l.length ≤ 40)) := fun n => by
    induction n with
    | zero =>
      intro i k h hk
      obtain ⟨k, rfl⟩ : ∃ m, k = m + 1 := ⟨k - 1, by omega⟩
      simp only [spec_isBody.l0]
      rw [B_size, if_neg (by omega), inRange_eq, Option.bind_some, List.drop_eq_nil_of_le (by omega)]
      exact congrArg some (by rw [List.all_nil, Bool.true_and]; exact decide_eq_decide.2 (by omega))
    | succ n ih =>
      intro i k h hk
      obtain ⟨k, rfl⟩ : ∃ m, k = m + 1 := ⟨k - 1, by omega⟩
      have hb : (l[i]'(by omega)).toNat < 256 := UInt8.toNat_lt _
      have IH := ih (i + 1) k (by omega) (by omega)
      rw [show ((i + 1 : Nat) : Int) = (i : Int) + 1 by omega] at IH
      simp only [spec_isBody.l0]
      rw [B_size, if_pos (by omega), if_pos (by omega), bt_B l i (by omega), inRange_eq, Option.bind_some, w64 (x := ((l[i]'(by omega)).toNat : Int)) (by omega) (by omega), w64 (x := (i : Int) + 1) (by omega) (by omega), IH, drop_cons (l := l) (i := i) (by omega), List.all_cons]
      by_cases hr : (32 : Int) ≤ ((l[i]'(by omega)).toNat : Int) ∧ ((l[i]'(by omega)).toNat : Int) ≤ 126
      · rw [if_pos (decide_eq_true hr)]
        by_cases h1 : ((l[i]'(by omega)).toNat : Int) = 36
        · rw [if_pos h1, (Bool.eq_false_iff.2 (fun h => by have := (okc_iff _).1 h; omega) : okc (l[i]'(by omega)) = false)]; rfl
        rw [if_neg h1]
        by_cases h2 : ((l[i]'(by omega)).toNat : Int) = 42
        · rw [if_pos h2, (Bool.eq_false_iff.2 (fun h => by have := (okc_iff _).1 h; omega) : okc (l[i]'(by omega)) = false)]; rfl
        rw [if_neg h2, (okc_iff _).2 ⟨by omega, by omega, by omega, by omega⟩, Bool.true_and]
      · rw [if_neg (by rw [decide_eq_true_eq]; exact hr), (Bool.eq_false_iff.2 (fun h => by have := (okc_iff _).1 h; omega) : okc (l[i]'(by omega)) = false)]; rfl
  have := main l.length 0 k (by omega) hk
  rw [List.drop_zero] at this
  exact this
theorem checksum_s {k : Nat} (l : List UInt8) (h : l.all okc = true) (hl : l.length ≤ 40) (hk : l.length < k) : spec_checksum.f k (B l) = some ((xorL 0 l : Nat) : Int) := by
  have main : ∀ (n i k a : Nat), i + n = l.length → n < k → a < 128 → spec_checksum.l0 k (B l) (a : Int) (i : Int) = some ((xorL a (l.drop i) : Nat) : Int) := fun n => by
    induction n with
    | zero =>
      intro i k a h hk ha
      obtain ⟨k, rfl⟩ : ∃ m, k = m + 1 := ⟨k - 1, by omega⟩
      simp only [spec_checksum.l0]
      rw [B_size, if_neg (by omega), List.drop_eq_nil_of_le (by omega)]
      rfl
    | succ n ih =>
      intro i k a hi hk ha
      obtain ⟨k, rfl⟩ : ∃ m, k = m + 1 := ⟨k - 1, by omega⟩
      have hc := (okc_iff _).1 (List.all_eq_true.1 h (l[i]'(by omega)) (List.getElem_mem _))
      simp only [spec_checksum.l0]
      rw [B_size, if_pos (by omega), if_pos (by omega), bt_B l i (by omega), drop_cons (l := l) (i := i) (by omega), w64 (x := ((l[i]'(by omega)).toNat : Int)) (by omega) (by omega), xor64 a _ ha (by omega), w64 (by omega) (by omega)]
      exact ih (i + 1) k _ (by omega) (by omega) (Nat.xor_lt_two_pow (n := 7) ha (by omega))
  have := main l.length 0 k 0 (by omega) hk (by omega)
  rw [List.drop_zero] at this
  exact this
theorem hex_s (n : Nat) (h : n < 16) : spec_hexDigit.f (n : Int) = some (B ((hexL.drop n).take 1)) := by
  have hH : (⟨#[48, 49, 50, 51, 52, 53, 54, 55, 56, 57, 65, 66, 67, 68, 69, 70]⟩ : ByteArray) = B hexL := rfl
  unfold spec_hexDigit.f
  rw [if_pos (by omega), w64 (x := (n : Int) + 1) (by omega) (by omega), if_pos (by omega), if_pos (by omega), hH, B_ext, show ((n : Int) + 1).toNat - (n : Int).toNat = 1 by omega, Int.toNat_natCast]
theorem frameBody_s {k : Nat} (l : List UInt8) (hl : l.length ≤ 4611686018427387904) (hk : l.length < k) : spec_FrameBody.f k (B l) = some (B (if okBody l = true then frame l else [])) := by
  unfold spec_FrameBody.f
  rw [isBody_s l hl hk, Option.bind_some]
  by_cases h : okBody l = true
  rotate_left
  · rw [if_neg h, if_neg h]
    rfl
  have h' := h
  unfold okBody at h'
  rw [Bool.and_eq_true, decide_eq_true_eq] at h'
  have hx := xorL_lt l 0 (by omega) h'.1
  rw [if_pos h, if_pos h, checksum_s l h'.1 h'.2.2 hk, Option.bind_some, td (by omega), tm (by omega)]
  have e16 : ((xorL 0 l : Nat) : Int) / 16 = ((xorL 0 l / 16 : Nat) : Int) := by omega
  have em : ((xorL 0 l : Nat) : Int) % 16 = ((xorL 0 l % 16 : Nat) : Int) := by omega
  rw [e16, em, w64 (x := ((xorL 0 l / 16 : Nat) : Int)) (by omega) (by omega), hex_s _ (by omega), hex_s _ (by omega)]
  have h36 : (⟨#[36]⟩ : ByteArray) = B [36] := rfl
  have h42 : (⟨#[42]⟩ : ByteArray) = B [42] := rfl
  simp only [h36, h42, B_app, B_size, Option.bind_some]
  have e : hexL.length = 16 := rfl
  simp only [List.length_append, List.length_take, List.length_drop, e, List.length_singleton]
  rw [if_pos (by omega), if_pos (by omega), if_pos (by omega), if_pos (by omega)]
  rfl
theorem pow10 {k : Nat} (hk : 20 ≤ k) : (100000000000000000000 : Int) ≤ 10 ^ k := by
  obtain ⟨j, rfl⟩ : ∃ j, k = 20 + j := ⟨k - 20, by omega⟩
  induction j with
  | zero => decide
  | succ j ih =>
    have := ih (by omega)
    rw [show 20 + (j + 1) = 20 + j + 1 by omega, Int.pow_succ]
    omega
/-- A digit. -/
def dg (n : Nat) : UInt8 := UInt8.ofNat (48 + n)
theorem dd1 {u : Nat} (h : u < 10) : Lib.decDigits u = [dg u] := by rw [Lib.decDigits, dif_pos h]; rfl
theorem dd_step {u : Nat} (h : ¬ u < 10) : Lib.decDigits u = Lib.decDigits (u / 10) ++ [dg (u % 10)] := by conv => lhs; rw [Lib.decDigits, dif_neg h]
                                                                                                           rfl
theorem dd2 {u : Nat} (h0 : 10 ≤ u) (h : u < 100) : Lib.decDigits u = [dg (u / 10), dg (u % 10)] := by rw [dd_step (by omega), dd1 (by omega)]; rfl
theorem dd4 {u : Nat} (h0 : 1000 ≤ u) (h : u < 10000) : Lib.decDigits u = [dg (u / 1000), dg (u / 100 % 10), dg (u / 10 % 10), dg (u % 10)] := by
  rw [dd_step (by omega), dd_step (u := u / 10) (by omega), dd2 (u := u / 10 / 10) (by omega) (by omega)]
  rw [show u / 10 / 10 / 10 = u / 1000 by omega, show u / 10 / 10 % 10 = u / 100 % 10 by omega]
  rfl
def two (n : Nat) : List UInt8 := [dg (n / 10), dg (n % 10)]
theorem itoa_i (n : Int) (h0 : 0 ≤ n) (h1 : n ≤ 9223372036854775807) : strconv_Itoa.f n = some (B (Lib.decDigits n.toNat)) := by
  unfold strconv_Itoa.f
  rw [if_pos (by omega)]
  unfold Lib.itoa
  rw [if_neg (by omega)]
  rfl
theorem two_i (n : Int) (h0 : 0 ≤ n) (h1 : n < 100) : impl_twoDigits.f n = some (B (two n.toNat)) := by
  unfold impl_twoDigits.f
  rw [td h0, tm h0, w64 (by omega) (by omega), itoa_i _ (by omega) (by omega), Option.bind_some, itoa_i _ (by omega) (by omega), Option.bind_some, dd1 (by omega), dd1 (by omega), B_size, B_size, B_app, if_pos (by simp)]
  rw [show (n / 10).toNat = n.toNat / 10 by omega, show (n % 10).toNat = n.toNat % 10 by omega]
  rfl
theorem dd_len (u : Nat) : ∀ k, u < 10 ^ k → 1 ≤ k → (Lib.decDigits u).length ≤ k := by
  intro k
  induction k generalizing u with
  | zero => intro _ h; omega
  | succ k ih =>
    intro hu _
    by_cases h : u < 10
    · rw [dd1 h]; simp
    · rw [dd_step h, List.length_append, List.length_singleton]
      have hk : 1 ≤ k := by
        by_cases hk : k = 0
        · subst hk; simp at hu; omega
        · omega
      have := ih (u / 10) (by rw [Nat.pow_succ] at hu; omega) hk
      omega
/-- The time of the day, six digits. -/
def clockL (s : Nat) : List UInt8 := if s < 86400 then two (s / 3600) ++ two (s / 60 % 60) ++ two (s % 60) else [50, 51, 53, 57, 54, 48]
/-- The text of a fix. -/
def bodyL (y m d s n : Int) : List UInt8 := [70, 73, 88, 44] ++ clockL s.toNat ++ [44] ++ two d.toNat ++ [44] ++ two m.toNat ++ [44] ++ Lib.decDigits y.toNat ++ [44] ++ Lib.decDigits n.toNat
theorem two_len (n : Nat) : (two n).length = 2 := rfl
theorem clock_len (s : Nat) : (clockL s).length = 6 := by unfold clockL; split <;> rfl
theorem dg_toNat {n : Nat} (h : n < 10) : (dg n).toNat = 48 + n := u8n _ (by omega)
theorem dg_okc {n : Nat} (h : n < 10) : okc (dg n) = true := (okc_iff _).2 (by rw [dg_toNat h]; omega)
theorem seen_len {n : Nat} (h : n ≤ 32) : (Lib.decDigits n).length = 1 ∨ (Lib.decDigits n).length = 2 := by
  by_cases h1 : n < 10
  · rw [dd1 h1]; left; rfl
  · rw [dd2 (by omega) (by omega)]; right; rfl
theorem year_len {y : Nat} (h0 : 1980 ≤ y) (h : y ≤ 2099) : (Lib.decDigits y).length = 4 := by rw [dd4 (by omega) (by omega)]; rfl
theorem dd_all (P : UInt8 → Bool) (hP : ∀ n, n < 10 → P (dg n) = true) (u : Nat) : (Lib.decDigits u).all P = true := by
  induction u using Nat.strongRecOn with
  | _ u ih =>
    by_cases h : u < 10
    · rw [dd1 h, List.all_cons, hP u h]; rfl
    · rw [dd_step h, List.all_append, ih (u / 10) (by omega), List.all_cons, hP _ (by omega)]; rfl
theorem two_all (P : UInt8 → Bool) (hP : ∀ n, n < 10 → P (dg n) = true) {n : Nat} (h : n < 100) : (two n).all P = true := by
  unfold two
  rw [List.all_cons, List.all_cons, hP _ (by omega), hP _ (by omega)]; rfl
theorem clock_all (P : UInt8 → Bool) (hP : ∀ n, n < 10 → P (dg n) = true) {s : Nat} (h : s ≤ 86400) : (clockL s).all P = true := by
  unfold clockL
  split
  · rw [List.all_append, List.all_append, two_all P hP (by omega), two_all P hP (by omega), two_all P hP (by omega)]; rfl
  · have e : ([50, 51, 53, 57, 54, 48] : List UInt8) = [dg 2, dg 3, dg 5, dg 9, dg 6, dg 0] := rfl
    rw [e]
    simp only [List.all_cons, hP 2 (by omega), hP 3 (by omega), hP 5 (by omega), hP 9 (by omega), hP 6 (by omega), hP 0 (by omega), List.all_nil, Bool.and_self]
theorem mdays31 (y m : Int) : mdays y m ≤ 31 := (mdays_in y m).2
theorem body_ok {y m d s n : Int} (h : okFix y m d s n) : okBody (bodyL y m d s n) = true ∧ 23 ≤ (bodyL y m d s n).length ∧ (bodyL y m d s n).length ≤ 24 := by
  obtain ⟨⟨hy, hm, hd1, hd2⟩, hs, hn⟩ := h
  have := mdays31 y m
  have hl : (bodyL y m d s n).length = 22 + (Lib.decDigits n.toNat).length := by
    unfold bodyL
    simp only [List.length_append, clock_len, two_len, year_len (y := y.toNat) (by omega) (by omega), List.length_cons, List.length_nil]
  have hsl := seen_len (n := n.toNat) (by omega)
  refine ⟨?_, by omega, by omega⟩
  unfold okBody
  rw [decide_eq_true (by omega), Bool.and_true]
  unfold bodyL
  simp only [List.all_append, clock_all okc (fun _ => dg_okc) (s := s.toNat) (by omega), two_all okc (fun _ => dg_okc) (n := d.toNat) (by omega), two_all okc (fun _ => dg_okc) (n := m.toNat) (by omega), dd_all okc (fun _ => dg_okc)]
  decide
theorem format_i {k : Nat} (hk : 2001 ≤ k) (y m d s n : Int) : impl_FormatFix.f k y m d s n = some (B (if okFix y m d s n then frame (bodyL y m d s n) else [])) := by
  obtain ⟨k, rfl⟩ : ∃ j, k = j + 1 := ⟨k - 1, by omega⟩
  unfold impl_FormatFix.f
  rw [validFix_i (by omega), Option.bind_some]
  by_cases h : okFix y m d s n
  rotate_left
  · rw [if_neg (by rw [decide_eq_true_eq]; exact h), if_neg h]
    rfl
  obtain ⟨hok, hl1, hl2⟩ := body_ok h
  obtain ⟨⟨hy, hm, hd1, hd2⟩, hs, hn⟩ := id h
  have := mdays31 y m
  have hF : (⟨#[70, 73, 88, 44]⟩ : ByteArray) = B [70, 73, 88, 44] := rfl
  have hC : (⟨#[44]⟩ : ByteArray) = B [44] := rfl
  have j0 : impl_FormatFix.j0 (k + 1) (B (clockL s.toNat)) y m d s n = some (B (frame (bodyL y m d s n))) := by
    simp only [impl_FormatFix.j0]
    rw [hF, hC, two_i d (by omega) (by omega), two_i m (by omega) (by omega), itoa_i y (by omega) (by omega), itoa_i n (by omega) (by omega)]
    have hsl := seen_len (n := n.toNat) (by omega)
    simp only [Option.bind_some, B_app, B_size, List.length_append, clock_len, two_len, year_len (y := y.toNat) (by omega) (by omega), List.length_cons, List.length_nil]
    rw [if_pos (by omega), if_pos (by omega), if_pos (by omega), if_pos (by omega), if_pos (by omega), if_pos (by omega), if_pos (by omega), if_pos (by omega), if_pos (by omega)]
    have hfb := frameBody_i (k := k) (bodyL y m d s n) (by omega)
    rw [if_pos hok] at hfb
    unfold bodyL at hfb ⊢
    rw [hfb, Option.bind_some]
  rw [if_pos (decide_eq_true h), if_pos h]
  by_cases hs2 : s < 86400
  · rw [if_pos hs2, td hs.1, td hs.1, w64 (x := s / 3600) (by omega) (by omega), w64 (x := s / 60) (by omega) (by omega), tm (show 0 ≤ s / 60 by omega), tm hs.1, two_i _ (by omega) (by omega), two_i _ (by omega) (by omega), two_i _ (by omega) (by omega)]
    simp only [Option.bind_some, B_app, B_size, List.length_append, two_len]
    rw [if_pos (by omega), if_pos (by omega), show (s / 3600).toNat = s.toNat / 3600 by omega, show (s / 60 % 60).toNat = s.toNat / 60 % 60 by omega, show (s % 60).toNat = s.toNat % 60 by omega]
    have e : clockL s.toNat = two (s.toNat / 3600) ++ two (s.toNat / 60 % 60) ++ two (s.toNat % 60) := by unfold clockL; rw [if_pos (by omega)]
    rw [← e]
    exact j0
  · have e : clockL s.toNat = [50, 51, 53, 57, 54, 48] := by unfold clockL; rw [if_neg (by omega)]
    rw [e] at j0
    rw [if_neg hs2]
    exact j0
theorem decimal_s : ∀ (k : Nat) (n : Int), 0 ≤ n → n ≤ 9223372036854775807 → n < 10 ^ k → 1 ≤ k → spec_decimal.f k n = some (B (Lib.decDigits n.toNat)) := by
  intro k
  induction k with
  | zero => intro n _ _ _ h; omega
  | succ k ih =>
    intro n h0 h1 h2 _
    simp only [spec_decimal.f]
    by_cases h : n < 10
    · rw [if_pos h, w64 (by omega) (by omega), dd1 (by omega), sn]
      rw [show ((48 + n) % 256).toNat = 48 + n.toNat by omega]
      rfl
    · have hk : 1 ≤ k := by
        by_cases hk : k = 0
        · subst hk; simp at h2; omega
        · omega
      rw [if_neg h, td h0, tm h0, w64 (by omega) (by omega), w64 (by omega) (by omega), ih (n / 10) (by omega) (by omega) (by rw [Int.pow_succ] at h2; omega) hk, Option.bind_some, Option.bind_some, sn, B_size, B_size, B_app]
      have hl := dd_len (n / 10).toNat 19 (by rw [show (10 : Nat) ^ 19 = 10000000000000000000 by decide]; omega) (by omega)
      rw [if_pos (by simp; omega), dd_step (u := n.toNat) (by omega), show (n / 10).toNat = n.toNat / 10 by omega, show ((48 + n % 10) % 256).toNat = 48 + n.toNat % 10 by omega]
      rfl
theorem digits2_s {k : Nat} (hk : 20 ≤ k) (n : Int) (h0 : 0 ≤ n) (h1 : n < 100) : spec_digits.f k n 2 = some (B (two n.toNat)) := by
  unfold spec_digits.f
  have hp : n < 10 ^ k := by
    have := pow10 hk
    omega
  rw [decimal_s k n h0 (by omega) hp (by omega), Option.bind_some]
  obtain ⟨k, rfl⟩ : ∃ m, k = m + 2 := ⟨k - 2, by omega⟩
  by_cases h : n < 10
  · rw [dd1 (by omega)]
    simp only [spec_digits.l0]
    have h48 : (⟨#[48]⟩ : ByteArray) = B [48] := rfl
    rw [h48, B_app, B_size, if_pos (by simp), if_pos (by simp), B_size, if_neg (by simp)]
    unfold two
    rw [show n.toNat / 10 = 0 by omega, show n.toNat % 10 = n.toNat by omega]
    rfl
  · rw [dd2 (by omega) (by omega)]
    simp only [spec_digits.l0]
    rw [B_size, if_neg (by simp)]
    rfl
theorem digits4_s {k : Nat} (hk : 20 ≤ k) (n : Int) (h0 : 1000 ≤ n) (h1 : n < 10000) : spec_digits.f k n 4 = some (B (Lib.decDigits n.toNat)) := by
  unfold spec_digits.f
  have hp : n < 10 ^ k := by
    have := pow10 hk
    omega
  rw [decimal_s k n (by omega) (by omega) hp (by omega), Option.bind_some]
  obtain ⟨k, rfl⟩ : ∃ m, k = m + 2 := ⟨k - 2, by omega⟩
  rw [dd4 (by omega) (by omega)]
  simp only [spec_digits.l0]
  rw [B_size, if_neg (by simp)]
theorem formatB_s {k : Nat} (hk : 2000 ≤ k) {y m d s n : Int} (h : okFix y m d s n) : spec_formatFix.f k y m d s n = some (B (bodyL y m d s n)) := by
  obtain ⟨⟨hy, hm, hd1, hd2⟩, hs, hn⟩ := id h
  have := mdays31 y m
  have hF : (⟨#[70, 73, 88, 44]⟩ : ByteArray) = B [70, 73, 88, 44] := rfl
  have hC : (⟨#[44]⟩ : ByteArray) = B [44] := rfl
  have hp : n < 10 ^ k := by
    have := pow10 (k := k) (by omega)
    omega
  have hmn : 0 ≤ mn s 86399 ∧ mn s 86399 ≤ 86399 := by unfold mn; split <;> omega
  have hlast : 0 ≤ mn s 86399 % 60 + s - mn s 86399 ∧ mn s 86399 % 60 + s - mn s 86399 < 100 := by unfold mn; split <;> omega
  unfold spec_formatFix.f
  rw [td hmn.1, td hmn.1, w64 (x := mn s 86399 / 3600) (by omega) (by omega), w64 (x := mn s 86399 / 60) (by omega) (by omega), tm (show 0 ≤ mn s 86399 / 60 by omega), tm hmn.1, w64 (x := mn s 86399 % 60 + s) (by omega) (by omega), w64 (x := mn s 86399 % 60 + s - mn s 86399) (by omega) (by omega)]
  rw [digits2_s (by omega) _ (show 0 ≤ mn s 86399 / 3600 by omega) (by omega), digits2_s (by omega) _ (show 0 ≤ mn s 86399 / 60 % 60 by omega) (by omega), digits2_s (by omega) _ hlast.1 hlast.2, digits2_s (by omega) d (by omega) (by omega), digits2_s (by omega) m (by omega) (by omega), digits4_s (by omega) y (by omega) (by omega), decimal_s k n (by omega) (by omega) hp (by omega), hF, hC]
  have hsl := seen_len (n := n.toNat) (by omega)
  simp only [Option.bind_some, B_app, B_size, List.length_append, two_len, year_len (y := y.toNat) (by omega) (by omega), List.length_cons, List.length_nil]
  rw [if_pos (by omega), if_pos (by omega), if_pos (by omega), if_pos (by omega), if_pos (by omega), if_pos (by omega), if_pos (by omega), if_pos (by omega), if_pos (by omega), if_pos (by omega), if_pos (by omega)]
  have e : two (mn s 86399 / 3600).toNat ++ two (mn s 86399 / 60 % 60).toNat ++ two (mn s 86399 % 60 + s - mn s 86399).toNat = clockL s.toNat := by
    unfold clockL
    by_cases hs2 : s < 86400
    · have em : mn s 86399 = s := by unfold mn; split <;> omega
      rw [if_pos (by omega), em, show s % 60 + s - s = s % 60 by omega, show (s / 3600).toNat = s.toNat / 3600 by omega, show (s / 60 % 60).toNat = s.toNat / 60 % 60 by omega, show (s % 60).toNat = s.toNat % 60 by omega]
    · obtain rfl : s = 86400 := by omega
      rfl
  rw [e]
  rfl
theorem format_s {k : Nat} (hk : 2000 ≤ k) (y m d s n : Int) : spec_FormatFix.f k y m d s n = some (B (if okFix y m d s n then frame (bodyL y m d s n) else [])) := by
  unfold spec_FormatFix.f
  rw [validFix_s, Option.bind_some]
  by_cases h : okFix y m d s n
  · obtain ⟨hok, hl1, hl2⟩ := body_ok h
    have hfb := frameBody_s (k := k) (bodyL y m d s n) (by omega) (by omega)
    rw [if_pos hok] at hfb
    rw [if_pos (decide_eq_true h), formatB_s hk h, Option.bind_some, hfb, Option.bind_some, if_pos h]
  · rw [if_neg (by rw [decide_eq_true_eq]; exact h), if_neg h]
    rfl
theorem xor_nat (a b : Nat) (ha : a < 2 ^ 62) (hb : b < 2 ^ 62) : Go.bits .xor .i64 (a : Int) (b : Int) = ((a ^^^ b : Nat) : Int) := by
  have hx := Nat.xor_lt_two_pow ha hb
  have e : Go.bits .xor .i64 (a : Int) (b : Int) = wrap64 ((BitVec.ofInt 64 (a : Int) ^^^ BitVec.ofInt 64 (b : Int)).toNat : Int) := by rw [← i64wrap]; rfl
  rw [e, BitVec.ofInt_natCast, BitVec.ofInt_natCast, BitVec.toNat_xor, BitVec.toNat_ofNat, BitVec.toNat_ofNat, Nat.mod_eq_of_lt (by omega), Nat.mod_eq_of_lt (by omega)]
  exact w64 (by omega) (by omega)
theorem xor_ge (a b : Int) (h1 : 0 ≤ a) (h2 : a < 4611686018427387904) (h3 : 0 ≤ b) (h4 : b < 4611686018427387904) : 0 ≤ Go.bits .xor .i64 a b := by
  obtain ⟨x, rfl⟩ := Int.eq_ofNat_of_zero_le h1
  obtain ⟨y, rfl⟩ := Int.eq_ofNat_of_zero_le h3
  rw [xor_nat x y (by omega) (by omega)]
  exact Int.natCast_nonneg _
theorem rd_in {b : List Int} {lo hi : Int} (h : ∀ x ∈ b, lo ≤ x ∧ x ≤ hi) {i : Int} (h0 : 0 ≤ i) (h1 : i < b.length) : lo ≤ rd b i ∧ rd b i ≤ hi := by
  have hi' : i.toNat < b.length := by omega
  have e : rd b i = b[i.toNat] := by unfold rd; simp [List.getD_eq_getElem?_getD, List.getElem?_eq_getElem hi']
  rw [e]
  exact h _ (List.getElem_mem hi')
theorem rd_mem {b : List Int} {i : Int} (h0 : 0 ≤ i) (h1 : i < b.length) : rd b i ∈ b := by
  have hi' : i.toNat < b.length := by omega
  have e : rd b i = b[i.toNat] := by unfold rd; simp [List.getD_eq_getElem?_getD, List.getElem?_eq_getElem hi']
  rw [e]
  exact List.getElem_mem hi'
/-- What the reader holds: bytes, no more than two thousand. -/
def Bytes (b : List Int) : Prop := (∀ x ∈ b, 0 ≤ x ∧ x ≤ 255) ∧ b.length ≤ 2000
theorem pick_ok {k : Nat} (hk : 1 ≤ k) {b : List Int} {p : Int} (n : Int) (hb : Bytes b) (hp : 0 ≤ p) (hp2 : p ≤ 1000000000) :
    ∃ r, spec_reader_pick.f k b p n = some (r, p + 1) ∧ 0 ≤ r ∧ (1 ≤ n → r < n) := by
  obtain ⟨k, rfl⟩ : ∃ m, k = m + 1 := ⟨k - 1, by omega⟩
  obtain ⟨hb, hl⟩ := hb
  unfold spec_reader_pick.f
  rw [w64 (x := p + 1) (by omega) (by omega)]
  by_cases hn : n < 1
  · exact ⟨0, by rw [if_pos hn]; simp only [spec_reader_pick.j0, if_true], by omega, fun h => by omega⟩
  rw [if_neg hn]
  by_cases h0 : (b.length : Int) = 0
  · exact ⟨0, by rw [beq_iff_eq.2 h0]; simp only [spec_reader_pick.j0, if_true], by omega, fun h => by omega⟩
  rw [beq_eq_false_iff_ne.2 h0]
  simp only [spec_reader_pick.j0]
  rw [w64 (x := p + 1 - 1) (by omega) (by omega), show p + 1 - 1 = p by omega, if_neg (by simp)]
  by_cases h1 : p < (b.length : Int)
  · have hr := rd_in hb hp h1
    rw [if_pos h1, if_pos hp, if_neg (by omega), w64 (by omega) (by omega), tm hr.1]
    exact ⟨_, rfl, Int.emod_nonneg _ (by omega), fun _ => Int.emod_lt_of_pos _ (by omega)⟩
  · have hL : 0 < (b.length : Int) := by omega
    have m1 := Int.emod_nonneg p (b := b.length) (by omega)
    have m2 := Int.emod_lt_of_pos p hL
    have m3 := Int.emod_nonneg (p * 7 + 3) (b := b.length) (by omega)
    have m4 := Int.emod_lt_of_pos (p * 7 + 3) hL
    have d1 := Int.ediv_nonneg hp (b := b.length) (by omega)
    have d2 : p / (b.length : Int) ≤ p := Int.ediv_le_self _ hp
    have r1 := rd_in hb m1 m2
    have r2 := rd_in hb m3 m4
    rw [w64 (x := p * 7) (by omega) (by omega), w64 (x := p * 7 + 3) (by omega) (by omega), tm hp, tm (show 0 ≤ p * 7 + 3 by omega), td hp]
    rw [if_neg h1, if_neg h0, if_pos m1, if_pos m2, if_pos m3, if_pos m4, if_neg (by omega)]
    generalize rd b (p % (b.length : Int)) = A at r1 ⊢
    generalize rd b ((p * 7 + 3) % (b.length : Int)) = B at r2 ⊢
    generalize p / (b.length : Int) = q at d1 d2 ⊢
    rw [w64 (x := A) (by omega) (by omega), w64 (x := B) (by omega) (by omega), w64 (x := q) (by omega) (by omega), w64 (x := A * 131) (by omega) (by omega), w64 (x := B * 1117) (by omega) (by omega), w64 (x := p * 29) (by omega) (by omega), w64 (x := q * 53) (by omega) (by omega), w64 (x := A * 131 + B * 1117) (by omega) (by omega), w64 (x := A * 131 + B * 1117 + p * 29) (by omega) (by omega), w64 (x := A * 131 + B * 1117 + p * 29 + q * 53) (by omega) (by omega)]
    rw [td (show 0 ≤ A * 131 + B * 1117 + p * 29 + q * 53 by omega), w64 (x := (A * 131 + B * 1117 + p * 29 + q * 53) / 64) (by omega) (by omega)]
    have hx := xor_ge (A * 131 + B * 1117 + p * 29 + q * 53) ((A * 131 + B * 1117 + p * 29 + q * 53) / 64) (by omega) (by omega) (by omega) (by omega)
    rw [tm hx]
    exact ⟨_, rfl, Int.emod_nonneg _ (by omega), fun _ => Int.emod_lt_of_pos _ (by omega)⟩
theorem newReader_ok {l : List Int} (hb : ∀ x ∈ l, (Lit.int .u8 x).wf = true) : ∃ b, spec_newReader.f l = some (b, 0) ∧ Bytes b := by
  have hb' : ∀ x ∈ l, 0 ≤ x ∧ x ≤ 255 := fun x hx => by
    have := hb x hx
    simp [Lit.wf, IntKind.min, IntKind.max, IntKind.signed, IntKind.bits] at this
    omega
  unfold spec_newReader.f
  by_cases h : (l.length : Int) > 2000
  · exact ⟨l.take 2000, by rw [if_pos h, if_pos (by omega)], fun x hx => hb' x (List.mem_of_mem_take hx), by simp; omega⟩
  · exact ⟨l, by rw [if_neg h], hb', by omega⟩
theorem one_ok {k : Nat} (hk : 1 ≤ k) {b : List Int} {p : Int} (l : List Int) (hb : Bytes b) (hp : 0 ≤ p) (hp2 : p ≤ 1000000000) (hl : 1 ≤ (l.length : Int)) :
    ∃ r, spec_reader_one.f k b p l = some (r, p + 1) ∧ r ∈ l := by
  obtain ⟨r, e, h0, h1⟩ := pick_ok hk (l.length : Int) hb hp hp2
  unfold spec_reader_one.f
  rw [e]
  simp only [Option.bind_some]
  rw [if_pos h0, if_pos (h1 hl)]
  exact ⟨_, rfl, rd_mem h0 (h1 hl)⟩
theorem someDate_ok {k : Nat} (hk : 2 ≤ k) {b : List Int} {p : Int} (hb : Bytes b) (hp : 0 ≤ p) (hp2 : p ≤ 999999000) : ∃ y m d q, spec_someDate.f k b p = some (y, m, d, q) ∧ 0 ≤ q ∧ q ≤ p + 20 := by
  obtain ⟨k, rfl⟩ : ∃ n, k = n + 1 := ⟨k - 1, by omega⟩
  have j0_ok : ∀ (y m d q : Int), 0 ≤ q → q ≤ 999999500 → ∃ y' m' d' q', spec_someDate.j0 (k + 1) b q y m d = some (y', m', d', q') ∧ 0 ≤ q' ∧ q' ≤ q + 8 := by
    intro y m d q h0 h1
    obtain ⟨r1, e1, l1, u1⟩ := pick_ok (k := k) (by omega) (p := q) 16 hb (by omega) (by omega)
    obtain ⟨r2, e2, l2, u2⟩ := pick_ok (k := k) (by omega) (p := q + 1) 120 hb (by omega) (by omega)
    obtain ⟨r3, e3, l3⟩ := one_ok (k := k) (by omega) (p := q + 1 + 1) [1980, 2000, 2024, 2026, 2099, 2100, 1979, wrap64 (1980 + r2)] hb (by omega) (by omega) (by simp)
    obtain ⟨r4, e4, l4⟩ := one_ok (k := k) (by omega) (p := q + 1 + 1 + 1) [0, 13, 2] hb (by omega) (by omega) (by simp)
    obtain ⟨r5, e5, l5⟩ := one_ok (k := k) (by omega) (p := q + 1 + 1 + 1 + 1) [0, 32, 30] hb (by omega) (by omega) (by simp)
    have eY : spec_someYear.f k b (q + 1) = some (r3, q + 1 + 1 + 1) := by
      unfold spec_someYear.f
      rw [e2, Option.bind_some, e3, Option.bind_some]
    by_cases h : r1 = 0
    · refine ⟨r3, r4, r5, q + 1 + 1 + 1 + 1 + 1, ?_, by omega, by omega⟩
      simp only [spec_someDate.j0]
      rw [e1, Option.bind_some, if_pos h, eY, Option.bind_some, e4, Option.bind_some, e5, Option.bind_some]
    · refine ⟨y, m, d, q + 1, ?_, by omega, by omega⟩
      simp only [spec_someDate.j0]
      rw [e1, Option.bind_some, if_neg h]
  obtain ⟨r1, e1, l1, u1⟩ := pick_ok (k := k + 1) (by omega) (p := p) 120 hb (by omega) (by omega)
  obtain ⟨r2, e2, l2, u2⟩ := pick_ok (k := k + 1) (by omega) (p := p + 1) 12 hb (by omega) (by omega)
  obtain ⟨r3, e3, l3, u3⟩ := pick_ok (k := k + 1) (by omega) (p := p + 1 + 1) 28 hb (by omega) (by omega)
  obtain ⟨r4, e4, l4, u4⟩ := pick_ok (k := k + 1) (by omega) (p := p + 1 + 1 + 1) 8 hb (by omega) (by omega)
  obtain ⟨r5, e5, l5⟩ := one_ok (k := k + 1) (by omega) (p := p + 1 + 1 + 1 + 1) [29, 30, 31] hb (by omega) (by omega) (by simp)
  obtain ⟨r6, e6, l6⟩ := one_ok (k := k + 1) (by omega) (p := p + 1 + 1 + 1 + 1) [1, 2, 12] hb (by omega) (by omega) (by simp)
  obtain ⟨r7, e7, l7⟩ := one_ok (k := k + 1) (by omega) (p := p + 1 + 1 + 1 + 1 + 1) [1, 29, 31] hb (by omega) (by omega) (by simp)
  unfold spec_someDate.f
  rw [e1, Option.bind_some, e2, Option.bind_some, e3, Option.bind_some, e4, Option.bind_some]
  by_cases h0 : r4 = 0
  · rw [if_pos h0, e5, Option.bind_some]
    obtain ⟨y, m, d, q, e, a, b⟩ := j0_ok (wrap64 (1980 + r1)) (wrap64 (1 + r2)) r5 (p + 1 + 1 + 1 + 1 + 1) (by omega) (by omega)
    exact ⟨y, m, d, q, e, a, by omega⟩
  · rw [if_neg h0]
    by_cases h1 : r4 = 1
    · rw [if_pos h1, e6, Option.bind_some, e7, Option.bind_some]
      obtain ⟨y, m, d, q, e, a, b⟩ := j0_ok (wrap64 (1980 + r1)) r6 r7 (p + 1 + 1 + 1 + 1 + 1 + 1) (by omega) (by omega)
      exact ⟨y, m, d, q, e, a, by omega⟩
    · rw [if_neg h1]
      obtain ⟨y, m, d, q, e, a, b⟩ := j0_ok (wrap64 (1980 + r1)) (wrap64 (1 + r2)) (wrap64 (1 + r3)) (p + 1 + 1 + 1 + 1) (by omega) (by omega)
      exact ⟨y, m, d, q, e, a, by omega⟩
theorem anyFix_ok {k : Nat} (hk : 2 ≤ k) {b : List Int} {p : Int} (hb : Bytes b) (hp : 0 ≤ p) (hp2 : p ≤ 999998000) : ∃ y m d s n q, spec_anyFix.f k b p = some (y, m, d, s, n, q) ∧ 0 ≤ q ∧ q ≤ p + 30 := by
  obtain ⟨y, m, d, q, e, h1, h2⟩ := someDate_ok hk hb hp (by omega)
  obtain ⟨r1, e1, l1, u1⟩ := pick_ok (k := k) (by omega) (p := q) 250 hb (by omega) (by omega)
  obtain ⟨r2, e2, l2⟩ := one_ok (k := k) (by omega) (p := q + 1) [0, 86399, 86400, 86401, -1, wrap64 (345 * r1), 43200] hb (by omega) (by omega) (by simp)
  obtain ⟨r3, e3, l3⟩ := one_ok (k := k) (by omega) (p := q + 1 + 1) [0, 4, 12, 32, 33, 7] hb (by omega) (by omega) (by simp)
  refine ⟨y, m, d, r2, r3, q + 1 + 1 + 1, ?_, by omega, by omega⟩
  unfold spec_anyFix.f
  rw [e, Option.bind_some, e1, Option.bind_some, e2, Option.bind_some, e3, Option.bind_some]
/-- The text of a sentence. -/
def midL (s : List UInt8) : List UInt8 := (s.drop 1).take (s.length - 4)
def readF (s : List UInt8) : ByteArray × Bool := if 4 ≤ s.length ∧ okBody (midL s) = true ∧ s = frame (midL s) then (B (midL s), true) else (B [], false)
theorem mid_frame {l : List UInt8} (h : okBody l = true) : midL (frame l) = l := by
  have hf := frame_len h
  unfold midL
  rw [hf, show l.length + 4 - 4 = l.length by omega]
  unfold frame
  simp
theorem readF_frame {l : List UInt8} (h : okBody l = true) : readF (frame l) = (B l, true) := by
  have hf := frame_len h
  unfold readF
  rw [mid_frame h, if_pos ⟨by omega, h, rfl⟩]
theorem readFrame_i {k : Nat} {s : List UInt8} (hl : s.length ≤ 1000000000000) (hk : s.length < k) : impl_ReadFrame.f k (B s) = some (readF s) := by
  unfold impl_ReadFrame.f readF
  rw [B_size]
  by_cases h4 : (s.length : Int) < 4
  · rw [if_pos h4, if_neg (by omega)]
    rfl
  have e : (B s).extract 1 ((s.length : Int) - 3).toNat = B (midL s) := by
    rw [B_ext]
    unfold midL
    rw [show ((s.length : Int) - 3).toNat - 1 = s.length - 4 by omega]
  have hm : (midL s).length < k := by unfold midL; rw [List.length_take, List.length_drop]; omega
  rw [if_neg h4, w64 (x := (s.length : Int) - 3) (by omega) (by omega), if_pos (by omega), if_pos (by omega), e, frameBody_i _ hm, Option.bind_some, B_list, B_list]
  by_cases hb : okBody (midL s) = true
  · rw [if_pos hb]
    by_cases hs : s = frame (midL s)
    · rw [if_pos hs, if_pos ⟨by omega, hb, hs⟩]
    · rw [if_neg hs, if_neg (fun h => hs h.2.2)]
      rfl
  · rw [if_neg hb, if_neg (show ¬ s = [] from fun e => by rw [e] at h4; simp at h4), if_neg (fun h => hb h.2.1)]
    rfl
/-- The words between commas. -/
def spl (l : List UInt8) : List (List UInt8) := Lib.split l [44]
def free (l : List UInt8) : Prop := ∀ x ∈ l, x ≠ 44
theorem index_free {a : List UInt8} (h : free a) : Lib.index a [44] = -1 := by
  induction a with
  | nil => rfl
  | cons x xs ih =>
    have hx := h x (by simp)
    rw [Lib.index, ih (fun y hy => h y (by simp [hy])), if_neg (by simp [List.isPrefixOf]; exact fun e => hx e.symm)]
    rfl
theorem index_at {a : List UInt8} (h : free a) (r : List UInt8) : Lib.index (a ++ 44 :: r) [44] = (a.length : Int) := by
  induction a with
  | nil => simp [Lib.index, List.isPrefixOf]
  | cons x xs ih =>
    have hx := h x (by simp)
    rw [List.cons_append, Lib.index, ih (fun y hy => h y (by simp [hy])), if_neg (by simp [List.isPrefixOf]; exact fun e => hx e.symm), if_neg (by simp)]
    simp
theorem spl_free {a : List UInt8} (h : free a) : spl a = [a] := by
  unfold spl Lib.split
  rw [Lib.count_miss (index_free h)]
  rfl
theorem spl_at {a : List UInt8} (h : free a) (r : List UInt8) : spl (a ++ 44 :: r) = a :: spl r := by
  have hi := index_at h r
  unfold spl Lib.split
  rw [Lib.count_hit (by simp) hi]
  have e : (a ++ 44 :: r).drop (a.length + 1) = r := by simp
  simp only [List.length_singleton]
  rw [e, Nat.add_comm, Lib.splitK, hi, if_neg (by simp)]
  simp only [Int.toNat_natCast, List.length_singleton]
  rw [e]
  simp
theorem free_or (l : List UInt8) : free l ∨ ∃ a r, free a ∧ l = a ++ 44 :: r := by
  induction l with
  | nil => left; intro x hx; simp at hx
  | cons c l ih =>
    by_cases hc : c = 44
    · right; exact ⟨[], l, by intro x hx; simp at hx, by rw [hc]; rfl⟩
    · rcases ih with h | ⟨a, r, h, e⟩
      · left
        intro x hx
        rcases List.mem_cons.1 hx with rfl | hx
        · exact hc
        · exact h x hx
      · right
        refine ⟨c :: a, r, ?_, by rw [e]; rfl⟩
        intro x hx
        rcases List.mem_cons.1 hx with rfl | hx
        · exact hc
        · exact h x hx
theorem spl_len : ∀ (n : Nat) (l : List UInt8), l.length ≤ n → ∀ x ∈ spl l, x.length ≤ l.length := by
  intro n
  induction n with
  | zero =>
    intro l hl x hx
    have : l = [] := List.eq_nil_of_length_eq_zero (by omega)
    subst this
    rw [spl_free (by intro x hx; simp at hx)] at hx
    simp at hx
    subst hx
    simp
  | succ n ih =>
    intro l hl x hx
    rcases free_or l with h | ⟨a, r, h, e⟩
    · rw [spl_free h] at hx
      simp at hx
      subst hx
      omega
    · rw [e, spl_at h] at hx
      rw [e] at hl ⊢
      simp only [List.length_append, List.length_cons] at hl ⊢
      rcases List.mem_cons.1 hx with rfl | hx
      · omega
      · have := ih r (by omega) x hx
        omega
/-- A digit's byte. -/
def isD (c : UInt8) : Bool := decide (48 ≤ c.toNat ∧ c.toNat ≤ 57)
theorem isD_dg {n : Nat} (h : n < 10) : isD (dg n) = true := by unfold isD; rw [dg_toNat h]; exact decide_eq_true (by omega)
theorem free_d {l : List UInt8} (h : l.all isD = true) : free l := by
  intro x hx e
  have := List.all_eq_true.1 h x hx
  rw [e] at this
  exact absurd this (by decide)
/-- The number that digits spell. -/
def valL (a : Nat) (l : List UInt8) : Nat := l.foldl (fun a c => 10 * a + (c.toNat - 48)) a
theorem spl_body {y m d s n : Int} (h : okFix y m d s n) : spl (bodyL y m d s n) = [[70, 73, 88], clockL s.toNat, two d.toNat, two m.toNat, Lib.decDigits y.toNat, Lib.decDigits n.toNat] := by
  obtain ⟨⟨hy, hm, hd1, hd2⟩, hs, hn⟩ := id h
  have := mdays31 y m
  have e : bodyL y m d s n = [70, 73, 88] ++ 44 :: (clockL s.toNat ++ 44 :: (two d.toNat ++ 44 :: (two m.toNat ++ 44 :: (Lib.decDigits y.toNat ++ 44 :: Lib.decDigits n.toNat)))) := by
    unfold bodyL
    simp
  rw [e, spl_at (by intro x hx; simp at hx; rcases hx with rfl | rfl | rfl <;> decide), spl_at (free_d (clock_all isD (fun _ => isD_dg) (by omega))), spl_at (free_d (two_all isD (fun _ => isD_dg) (by omega))), spl_at (free_d (two_all isD (fun _ => isD_dg) (by omega))), spl_at (free_d (dd_all isD (fun _ => isD_dg) _)), spl_free (free_d (dd_all isD (fun _ => isD_dg) _))]
theorem val_two {n : Nat} (h : n < 100) : valL 0 (two n) = n := by
  unfold valL two
  simp only [List.foldl_cons, List.foldl_nil]
  rw [dg_toNat (by omega), dg_toNat (by omega)]
  omega
theorem val_year {n : Nat} (h0 : 1000 ≤ n) (h : n < 10000) : valL 0 (Lib.decDigits n) = n := by
  rw [dd4 h0 h]
  unfold valL
  simp only [List.foldl_cons, List.foldl_nil]
  rw [dg_toNat (by omega), dg_toNat (by omega), dg_toNat (by omega), dg_toNat (by omega)]
  omega
theorem val_seen {n : Nat} (h : n < 100) : valL 0 (Lib.decDigits n) = n := by
  by_cases h1 : n < 10
  · rw [dd1 h1]
    unfold valL
    simp only [List.foldl_cons, List.foldl_nil]
    rw [dg_toNat h1]
    omega
  · rw [dd2 (by omega) h]
    exact val_two h
theorem val_clock {s : Nat} (h : s < 86400) : valL 0 (clockL s) = s / 3600 * 10000 + s / 60 % 60 * 100 + s % 60 := by
  unfold clockL
  rw [if_pos h]
  unfold valL two
  simp only [List.cons_append, List.nil_append, List.foldl_cons, List.foldl_nil]
  rw [dg_toNat (by omega), dg_toNat (by omega), dg_toNat (by omega), dg_toNat (by omega), dg_toNat (by omega), dg_toNat (by omega)]
  omega
theorem words_B (l : List UInt8) : wordsOf (B l) (⟨#[44]⟩ : ByteArray) = (spl l).map B := by
  have h := Lib.splitB_data (⟨#[44]⟩ : ByteArray) 0 (Lib.countB (B l) (⟨#[44]⟩ : ByteArray)) (B l)
  have e : (B l).data.toList = l := by simp [B]
  have e2 : (⟨#[44]⟩ : ByteArray).data.toList = [44] := rfl
  have hs : (wordsOf (B l) (⟨#[44]⟩ : ByteArray)).map (·.data.toList) = spl l := by
    unfold wordsOf spl Lib.split
    rw [h, e, e2]
    show Lib.splitK [44] 0 (Lib.count (B l).data.toList (⟨#[44]⟩ : ByteArray).data.toList) l = _
    rw [e, e2]
  rw [← hs, List.map_map]
  conv => lhs; rw [← List.map_id (wordsOf (B l) (⟨#[44]⟩ : ByteArray))]
  exact List.map_congr_left (fun x _ => B_of x)
theorem puint : ∀ (l : List UInt8) (a : Nat), l.all isD = true → (a + 1) * 10 ^ l.length ≤ 1000000000000 → Lib.parseUint10 a l = .ok (valL a l) := by
  intro l
  induction l with
  | nil => intro a _ _; rfl
  | cons c r ih =>
    intro a hd hb
    rw [List.all_cons, Bool.and_eq_true] at hd
    have hc : 48 ≤ c.toNat ∧ c.toNat ≤ 57 := by simpa [isD] using hd.1
    rw [List.length_cons, Nat.pow_succ] at hb
    have hp : 0 < 10 ^ r.length := Nat.pow_pos (by omega)
    have h1 : (a * 10 + (c.toNat - 48) + 1) * 10 ^ r.length ≤ 1000000000000 := by
      have := Nat.mul_le_mul_right (10 ^ r.length) (show a * 10 + (c.toNat - 48) + 1 ≤ (a + 1) * 10 by omega)
      rw [Nat.mul_comm (10 ^ r.length) 10, ← Nat.mul_assoc] at hb
      omega
    have h2 : a * 10 + (c.toNat - 48) + 1 ≤ (a * 10 + (c.toNat - 48) + 1) * 10 ^ r.length := Nat.le_mul_of_pos_right _ hp
    unfold Lib.parseUint10
    rw [if_pos hc, if_neg (by omega), if_neg (by omega), ih _ hd.2 h1]
    unfold valL
    rw [List.foldl_cons, Nat.mul_comm a 10]
theorem atoi_d {l : List UInt8} (h : l.all isD = true) (h1 : l ≠ []) (h2 : l.length ≤ 10) : atoiN (B l) = some ((valL 0 l : Nat) : Int) := by
  obtain ⟨c, r, rfl⟩ : ∃ c r, l = c :: r := List.exists_cons_of_ne_nil h1
  have hv := Lib.parseUint10_lt (c :: r) 0 (valL 0 (c :: r)) (by omega)
  have hp := puint (c :: r) 0 h (by
    have := Nat.pow_le_pow_right (n := 10) (by omega) h2
    omega)
  rw [List.all_cons, Bool.and_eq_true] at h
  have hc : 48 ≤ c.toNat ∧ c.toNat ≤ 57 := by simpa [isD] using h.1
  have hlt : valL 0 (c :: r) < 10 ^ (c :: r).length := by
    have : ∀ (l : List UInt8) (a : Nat), l.all isD = true → valL a l < (a + 1) * 10 ^ l.length := by
      intro l
      induction l with
      | nil => intro a _; unfold valL; simp
      | cons c r ih =>
        intro a hd
        rw [List.all_cons, Bool.and_eq_true] at hd
        have hc : 48 ≤ c.toNat ∧ c.toNat ≤ 57 := by simpa [isD] using hd.1
        have h := ih (10 * a + (c.toNat - 48)) hd.2
        have := Nat.mul_le_mul_right (10 ^ r.length) (show 10 * a + (c.toNat - 48) + 1 ≤ (a + 1) * 10 by omega)
        rw [List.length_cons, Nat.pow_succ, Nat.mul_comm (10 ^ r.length) 10, ← Nat.mul_assoc]
        have e : valL a (c :: r) = valL (10 * a + (c.toNat - 48)) r := rfl
        omega
    have := this (c :: r) 0 (by rw [List.all_cons, Bool.and_eq_true]; exact h)
    omega
  have hle := Nat.pow_le_pow_right (n := 10) (by omega) h2
  have e : (B (c :: r)).data.toList = c :: r := by simp [B]
  unfold atoiN Lib.atoiAll
  rw [e]
  simp only []
  rw [if_neg (by omega)]
  unfold Lib.parseMag
  rw [if_neg (by simp), hp]
  simp only []
  rw [if_neg (by omega), if_neg (by omega), if_neg (by omega)]
theorem sec_i {s : Int} (h : 0 ≤ s ∧ s ≤ 86400) : secOf ((valL 0 (clockL s.toNat) : Nat) : Int) = s := by
  by_cases hs : s < 86400
  · rw [val_clock (by omega)]
    unfold secOf
    have e : ((s.toNat / 3600 * 10000 + s.toNat / 60 % 60 * 100 + s.toNat % 60 : Nat) : Int) = s / 3600 * 10000 + s / 60 % 60 * 100 + s % 60 := by omega
    rw [e]
    have h0 : 0 ≤ s / 3600 * 10000 + s / 60 % 60 * 100 + s % 60 := by omega
    rw [td h0, td h0, tm h0, w64 (x := (s / 3600 * 10000 + s / 60 % 60 * 100 + s % 60) / 10000) (by omega) (by omega), w64 (x := (s / 3600 * 10000 + s / 60 % 60 * 100 + s % 60) / 100) (by omega) (by omega), tm (by omega)]
    have e1 : (s / 3600 * 10000 + s / 60 % 60 * 100 + s % 60) / 10000 = s / 3600 := by omega
    have e2 : (s / 3600 * 10000 + s / 60 % 60 * 100 + s % 60) / 100 % 100 = s / 60 % 60 := by omega
    have e3 : (s / 3600 * 10000 + s / 60 % 60 * 100 + s % 60) % 100 = s % 60 := by omega
    rw [e1, e2, e3, w64 (x := s / 3600 * 3600) (by omega) (by omega), w64 (x := s / 60 % 60 * 60) (by omega) (by omega), w64 (x := s / 3600 * 3600 + s / 60 % 60 * 60) (by omega) (by omega), w64 (by omega) (by omega)]
    omega
  · obtain rfl : s = 86400 := by omega
    have e : valL 0 (clockL (86400 : Int).toNat) = 235960 := rfl
    rw [e]
    unfold secOf
    rw [show Int.tdiv ((235960 : Nat) : Int) 10000 = 23 from rfl, show Int.tdiv ((235960 : Nat) : Int) 100 = 2359 from rfl, w64 (x := 23) (by omega) (by omega), w64 (x := 2359) (by omega) (by omega), show Int.tmod 2359 100 = 59 from rfl, show Int.tmod ((235960 : Nat) : Int) 100 = 60 from rfl, w64 (x := 23 * 3600) (by omega) (by omega), w64 (x := 59 * 60) (by omega) (by omega), w64 (x := 23 * 3600 + 59 * 60) (by omega) (by omega), w64 (by omega) (by omega)]
    rfl
theorem guard_i (l : List UInt8) (h : l.length ≤ 40) : (B l).size < 4294967281 ∧ ∀ x ∈ wordsOf (B l) (⟨#[44]⟩ : ByteArray), x.size ≤ 281474976710656 := by
  rw [B_size, words_B]
  refine ⟨by omega, fun x hx => ?_⟩
  obtain ⟨y, hy, rfl⟩ := List.mem_map.1 hx
  have := spl_len l.length l (Nat.le_refl _) y hy
  rw [B_size]
  omega
theorem parse_frame {k : Nat} (hk : 2001 ≤ k) {y m d s n : Int} (h : okFix y m d s n) : impl_ParseFix.f k (B (frame (bodyL y m d s n))) = some (y, m, d, s, n, true) := by
  obtain ⟨hok, hl1, hl2⟩ := body_ok h
  have hf := frame_len hok
  obtain ⟨⟨hy, hm, hd1, hd2⟩, hs, hn⟩ := id h
  have := mdays31 y m
  have hsl := seen_len (n := n.toNat) (by omega)
  have hne : ∀ {l : List UInt8}, 1 ≤ l.length → l ≠ [] := fun hl e => by rw [e] at hl; simp at hl
  have hyl := year_len (y := y.toNat) (by omega) (by omega)
  unfold impl_ParseFix.f
  rw [readFrame_i (by omega) (by omega), readF_frame hok, Option.bind_some]
  simp only []
  rw [if_pos (guard_i _ (by omega)), if_pos trivial, words_B, spl_body h]
  simp only [List.map_cons, List.map_nil, impl_ParseFix.w]
  rw [atoi_d (l := clockL s.toNat) (clock_all isD (fun _ => isD_dg) (by omega)) (hne (by rw [clock_len]; omega)) (by rw [clock_len]; omega),
    atoi_d (l := two d.toNat) (two_all isD (fun _ => isD_dg) (by omega)) (hne (by rw [two_len]; omega)) (by rw [two_len]; omega),
    atoi_d (l := two m.toNat) (two_all isD (fun _ => isD_dg) (by omega)) (hne (by rw [two_len]; omega)) (by rw [two_len]; omega),
    atoi_d (l := Lib.decDigits y.toNat) (dd_all isD (fun _ => isD_dg) _) (hne (by omega)) (by omega),
    atoi_d (l := Lib.decDigits n.toNat) (dd_all isD (fun _ => isD_dg) _) (hne (by omega)) (by omega)]
  simp only [impl_ParseFix.g]
  rw [sec_i hs, val_two (by omega), val_two (by omega), val_year (by omega) (by omega), val_seen (by omega), show ((d.toNat : Nat) : Int) = d by omega, show ((m.toNat : Nat) : Int) = m by omega, show ((y.toNat : Nat) : Int) = y by omega, show ((n.toNat : Nat) : Int) = n by omega, format_i (by omega), if_pos h, Option.bind_some, if_pos rfl]
theorem parse_no {k : Nat} (hk : 2001 ≤ k) {t : List UInt8} (hl : t.length ≤ 1000000000000) (hk2 : t.length < k) (h : ¬ ∃ y m d s n, okFix y m d s n ∧ t = frame (bodyL y m d s n)) : impl_ParseFix.f k (B t) = some (0, 0, 0, 0, 0, false) := by
  unfold impl_ParseFix.f
  rw [readFrame_i hl hk2, Option.bind_some]
  unfold readF
  by_cases hc : 4 ≤ t.length ∧ okBody (midL t) = true ∧ t = frame (midL t)
  rotate_left
  · rw [if_neg hc]
    simp only []
    rw [if_pos (guard_i [] (by simp)), if_neg (by simp)]
    rfl
  have hm : (midL t).length ≤ 40 := by
    have := hc.2.1
    unfold okBody at this
    rw [Bool.and_eq_true, decide_eq_true_eq] at this
    exact this.2.2
  have hg : ∀ n0 n1 n2 n3 n4, impl_ParseFix.g k (B t) n0 n1 n2 n3 n4 = impl_ParseFix.z := by
    intro n0 n1 n2 n3 n4
    unfold impl_ParseFix.g
    rw [format_i hk, Option.bind_some, B_list, B_list]
    by_cases ho : okFix n3 n2 n1 (secOf n0) n4
    · rw [if_pos ho, if_neg (fun e => h ⟨_, _, _, _, _, ho, e.symm⟩)]
    · rw [if_neg ho, if_neg (fun e => by have := hc.1; rw [← e] at this; simp at this)]
  rw [if_pos hc]
  simp only []
  rw [if_pos (guard_i _ hm), if_pos trivial]
  unfold impl_ParseFix.w
  split
  · split
    · rw [hg]; rfl
    · rfl
  · rfl
theorem readFrame_s {k : Nat} {s : List UInt8} (hl : s.length ≤ 1000000000000) (hk : s.length < k) : spec_ReadFrame.f k (B s) = some (readF s) := by
  unfold spec_ReadFrame.f readF
  rw [B_size]
  by_cases h4 : (s.length : Int) < 5
  · rw [if_pos h4, if_neg (fun h => by
      have := h.2.1
      unfold okBody at this
      rw [Bool.and_eq_true, decide_eq_true_eq] at this
      have h1 := this.2.1
      unfold midL at h1
      rw [List.length_take, List.length_drop] at h1
      omega)]
    rfl
  have e : (B s).extract 1 ((s.length : Int) - 3).toNat = B (midL s) := by
    rw [B_ext]
    unfold midL
    rw [show ((s.length : Int) - 3).toNat - 1 = s.length - 4 by omega]
  have hm : (midL s).length ≤ s.length := by unfold midL; rw [List.length_take, List.length_drop]; omega
  rw [if_neg h4, w64 (x := (s.length : Int) - 3) (by omega) (by omega), if_pos (by omega), if_pos (by omega), e, isBody_s _ (by omega) (by omega), Option.bind_some]
  by_cases hb : okBody (midL s) = true
  · rw [if_pos hb, frameBody_s _ (by omega) (by omega), Option.bind_some, if_pos hb, B_list, B_list]
    by_cases hs : s = frame (midL s)
    · rw [if_pos hs.symm, if_pos ⟨by omega, hb, hs⟩]
    · rw [if_neg (fun e => hs e.symm), if_neg (fun h => hs h.2.2)]
      rfl
  · rw [if_neg hb, if_neg (fun h => hb h.2.1)]
    rfl
theorem splitAt_l : ∀ (r p a : List UInt8) (acc : List ByteArray) (k : Nat), free a → p.length + a.length + r.length ≤ 1000 → acc.length + r.length ≤ 1000 → r.length < k → spec_splitAt.l0 k (B (p ++ a ++ r)) 44 acc (p.length : Int) ((p.length : Int) + a.length) = some (acc ++ (spl (a ++ r)).map B) := by
  intro r
  induction r with
  | nil =>
    intro p a acc k ha hl hacc hk
    obtain ⟨k, rfl⟩ : ∃ m, k = m + 1 := ⟨k - 1, by omega⟩
    simp only [List.length_nil] at hl hacc
    simp only [spec_splitAt.l0]
    rw [List.append_nil, List.append_nil, B_size, List.length_append, if_neg (by omega), if_pos (by omega), if_pos (by omega), if_pos (by omega), spl_free ha, B_ext, Int.toNat_natCast]
    congr 3
    simp
  | cons c r ih =>
    intro p a acc k ha hl hacc hk
    obtain ⟨k, rfl⟩ : ∃ m, k = m + 1 := ⟨k - 1, by omega⟩
    simp only [List.length_cons] at hl hacc hk
    have hb : bt (B (p ++ a ++ c :: r)) ((p.length : Int) + a.length) = (c.toNat : Int) := by
      have := bt_B (p ++ a ++ c :: r) (p.length + a.length) (by simp)
      rw [show ((p.length + a.length : Nat) : Int) = (p.length : Int) + a.length by omega] at this
      rw [this]
      simp
    simp only [spec_splitAt.l0]
    rw [hb, B_size, List.length_append, List.length_append, List.length_cons, if_pos (by omega), if_pos (by omega)]
    have hc8 : c.toNat < 256 := UInt8.toNat_lt _
    by_cases hc : c = 44
    · subst hc
      rw [if_pos (by decide), if_pos (by omega), if_pos (by omega), if_pos (by omega), if_pos (by omega), w64 (x := (p.length : Int) + a.length + 1) (by omega) (by omega), B_ext]
      have e := ih (p ++ a ++ [44]) [] (acc ++ [B a]) k (by intro x hx; simp at hx) (by simp; omega) (by simp; omega) (by omega)
      simp only [List.append_nil, List.nil_append, List.length_append, List.length_singleton, List.length_nil, List.append_assoc, List.cons_append] at e
      rw [show (((p.length + (a.length + 1) : Nat) : Int)) = (p.length : Int) + a.length + 1 by omega, show ((p.length : Int) + a.length + 1 + ((0 : Nat) : Int)) = (p.length : Int) + a.length + 1 by omega] at e
      have e2 : List.take (((p.length : Int) + a.length).toNat - (p.length : Int).toNat) (List.drop (p.length : Int).toNat (p ++ a ++ 44 :: r)) = a := by
        rw [show ((p.length : Int) + a.length).toNat - (p.length : Int).toNat = a.length by omega, Int.toNat_natCast]
        simp
      rw [e2, spl_at ha, List.append_assoc, e]
      simp
    · have hn : ¬ (c.toNat : Int) = 44 := fun e => hc (UInt8.toNat_inj.1 (by rw [show (44 : UInt8).toNat = 44 from rfl]; omega))
      have e := ih p (a ++ [c]) acc k (by
        intro x hx
        rcases List.mem_append.1 hx with hx | hx
        · exact ha x hx
        · simp at hx; subst hx; exact hc) (by simp; omega) (by omega) (by omega)
      simp only [List.nil_append, List.length_append, List.length_singleton, List.append_assoc, List.cons_append] at e
      rw [show ((p.length : Int) + ((a.length + 1 : Nat) : Int)) = (p.length : Int) + a.length + 1 by omega] at e
      rw [if_neg hn, w64 (x := (p.length : Int) + a.length + 1) (by omega) (by omega), List.append_assoc, e]
theorem splitAt_s {k : Nat} (hk : 50 ≤ k) {l : List UInt8} (hl : l.length ≤ 40) : spec_splitAt.f k (B l) 44 = some ((spl l).map B) := by
  have := splitAt_l l [] [] [] k (by intro x hx; simp at hx) (by simp; omega) (by simp; omega) (by omega)
  exact this
theorem rd_total {k : Nat} (l : List UInt8) (hl : l.length ≤ 1000000) (hk : l.length + 2 ≤ k) (m : Int) : ∃ v, spec_readDigits.f k (B l) m = some v := by
  obtain ⟨k, rfl⟩ : ∃ m, k = m + 2 := ⟨k - 2, by omega⟩
  have main : ∀ (n i k : Nat) (a : Int), i + n = l.length → n < k → ∃ v, spec_readDigits.l0 k (B l) a (i : Int) = some v := fun n => by
    induction n with
    | zero =>
      intro i k a h hk
      obtain ⟨k, rfl⟩ : ∃ m, k = m + 1 := ⟨k - 1, by omega⟩
      simp only [spec_readDigits.l0]
      rw [B_size, if_neg (by omega)]
      exact ⟨_, rfl⟩
    | succ n ih =>
      intro i k a h hk
      obtain ⟨k, rfl⟩ : ∃ m, k = m + 1 := ⟨k - 1, by omega⟩
      simp only [spec_readDigits.l0]
      rw [B_size, if_pos (by omega), if_pos (by omega), inRange_eq, Option.bind_some]
      split
      · obtain ⟨v, hv⟩ := ih (i + 1) k (wrap64 ((wrap64 ((wrap64 (10 * a)) + (wrap64 (bt (B l) i)))) - 48)) (by omega) (by omega)
        exact ⟨v, by rw [← hv, w64 (x := (i : Int) + 1) (by omega) (by omega)]; rfl⟩
      · exact ⟨_, rfl⟩
  unfold spec_readDigits.f
  rw [B_size]
  split
  · simp only [spec_readDigits.j0]
    exact ⟨_, rfl⟩
  · simp only [spec_readDigits.j0]
    split
    · exact ⟨_, rfl⟩
    · exact main l.length 0 (k + 1) 0 (by omega) (by omega)
theorem rd_val {k : Nat} (l : List UInt8) (m : Int) (h1 : l ≠ []) (hm : (l.length : Int) ≤ m) (hl : l.length ≤ 10) (hd : l.all isD = true) (hk : l.length + 2 ≤ k) : spec_readDigits.f k (B l) m = some ((valL 0 l : Nat) : Int) := by
  obtain ⟨k, rfl⟩ : ∃ m, k = m + 2 := ⟨k - 2, by omega⟩
  have main : ∀ (n i k a : Nat), i + n = l.length → n < k → (a + 1) * 10 ^ (l.drop i).length ≤ 1000000000000 → spec_readDigits.l0 k (B l) (a : Int) (i : Int) = some ((valL a (l.drop i) : Nat) : Int) := fun n => by
    induction n with
    | zero =>
      intro i k a h hk _
      obtain ⟨k, rfl⟩ : ∃ m, k = m + 1 := ⟨k - 1, by omega⟩
      simp only [spec_readDigits.l0]
      rw [B_size, if_neg (by omega), List.drop_eq_nil_of_le (by omega)]
      rfl
    | succ n ih =>
      intro i k a h hk hb
      obtain ⟨k, rfl⟩ : ∃ m, k = m + 1 := ⟨k - 1, by omega⟩
      have hc : 48 ≤ (l[i]'(by omega)).toNat ∧ (l[i]'(by omega)).toNat ≤ 57 := by simpa [isD] using List.all_eq_true.1 hd (l[i]'(by omega)) (List.getElem_mem _)
      rw [drop_cons (l := l) (i := i) (by omega), List.length_cons, Nat.pow_succ] at hb
      have hp : 0 < 10 ^ (l.drop (i + 1)).length := Nat.pow_pos (by omega)
      have h1 : (10 * a + ((l[i]'(by omega)).toNat - 48) + 1) * 10 ^ (l.drop (i + 1)).length ≤ 1000000000000 := by
        have := Nat.mul_le_mul_right (10 ^ (l.drop (i + 1)).length) (show 10 * a + ((l[i]'(by omega)).toNat - 48) + 1 ≤ (a + 1) * 10 by omega)
        rw [Nat.mul_comm (10 ^ (l.drop (i + 1)).length) 10, ← Nat.mul_assoc] at hb
        omega
      have h2 : 10 * a + ((l[i]'(by omega)).toNat - 48) + 1 ≤ (10 * a + ((l[i]'(by omega)).toNat - 48) + 1) * 10 ^ (l.drop (i + 1)).length := Nat.le_mul_of_pos_right _ hp
      simp only [spec_readDigits.l0]
      rw [B_size, if_pos (by omega), if_pos (by omega), inRange_eq, Option.bind_some, bt_B l i (by omega), w64 (x := ((l[i]'(by omega)).toNat : Int)) (by omega) (by omega), if_pos (decide_eq_true (by omega)), w64 (x := 10 * (a : Int)) (by omega) (by omega), w64 (x := 10 * (a : Int) + ((l[i]'(by omega)).toNat : Int)) (by omega) (by omega), w64 (x := 10 * (a : Int) + ((l[i]'(by omega)).toNat : Int) - 48) (by omega) (by omega), w64 (x := (i : Int) + 1) (by omega) (by omega)]
      have e := ih (i + 1) k (10 * a + ((l[i]'(by omega)).toNat - 48)) (by omega) (by omega) h1
      rw [show (((10 * a + ((l[i]'(by omega)).toNat - 48) : Nat)) : Int) = 10 * (a : Int) + ((l[i]'(by omega)).toNat : Int) - 48 by omega, show ((i + 1 : Nat) : Int) = (i : Int) + 1 by omega] at e
      rw [e, drop_cons (l := l) (i := i) (by omega)]
      rfl
  unfold spec_readDigits.f
  have hne : ¬ (l.length : Int) = 0 := fun e => h1 (List.eq_nil_of_length_eq_zero (by omega))
  rw [B_size, if_neg hne]
  simp only [spec_readDigits.j0]
  rw [if_neg (by simp; omega)]
  have := main l.length 0 (k + 1) 0 (by omega) (by omega) (by
    rw [List.drop_zero]
    have := Nat.pow_le_pow_right (n := 10) (by omega) hl
    omega)
  rw [List.drop_zero] at this
  exact this
theorem readFix_yes {k : Nat} (hk : 2001 ≤ k) {y m d s n : Int} (h : okFix y m d s n) : spec_readFix.f k (B (bodyL y m d s n)) = some (y, m, d, s, n, true) := by
  obtain ⟨k, rfl⟩ : ∃ m, k = m + 1 := ⟨k - 1, by omega⟩
  obtain ⟨hok, hl1, hl2⟩ := body_ok h
  obtain ⟨⟨hy, hm, hd1, hd2⟩, hs, hn⟩ := id h
  have := mdays31 y m
  have hsl := seen_len (n := n.toNat) (by omega)
  have hne : ∀ {l : List UInt8}, 1 ≤ l.length → l ≠ [] := fun hl e => by rw [e] at hl; simp at hl
  have hyl := year_len (y := y.toNat) (by omega) (by omega)
  obtain ⟨a, b, c, ha, hb, hc, e, hv⟩ : ∃ a b c : Nat, a < 100 ∧ b < 100 ∧ c < 100 ∧ clockL s.toNat = two a ++ two b ++ two c ∧ 3600 * a + 60 * b + c = s.toNat := by
    by_cases hs2 : s < 86400
    · exact ⟨s.toNat / 3600, s.toNat / 60 % 60, s.toNat % 60, by omega, by omega, by omega, by unfold clockL; rw [if_pos (by omega)], by omega⟩
    · obtain rfl : s = 86400 := by omega
      exact ⟨23, 59, 60, by omega, by omega, by omega, rfl, rfl⟩
  unfold spec_readFix.f
  rw [splitAt_s (by omega) (by omega), Option.bind_some, spl_body h]
  have r0 : rdOf ByteArray.empty ([[70, 73, 88], clockL s.toNat, two d.toNat, two m.toNat, Lib.decDigits y.toNat, Lib.decDigits n.toNat].map B) 0 = B [70, 73, 88] := rfl
  have r1 : rdOf ByteArray.empty ([[70, 73, 88], clockL s.toNat, two d.toNat, two m.toNat, Lib.decDigits y.toNat, Lib.decDigits n.toNat].map B) 1 = B (two a ++ two b ++ two c) := by rw [← e]; rfl
  have r2 : rdOf ByteArray.empty ([[70, 73, 88], clockL s.toNat, two d.toNat, two m.toNat, Lib.decDigits y.toNat, Lib.decDigits n.toNat].map B) 2 = B (two d.toNat) := rfl
  have r3 : rdOf ByteArray.empty ([[70, 73, 88], clockL s.toNat, two d.toNat, two m.toNat, Lib.decDigits y.toNat, Lib.decDigits n.toNat].map B) 3 = B (two m.toNat) := rfl
  have r4 : rdOf ByteArray.empty ([[70, 73, 88], clockL s.toNat, two d.toNat, two m.toNat, Lib.decDigits y.toNat, Lib.decDigits n.toNat].map B) 4 = B (Lib.decDigits y.toNat) := rfl
  have r5 : rdOf ByteArray.empty ([[70, 73, 88], clockL s.toNat, two d.toNat, two m.toNat, Lib.decDigits y.toNat, Lib.decDigits n.toNat].map B) 5 = B (Lib.decDigits n.toNat) := rfl
  have rl : (([[70, 73, 88], clockL s.toNat, two d.toNat, two m.toNat, Lib.decDigits y.toNat, Lib.decDigits n.toNat].map B).length : Int) = 6 := rfl
  have hd2' : ∀ x, x < 100 → spec_readDigits.f k (B (two x)) 2 = some (x : Int) := fun x hx => by
    rw [rd_val (two x) 2 (hne (by rw [two_len]; omega)) (by rw [two_len]; omega) (by rw [two_len]; omega) (two_all isD (fun _ => isD_dg) hx) (by rw [two_len]; omega), val_two hx]
  have x1 : (B (two a ++ two b ++ two c)).extract 0 2 = B (two a) := by rw [B_ext]; rfl
  have x2 : (B (two a ++ two b ++ two c)).extract 2 4 = B (two b) := by rw [B_ext]; rfl
  have x3 : (B (two a ++ two b ++ two c)).extract 4 (B (two a ++ two b ++ two c)).size = B (two c) := by rw [B_ext]; rfl
  have xs : ((B (two a ++ two b ++ two c)).size : Int) = 6 := by rw [B_size]; rfl
  have ey : spec_readDigits.f k (B (Lib.decDigits y.toNat)) 4 = some y := by
    rw [rd_val _ 4 (hne (by omega)) (by omega) (by omega) (dd_all isD (fun _ => isD_dg) _) (by omega), val_year (by omega) (by omega), show ((y.toNat : Nat) : Int) = y by omega]
  have en : spec_readDigits.f k (B (Lib.decDigits n.toNat)) 2 = some n := by
    rw [rd_val _ 2 (hne (by omega)) (by omega) (by omega) (dd_all isD (fun _ => isD_dg) _) (by omega), val_seen (by omega), show ((n.toNat : Nat) : Int) = n by omega]
  have ev : wrap64 ((wrap64 ((wrap64 (3600 * (a : Int))) + (wrap64 (60 * (b : Int))))) + (c : Int)) = s := by
    rw [w64 (x := 3600 * (a : Int)) (by omega) (by omega), w64 (x := 60 * (b : Int)) (by omega) (by omega), w64 (x := 3600 * (a : Int) + 60 * (b : Int)) (by omega) (by omega), w64 (by omega) (by omega)]
    omega
  rw [rl, if_pos rfl, if_pos (by omega), r0, B_list, if_pos rfl, if_pos (by omega)]
  simp only [spec_readFix.j0]
  rw [rl, r1, xs, if_neg (by decide), if_pos (by omega), if_pos (by omega), if_pos (by omega), x1, hd2' a ha, Option.bind_some, if_pos (by omega), if_pos (by omega), x2, hd2' b hb, Option.bind_some, x3, hd2' c hc, Option.bind_some, if_pos (by omega), r4, ey, Option.bind_some, if_pos (by omega), r3, hd2' _ (by omega), Option.bind_some, if_pos (by omega), r2, hd2' _ (by omega), Option.bind_some, if_pos (by omega), r5, en, Option.bind_some, if_neg (by omega), if_neg (by omega), if_neg (by omega), ev, show ((d.toNat : Nat) : Int) = d by omega, show ((m.toNat : Nat) : Int) = m by omega, validFix_s, Option.bind_some, if_pos (decide_eq_true h), formatB_s (by omega) h, Option.bind_some, if_pos rfl]
theorem readFix_no {k : Nat} (hk : 2001 ≤ k) {l : List UInt8} (hl : l.length ≤ 40) (h : ¬ ∃ y m d s n, okFix y m d s n ∧ l = bodyL y m d s n) : spec_readFix.f k (B l) = some (0, 0, 0, 0, 0, false) := by
  obtain ⟨k, rfl⟩ : ∃ m, k = m + 1 := ⟨k - 1, by omega⟩
  have hsz : ∀ x ∈ (spl l).map B, x.size ≤ 40 := fun x hx => by
    obtain ⟨y, hy, rfl⟩ := List.mem_map.1 hx
    have := spl_len l.length l (Nat.le_refl _) y hy
    rw [B_size]
    omega
  have hrd : ∀ i, (rdOf ByteArray.empty ((spl l).map B) i).size ≤ 40 := fun i => by
    unfold rdOf
    rw [List.getD_eq_getElem?_getD]
    cases e : ((spl l).map B)[i.toNat]? with
    | none => exact Nat.zero_le _
    | some x => exact hsz x (List.mem_of_getElem? e)
  have tot : ∀ (x : ByteArray) (m : Int), x.size ≤ 40 → ∃ v, spec_readDigits.f k x m = some v := fun x m hx => by
    rw [B_of x]
    have e : x.data.toList.length = x.size := rfl
    exact rd_total _ (by omega) (by omega) m
  unfold spec_readFix.f
  rw [splitAt_s (by omega) hl, Option.bind_some]
  have hj : spec_readFix.j0 (k + 1) (B l) ((spl l).map B) true = some (0, 0, 0, 0, 0, false) := by
    simp only [spec_readFix.j0]
    rw [if_pos trivial]
  by_cases h6 : (((spl l).map B).length : Int) = 6
  rotate_left
  · rw [if_neg h6]
    exact hj
  rw [if_pos h6, if_pos (by omega)]
  by_cases hF : (rdOf ByteArray.empty ((spl l).map B) 0).toList = ([70, 73, 88] : List UInt8)
  rotate_left
  · rw [if_neg hF]
    exact hj
  rw [if_pos hF, if_pos (by omega)]
  by_cases hs : ((rdOf ByteArray.empty ((spl l).map B) 1).size : Int) = 6
  rotate_left
  · rw [show (((rdOf ByteArray.empty ((spl l).map B) 1).size : Int) != 6) = true by simp [hs]]
    exact hj
  rw [show (((rdOf ByteArray.empty ((spl l).map B) 1).size : Int) != 6) = false by simp [hs]]
  obtain ⟨v1, e1⟩ := tot ((rdOf ByteArray.empty ((spl l).map B) 1).extract 0 2) 2 (by have := hrd 1; rw [ByteArray.size_extract]; omega)
  obtain ⟨v2, e2⟩ := tot ((rdOf ByteArray.empty ((spl l).map B) 1).extract 2 4) 2 (by have := hrd 1; rw [ByteArray.size_extract]; omega)
  obtain ⟨v3, e3⟩ := tot ((rdOf ByteArray.empty ((spl l).map B) 1).extract 4 (rdOf ByteArray.empty ((spl l).map B) 1).size) 2 (by have := hrd 1; rw [ByteArray.size_extract]; omega)
  obtain ⟨v4, e4⟩ := tot (rdOf ByteArray.empty ((spl l).map B) 4) 4 (hrd _)
  obtain ⟨v5, e5⟩ := tot (rdOf ByteArray.empty ((spl l).map B) 3) 2 (hrd _)
  obtain ⟨v6, e6⟩ := tot (rdOf ByteArray.empty ((spl l).map B) 2) 2 (hrd _)
  obtain ⟨v7, e7⟩ := tot (rdOf ByteArray.empty ((spl l).map B) 5) 2 (hrd _)
  simp only [spec_readFix.j0]
  rw [if_neg (by simp), h6, hs, if_pos (by omega), if_pos (by omega), if_pos (by omega), e1, Option.bind_some, if_pos (by omega), if_pos (by omega), e2, Option.bind_some, e3, Option.bind_some, if_pos (by omega), e4, Option.bind_some, if_pos (by omega), e5, Option.bind_some, if_pos (by omega), e6, Option.bind_some, if_pos (by omega), e7, Option.bind_some]
  split
  · rfl
  split
  · rfl
  split
  · rfl
  rw [validFix_s, Option.bind_some]
  by_cases ho : okFix v4 v5 v6 (wrap64 ((wrap64 ((wrap64 (3600 * v1)) + (wrap64 (60 * v2)))) + v3)) v7
  · rw [if_pos (decide_eq_true ho), formatB_s (by omega) ho, Option.bind_some, B_list, B_list, if_neg (fun e => h ⟨_, _, _, _, _, ho, e.symm⟩)]
  · rw [if_neg (by simpa using ho)]
theorem parse_s {k : Nat} (hk : 2001 ≤ k) {t : List UInt8} (hl : t.length ≤ 1000000000000) (hk2 : t.length < k) : spec_ParseFix.f k (B t) = impl_ParseFix.f k (B t) := by
  by_cases h : ∃ y m d s n, okFix y m d s n ∧ t = frame (bodyL y m d s n)
  · obtain ⟨y, m, d, s, n, ho, rfl⟩ := h
    obtain ⟨hok, hl1, hl2⟩ := body_ok ho
    rw [parse_frame hk ho]
    unfold spec_ParseFix.f
    rw [readFrame_s hl hk2, readF_frame hok, Option.bind_some]
    simp only []
    rw [if_pos trivial, readFix_yes hk ho]
    rfl
  · rw [parse_no hk hl hk2 h]
    unfold spec_ParseFix.f
    rw [readFrame_s hl hk2, Option.bind_some]
    unfold readF
    by_cases hc : 4 ≤ t.length ∧ okBody (midL t) = true ∧ t = frame (midL t)
    rotate_left
    · rw [if_neg hc]
      simp only []
      rw [if_neg (by simp)]
    have hm : (midL t).length ≤ 40 := by
      have := hc.2.1
      unfold okBody at this
      rw [Bool.and_eq_true, decide_eq_true_eq] at this
      exact this.2.2
    rw [if_pos hc]
    simp only []
    rw [if_pos trivial, readFix_no hk hm (fun ⟨y, m, d, s, n, ho, e⟩ => h ⟨y, m, d, s, n, ho, by rw [← e]; exact hc.2.2⟩)]
    rfl
theorem of_ok {k : Nat} (hk : 1 ≤ k) {b : List Int} {p : Int} (l : List ByteArray) (hb : Bytes b) (hp : 0 ≤ p) (hp2 : p ≤ 1000000000) (hl : 1 ≤ (l.length : Int)) (hs : ∀ x ∈ l, x.size ≤ 2) :
    ∃ t, spec_reader_of.f k b p l = some (t, p + 1) ∧ t.size ≤ 2 := by
  obtain ⟨r, e, h0, h1⟩ := pick_ok hk (l.length : Int) hb hp hp2
  have h1 := h1 hl
  have hi : r.toNat < l.length := by omega
  unfold spec_reader_of.f
  rw [e, Option.bind_some, if_pos h0, if_pos h1]
  refine ⟨_, rfl, hs _ ?_⟩
  unfold rdOf
  rw [List.getD_eq_getElem?_getD, List.getElem?_eq_getElem hi]
  exact List.getElem_mem hi
theorem mutate_ok {k : Nat} (hk : 1 ≤ k) {b : List Int} {p : Int} (hb : Bytes b) (hp : 0 ≤ p) (hp2 : p ≤ 999990000) (x : ByteArray) (hx : x.size ≤ 1000) : ∃ t q, spec_mutate.f k b p x = some (t, q) ∧ t.size ≤ x.size + 2 ∧ 0 ≤ q ∧ q ≤ p + 3 := by
  obtain ⟨r1, e1, l1, u1⟩ := pick_ok hk ((x.size : Int) + 1) hb hp (by omega)
  obtain ⟨r2, e2, l2, u2⟩ := pick_ok hk (p := p + 1) 5 hb (by omega) (by omega)
  have u1 := u1 (by omega)
  obtain ⟨t1, f1, s1⟩ := of_ok hk (p := p + 1 + 1) ([(⟨#[48]⟩ : ByteArray), (⟨#[49]⟩ : ByteArray), (⟨#[32]⟩ : ByteArray), (⟨#[42]⟩ : ByteArray), (⟨#[44]⟩ : ByteArray), (⟨#[70]⟩ : ByteArray), (⟨#[36]⟩ : ByteArray), (⟨#[57]⟩ : ByteArray)] : List ByteArray) hb (by omega) (by omega) (by simp) (by
    intro x hx
    simp only [List.mem_cons, List.not_mem_nil, or_false] at hx
    rcases hx with rfl | rfl | rfl | rfl | rfl | rfl | rfl | rfl <;> decide)
  obtain ⟨t2, f2, s2⟩ := of_ok hk (p := p + 1 + 1) ([(⟨#[48]⟩ : ByteArray), (⟨#[32]⟩ : ByteArray), (⟨#[42, 52]⟩ : ByteArray), (⟨#[44, 49]⟩ : ByteArray), (⟨#[120]⟩ : ByteArray), (⟨#[36]⟩ : ByteArray)] : List ByteArray) hb (by omega) (by omega) (by simp) (by
    intro x hx
    simp only [List.mem_cons, List.not_mem_nil, or_false] at hx
    rcases hx with rfl | rfl | rfl | rfl | rfl | rfl <;> decide)
  unfold spec_mutate.f
  rw [w64 (x := (x.size : Int) + 1) (by omega) (by omega), e1, Option.bind_some, e2, Option.bind_some]
  simp only []
  by_cases h0 : r2 = 0
  · rw [if_pos h0]
    by_cases h : r1 < (x.size : Int)
    · rw [if_pos h, if_pos l1, if_pos (by omega), f1, Option.bind_some, w64 (x := r1 + 1) (by omega) (by omega)]
      simp only []
      have sz1 : (x.extract 0 r1.toNat).size = r1.toNat := by rw [ByteArray.size_extract]; omega
      have sz2 : (x.extract (r1 + 1).toNat x.size).size = x.size - (r1 + 1).toNat := by rw [ByteArray.size_extract]; omega
      rw [if_pos (by omega), if_pos (by omega), if_pos (by omega), if_pos (by rw [ByteArray.size_append]; omega)]
      refine ⟨_, _, rfl, ?_, by omega, by omega⟩
      rw [ByteArray.size_append, ByteArray.size_append]
      omega
    · rw [if_neg h]
      exact ⟨_, _, rfl, by omega, by omega, by omega⟩
  rw [if_neg h0]
  by_cases h1 : r2 = 1
  · rw [if_pos h1, if_pos l1, if_pos (by omega)]
    exact ⟨_, _, rfl, by rw [ByteArray.size_extract]; omega, by omega, by omega⟩
  rw [if_neg h1]
  by_cases h2 : r2 = 2
  · rw [if_pos h2, f2, Option.bind_some]
    simp only []
    rw [if_pos (by omega)]
    exact ⟨_, _, rfl, by rw [ByteArray.size_append]; omega, by omega, by omega⟩
  · rw [if_neg h2]
    exact ⟨_, _, rfl, by omega, by omega, by omega⟩
theorem drawParse_ok {code : List Int} (hb : ∀ x ∈ code, (Lit.int .u8 x).wf = true) {k : Nat} (hk : 2004 ≤ k) : ∃ t, spec_DrawParseFix.f k code = some t ∧ t.size ≤ 100 := by
  obtain ⟨k, rfl⟩ : ∃ m, k = m + 2 := ⟨k - 2, by omega⟩
  obtain ⟨b, eb, hB⟩ := newReader_ok hb
  obtain ⟨y, m, d, s, n, q, ef, hq1, hq2⟩ := anyFix_ok (k := k + 2) (by omega) hB (p := 0) (by omega) (by omega)
  unfold spec_DrawParseFix.f
  rw [eb, Option.bind_some, ef, Option.bind_some]
  simp only []
  rw [format_s (by omega), Option.bind_some]
  have hx : (B (if okFix y m d s n then frame (bodyL y m d s n) else [])).size ≤ 28 := by
    rw [B_size]
    split
    · rename_i h
      obtain ⟨hok, hl1, hl2⟩ := body_ok h
      have hfl := frame_len hok
      omega
    · simp
  obtain ⟨x, ex⟩ : ∃ x, x = B (if okFix y m d s n then frame (bodyL y m d s n) else []) := ⟨_, rfl⟩
  rw [← ex] at hx ⊢
  have j1 : ∀ (k : Nat) (y : ByteArray) (v : Bool) (p : Int), 60 ≤ k → 0 ≤ p → p ≤ 100000 → y.size ≤ 40 → ∃ t, spec_DrawParseFix.j1 k x y v b p = some t ∧ t.size ≤ 100 := by
    intro k y v p hk h0 h1 hy
    obtain ⟨k, rfl⟩ : ∃ m, k = m + 1 := ⟨k - 1, by omega⟩
    simp only [spec_DrawParseFix.j1]
    split
    · have hl : y.data.toList.length = y.size := rfl
      rw [B_of y, frameBody_s _ (by omega) (by omega), Option.bind_some]
      refine ⟨_, rfl, ?_⟩
      rw [B_size]
      split
      · rename_i h
        have := frame_len h
        omega
      · simp
    · obtain ⟨t, q, e, h, _, _⟩ := mutate_ok (k := k) (by omega) hB h0 (by omega) x (by omega)
      rw [e, Option.bind_some]
      exact ⟨_, rfl, by show t.size ≤ 100; omega⟩
  by_cases h4 : (x.size : Int) > 4
  · rw [if_pos h4]
    obtain ⟨r1, e1, l1, u1⟩ := pick_ok (k := k + 2) (by omega) (p := q) 3 hB (by omega) (by omega)
    rw [e1, Option.bind_some]
    simp only [spec_DrawParseFix.j0]
    split
    · rw [w64 (x := (x.size : Int) - 3) (by omega) (by omega), if_pos (by omega), if_pos (by omega)]
      obtain ⟨t, q2, e2, ht, g1, g2⟩ := mutate_ok (k := k + 1) (by omega) hB (p := q + 1) (by omega) (by omega) (x.extract 1 ((x.size : Int) - 3).toNat) (by rw [ByteArray.size_extract]; omega)
      rw [ByteArray.size_extract] at ht
      have hl : t.data.toList.length = t.size := rfl
      rw [e2, Option.bind_some]
      simp only []
      rw [B_of t, isBody_s _ (by omega) (by omega), Option.bind_some, ← B_of t]
      split
      · obtain ⟨r3, e3, l3, u3⟩ := pick_ok (k := k + 1) (by omega) (p := q2) 3 hB (by omega) (by omega)
        rw [e3, Option.bind_some]
        exact j1 _ _ _ _ (by omega) (by omega) (by omega) (by omega)
      · exact j1 _ _ _ _ (by omega) (by omega) (by omega) (by omega)
    · exact ⟨_, rfl, by omega⟩
  · rw [if_neg h4]
    simp only [spec_DrawParseFix.j0]
    rw [if_neg (by simp)]
    exact ⟨_, rfl, by omega⟩
end KFnFixCanonical
open KFnFixCanonical
theorem FnFixCanonical (code : List Int) (_hl : code.length ≤ maxLen) (_hs : code.length * 1 ≤ 140737488351232) (hb : ∀ x ∈ code, (Lit.int .u8 x).wf = true) : ∃ k, laws_FnFixCanonical.f k code = some true := by
  refine ⟨2010, ?_⟩
  unfold laws_FnFixCanonical.f
  by_cases h0 : (code.length : Int) > 1048576
  · rw [if_pos h0]
  obtain ⟨t, et, ht⟩ := drawParse_ok (k := 2010) hb (by omega)
  have hl : t.data.toList.length = t.size := rfl
  rw [if_neg h0, et, Option.bind_some, B_of t, parse_s (by omega) (by omega) (by omega)]
  by_cases h : ∃ y m d s n, okFix y m d s n ∧ t.data.toList = frame (bodyL y m d s n)
  · obtain ⟨y, m, d, s, n, ho, e⟩ := h
    rw [e, parse_frame (by omega) ho, Option.bind_some, Option.bind_some, if_neg (by simp)]
    simp only [laws_FnFixCanonical.j0]
    rw [if_neg (by simp), if_pos trivial, format_i (by omega), Option.bind_some, if_pos ho, if_pos rfl, validFix_i (by omega), Option.bind_some, decide_eq_true ho]
  · rw [parse_no (by omega) (by omega) (by omega) h, Option.bind_some, Option.bind_some, if_neg (by simp)]
    simp only [laws_FnFixCanonical.j0]
    rw [if_neg (by simp), if_neg (by simp)]

end Go.Proofs.YtdggcfpimjdckaaDoor.Pure
