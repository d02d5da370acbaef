/- The plain laws of the session's functions: words, fixes, days, buckets; no condition of its own. -/
import Derived.Test.YtdggcfpimjdckaaGreatDoorPFnExactRunSessionx11
import Derived.Laws.BitsLemmas
namespace Go.Proofs.YtdggcfpimjdckaaGreatDoor.Pure
open Go Go.RowKit Go.Proofs.YtdggcfpimjdckaaGreatDoor.PFnExactRunSession Go.Proofs.YtdggcfpimjdckaaGreatDoorW.PrintWords Go.Proofs.YtdggcfpimjdckaaGreatDoorW.PrintLast Go.Proofs.YtdggcfpimjdckaaGreatDoorW.PrintMore
theorem w64 {x : Int} (h1 : -9223372036854775808 ≤ x) (h2 : x < 9223372036854775808) : wrap64 x = x := by unfold wrap64; omega
theorem i64wrap (x : Int) : IntKind.i64.wrap x = wrap64 x := by rw [IntKind.wrap_i64]; unfold wrap64; rfl
theorem tm {a b : Int} (h : 0 ≤ a) : Int.tmod a b = a % b := Int.tmod_eq_emod_of_nonneg h
theorem td {a b : Int} (h : 0 ≤ a) : Int.tdiv a b = a / b := Int.tdiv_eq_ediv_of_nonneg h
theorem sval {α : Type} {x : Option α} {a : α} (h : x = some a) {β : Type} (f : α → Option β) : x.bind f = f a := by rw [h]; rfl
theorem within_eq (n lo hi : Int) : impl_within.f n lo hi = some (decide (lo ≤ n ∧ n ≤ hi)) := by
  unfold impl_within.f
  by_cases h : lo ≤ n <;> simp [h]
theorem inRange_eq (n lo hi : Int) : spec_inRange.f n lo hi = some (decide (lo ≤ n ∧ n ≤ hi)) := by
  unfold spec_inRange.f
  by_cases h : lo ≤ n <;> simp [h]
/-- The days of a month of a year in 1980..2099. -/
def mdays (y m : Int) : Int :=
  if m = 2 then (if y % 4 = 0 then 29 else 28) else if m = 4 ∨ m = 6 ∨ m = 9 ∨ m = 11 then 30 else 31
theorem mdays_in (y m : Int) : 28 ≤ mdays y m ∧ mdays y m ≤ 31 := by unfold mdays; split <;> (try split) <;> omega
/-- The days before the month number i, counted from 0 for the first month of 1980. -/
def S : Nat → Int
  | 0 => 0
  | i + 1 => S i + mdays (1980 + (i / 12 : Nat)) ((i % 12 : Nat) + 1)
theorem S_succ (i : Nat) : S (i + 1) = S i + mdays (1980 + (i / 12 : Nat)) ((i % 12 : Nat) + 1) := rfl
theorem S_at (a j : Nat) (h : j < 12) : S (12 * a + j + 1) = S (12 * a + j) + mdays (1980 + (a : Int)) ((j : Int) + 1) := by
  rw [S_succ, show (12 * a + j) / 12 = a by omega, show (12 * a + j) % 12 = j by omega]
theorem S_lt (i : Nat) : S i + 28 ≤ S (i + 1) ∧ S (i + 1) ≤ S i + 31 := by
  have := mdays_in (1980 + (i / 12 : Nat)) ((i % 12 : Nat) + 1)
  rw [S_succ]
  omega
theorem S_mono {i j : Nat} (h : i ≤ j) : S i ≤ S j := by
  induction j with
  | zero => obtain rfl : i = 0 := by omega
            exact Int.le_refl _
  | succ j ih =>
    by_cases e : i = j + 1
    · subst e; exact Int.le_refl _
    · have := ih (by omega); have := S_lt j; omega
theorem S_same {i j : Nat} {D : Int} (h1 : S i ≤ D) (h2 : D < S (i + 1)) (h3 : S j ≤ D) (h4 : D < S (j + 1)) : i = j := by
  by_cases a : i < j
  · have := S_mono (show i + 1 ≤ j by omega); omega
  · by_cases b : j < i
    · have := S_mono (show j + 1 ≤ i by omega); omega
    · omega
theorem S_nonneg (i : Nat) : 0 ≤ S i := S_mono (i := 0) (Nat.zero_le i)
theorem S_year (a : Nat) : S (12 * (a + 1)) = S (12 * a) + (365 + if (1980 + (a : Int)) % 4 = 0 then 1 else 0) := by
  have e0 := S_at a 0 (by omega)
  have e1 := S_at a 1 (by omega)
  have e2 := S_at a 2 (by omega)
  have e3 := S_at a 3 (by omega)
  have e4 := S_at a 4 (by omega)
  have e5 := S_at a 5 (by omega)
  have e6 := S_at a 6 (by omega)
  have e7 := S_at a 7 (by omega)
  have e8 := S_at a 8 (by omega)
  have e9 := S_at a 9 (by omega)
  have e10 := S_at a 10 (by omega)
  have e11 := S_at a 11 (by omega)
  simp [mdays] at e0 e1 e2 e3 e4 e5 e6 e7 e8 e9 e10 e11
  rw [show 12 * (a + 1) = 12 * a + 11 + 1 by omega, e11, e10, e9, e8, e7, e6, e5, e4, e3, e2, e1, e0]
  split <;> omega
theorem S_years (a : Nat) : S (12 * a) = 365 * a + ((a : Int) + 3) / 4 := by
  induction a with
  | zero => rfl
  | succ a ih =>
    rw [S_year, ih]
    split <;> omega
theorem S_all : S 1440 = 43830 := S_years 120
/-- Each day of the span lies in one month. -/
theorem S_find (n : Nat) : ∀ D : Int, 0 ≤ D → D < S n → ∃ i, i < n ∧ S i ≤ D ∧ D < S (i + 1) := by
  induction n with
  | zero => intro D h0 h1; simp [S] at h1; omega
  | succ n ih =>
    intro D h0 h1
    by_cases h : D < S n
    · obtain ⟨i, a, b, c⟩ := ih D h0 h
      exact ⟨i, by omega, b, c⟩
    · exact ⟨n, by omega, by omega, h1⟩
theorem S_le (i : Nat) : S i ≤ 31 * i := by
  induction i with
  | zero => simp [S]
  | succ i ih => have := S_lt i; omega
theorem leap_i (y : Int) (h : 1980 ≤ y ∧ y ≤ 2099) : impl_IsLeapYear.f y = some (decide (y % 4 = 0)) := by
  unfold impl_IsLeapYear.f
  rw [within_eq, tm (show 0 ≤ y by omega), tm (show 0 ≤ y by omega), tm (show 0 ≤ y by omega)]
  simp only [Option.bind_some, decide_eq_true h, if_true]
  by_cases h4 : y % 4 = 0
  · rw [if_pos h4, decide_eq_true h4]
    by_cases h1 : y % 100 = 0
    · rw [if_pos h1, beq_iff_eq.2 (by omega)]
    · rw [if_neg h1]
  · rw [if_neg h4, decide_eq_false h4, beq_eq_false_iff_ne.2 (by omega)]
theorem monthDays_i {k : Nat} (hk : 1 ≤ k) (y m : Int) : impl_MonthDays.f k y m = some (if (1980 ≤ y ∧ y ≤ 2099) ∧ 1 ≤ m ∧ m ≤ 12 then mdays y m else -1) := by
  obtain ⟨k, rfl⟩ : ∃ n, k = n + 1 := ⟨k - 1, by omega⟩
  unfold impl_MonthDays.f
  rw [within_eq, within_eq]
  simp only [Option.bind_some, impl_MonthDays.j0, if_true]
  by_cases h1 : 1980 ≤ y ∧ y ≤ 2099
  · by_cases h2 : 1 ≤ m ∧ m ≤ 12
    · rw [if_pos (decide_eq_true h1), if_neg (by simp [h2]), if_pos (show (1980 ≤ y ∧ y ≤ 2099) ∧ 1 ≤ m ∧ m ≤ 12 from ⟨h1, h2⟩), leap_i y h1]
      unfold mdays
      by_cases e : m = 2
      · rw [if_pos e, if_pos e]
        by_cases e4 : y % 4 = 0
        · simp [e4]
        · simp [e4]
      · rw [if_neg e, if_neg e]
        by_cases e2 : m = 4
        · rw [if_pos e2, if_pos (by omega)]
        · rw [if_neg e2]
          by_cases e3 : m = 6
          · rw [if_pos e3, if_pos (by omega)]
          · rw [if_neg e3]
            by_cases e4 : m = 9
            · rw [if_pos e4, if_pos (by omega)]
            · rw [if_neg e4]
              by_cases e5 : m = 11
              · rw [if_pos e5, if_pos (by omega)]
              · rw [if_neg e5, if_neg (by omega)]
    · rw [if_pos (decide_eq_true h1), if_pos (by simp; omega), if_neg (by omega)]
  · rw [if_neg (by simp; omega), if_neg (by omega)]
/-- A date of the span. -/
def okDate (y m d : Int) : Prop := (1980 ≤ y ∧ y ≤ 2099) ∧ (1 ≤ m ∧ m ≤ 12) ∧ 1 ≤ d ∧ d ≤ mdays y m
instance (y m d : Int) : Decidable (okDate y m d) := by unfold okDate; infer_instance
/-- The number of a day. -/
def dayNo (y m d : Int) : Int := d - 1 + S (12 * (y - 1980).toNat + (m - 1).toNat)
theorem leap_s (y : Int) (h : 1980 ≤ y ∧ y ≤ 2099) : spec_leap.f y = some (decide (y % 4 = 0)) := by
  unfold spec_leap.f
  rw [tm (show 0 ≤ y by omega), tm (show 0 ≤ y by omega), tm (show 0 ≤ y by omega)]
  by_cases h4 : y % 4 = 0
  · rw [if_pos h4, decide_eq_true h4]
    by_cases h1 : y % 100 = 0
    · rw [if_pos h1, beq_iff_eq.2 (by omega)]
    · rw [if_neg h1]
  · rw [if_neg h4, decide_eq_false h4, beq_eq_false_iff_ne.2 (by omega)]
theorem monthDays_s (y m : Int) (h : 1980 ≤ y ∧ y ≤ 2099) (hm : 1 ≤ m ∧ m ≤ 12) : spec_monthDays.f y m = some (mdays y m) := by
  unfold spec_monthDays.f
  rw [w64 (by omega) (by omega), Option.bind_some, if_pos (by omega), if_pos (by simp; omega), leap_s y h, Option.bind_some]
  rcases (by omega : m = 1 ∨ m = 2 ∨ m = 3 ∨ m = 4 ∨ m = 5 ∨ m = 6 ∨ m = 7 ∨ m = 8 ∨ m = 9 ∨ m = 10 ∨ m = 11 ∨ m = 12) with rfl | rfl | rfl | rfl | rfl | rfl | rfl | rfl | rfl | rfl | rfl | rfl
  · rfl
  · by_cases h4 : y % 4 = 0
    · simp only [h4, decide_true, if_true, mdays]; decide +kernel
    · simp only [h4, decide_false, mdays, if_false, Bool.false_eq_true, if_true]; rfl
  all_goals rfl
theorem dayOf_year (c : Int) (hc : 0 ≤ c ∧ c ≤ 31) (Y M D : Int) (hY : Y ≤ 2099) (a : Nat) (ha : 1980 + (a : Int) < Y) (n : Nat) : ∀ (j k : Nat), j + n = 12 → n + 2 ≤ k →
    impl_DayOf.l1 k (c + S (12 * a + j)) (1980 + (a : Int)) ((j : Int) + 1) Y M D = impl_DayOf.l0 (k - (n + 1)) (c + S (12 * (a + 1))) (1980 + ((a + 1 : Nat) : Int)) Y M D := by
  induction n with
  | zero =>
    intro j k hj hk
    obtain ⟨k, rfl⟩ : ∃ n, k = n + 1 := ⟨k - 1, by omega⟩
    obtain rfl : j = 12 := by omega
    simp only [impl_DayOf.l1]
    rw [if_neg (by omega), w64 (by omega) (by omega), show 12 * a + 12 = 12 * (a + 1) by omega]
    congr 1
  | succ n ih =>
    intro j k hj hk
    obtain ⟨k, rfl⟩ : ∃ n, k = n + 1 := ⟨k - 1, by omega⟩
    have e := S_at a j (by omega)
    have b := S_le (12 * a + j + 1)
    have b0 := S_nonneg (12 * a + j + 1)
    simp only [impl_DayOf.l1]
    rw [if_pos (by omega), if_pos ha, monthDays_i (by omega), if_pos (by omega)]
    simp only [Option.bind_some]
    rw [show c + S (12 * a + j) + mdays (1980 + (a : Int)) ((j : Int) + 1) = c + S (12 * a + (j + 1)) by rw [show 12 * a + (j + 1) = 12 * a + j + 1 by omega, e]; omega]
    rw [show 12 * a + (j + 1) = 12 * a + j + 1 by omega, w64 (by omega) (by omega), w64 (by omega) (by omega)]
    have := ih (j + 1) k (by omega) (by omega)
    rw [show ((j + 1 : Nat) : Int) = (j : Int) + 1 by omega, show 12 * a + (j + 1) = 12 * a + j + 1 by omega] at this
    rw [this, show k + 1 - (n + 1 + 1) = k - (n + 1) by omega]
theorem dayOf_last (c : Int) (hc : 0 ≤ c ∧ c ≤ 31) (D : Int) (a : Nat) (ha : a < 120) (m : Nat) (hm : m < 12) (n : Nat) : ∀ (j k : Nat), j + n = m → n + 3 ≤ k →
    impl_DayOf.l1 k (c + S (12 * a + j)) (1980 + (a : Int)) ((j : Int) + 1) (1980 + (a : Int)) ((m : Int) + 1) D = some (c + S (12 * a + m)) := by
  induction n with
  | zero =>
    intro j k hj hk
    obtain ⟨k, rfl⟩ : ∃ n, k = n + 2 := ⟨k - 2, by omega⟩
    obtain rfl : j = m := by omega
    simp only [impl_DayOf.l1]
    rw [if_pos (by omega), if_neg (by omega), if_neg (by omega), w64 (by omega) (by omega)]
    simp only [impl_DayOf.l0]
    rw [if_neg (by omega)]
  | succ n ih =>
    intro j k hj hk
    obtain ⟨k, rfl⟩ : ∃ n, k = n + 1 := ⟨k - 1, by omega⟩
    have e := S_at a j (by omega)
    have b := S_le (12 * a + j + 1)
    have b0 := S_nonneg (12 * a + j + 1)
    simp only [impl_DayOf.l1]
    rw [if_pos (by omega), if_neg (by omega), if_pos (by omega), monthDays_i (by omega), if_pos (by omega)]
    simp only [Option.bind_some]
    rw [show c + S (12 * a + j) + mdays (1980 + (a : Int)) ((j : Int) + 1) = c + S (12 * a + j + 1) by rw [e]; omega]
    rw [w64 (by omega) (by omega), w64 (by omega) (by omega)]
    have := ih (j + 1) k (by omega) (by omega)
    rw [show ((j + 1 : Nat) : Int) = (j : Int) + 1 by omega, show 12 * a + (j + 1) = 12 * a + j + 1 by omega] at this
    exact this
theorem dayOf_years (c : Int) (hc : 0 ≤ c ∧ c ≤ 31) (D : Int) (b : Nat) (hb : b < 120) (m : Nat) (hm : m < 12) (n : Nat) : ∀ (a k : Nat), a + n = b → 14 * n + 20 ≤ k →
    impl_DayOf.l0 k (c + S (12 * a)) (1980 + (a : Int)) (1980 + (b : Int)) ((m : Int) + 1) D = some (c + S (12 * b + m)) := by
  induction n with
  | zero =>
    intro a k ha hk
    obtain ⟨k, rfl⟩ : ∃ n, k = n + 1 := ⟨k - 1, by omega⟩
    obtain rfl : a = b := by omega
    simp only [impl_DayOf.l0]
    rw [if_pos (by omega)]
    exact dayOf_last c hc D a hb m hm m 0 k (by omega) (by omega)
  | succ n ih =>
    intro a k ha hk
    obtain ⟨k, rfl⟩ : ∃ n, k = n + 1 := ⟨k - 1, by omega⟩
    simp only [impl_DayOf.l0]
    rw [if_pos (by omega)]
    have := dayOf_year c hc (1980 + (b : Int)) ((m : Int) + 1) D (by omega) a (by omega) 12 0 k (by omega) (by omega)
    rw [Nat.add_zero, show ((0 : Nat) : Int) + 1 = 1 by rfl] at this
    rw [this]
    exact ih (a + 1) (k - (12 + 1)) (by omega) (by omega)
theorem dayOf_i {k : Nat} (hk : 2000 ≤ k) (y m d : Int) : impl_DayOf.f k y m d = some (if okDate y m d then dayNo y m d else -1) := by
  unfold impl_DayOf.f
  rw [monthDays_i (by omega)]
  simp only [Option.bind_some, within_eq]
  by_cases h0 : (1980 ≤ y ∧ y ≤ 2099) ∧ 1 ≤ m ∧ m ≤ 12
  · have hm := mdays_in y m
    rw [if_pos h0]
    by_cases h1 : 1 ≤ d ∧ d ≤ mdays y m
    · have h : okDate y m d := ⟨h0.1, h0.2, h1⟩
      rw [if_pos (decide_eq_true h1), if_pos h, w64 (by omega) (by omega)]
      have := dayOf_years (d - 1) (by omega) d (y - 1980).toNat (by omega) (m - 1).toNat (by omega) (y - 1980).toNat 0 k (by omega) (by omega)
      rw [show (1980 : Int) + ((y - 1980).toNat : Int) = y by omega, show ((m - 1).toNat : Int) + 1 = m by omega] at this
      simpa [S, dayNo] using this
    · rw [if_neg (by simpa using h1), if_neg (fun h => h1 h.2.2)]
  · rw [if_neg h0, if_neg (by simp; omega), if_neg (fun h => h0 ⟨h.1, h.2.1⟩)]
theorem dayNo_in {y m d : Int} (h : okDate y m d) : 0 ≤ dayNo y m d ∧ dayNo y m d ≤ 43829 ∧ ∃ i, i < 1440 ∧ y = 1980 + (i / 12 : Nat) ∧ m = (i % 12 : Nat) + 1 ∧ d = dayNo y m d - S i + 1 ∧ S i ≤ dayNo y m d ∧ dayNo y m d < S (i + 1) := by
  unfold okDate at h
  have e := S_succ (12 * (y - 1980).toNat + (m - 1).toNat)
  rw [show (1980 : Int) + ((12 * (y - 1980).toNat + (m - 1).toNat) / 12 : Nat) = y by omega, show (((12 * (y - 1980).toNat + (m - 1).toNat) % 12 : Nat) : Int) + 1 = m by omega] at e
  have hd : dayNo y m d = d - 1 + S (12 * (y - 1980).toNat + (m - 1).toNat) := rfl
  have b := S_mono (show 12 * (y - 1980).toNat + (m - 1).toNat + 1 ≤ 1440 by omega)
  have b0 := S_nonneg (12 * (y - 1980).toNat + (m - 1).toNat)
  rw [S_all] at b
  exact ⟨by omega, by omega, 12 * (y - 1980).toNat + (m - 1).toNat, by omega, by omega, by omega, by omega, by omega, by omega⟩
/-- A day has one date. -/
theorem dayNo_inj {y m d y' m' d' : Int} (h : okDate y m d) (h' : okDate y' m' d') (e : dayNo y m d = dayNo y' m' d') : y = y' ∧ m = m' ∧ d = d' := by
  obtain ⟨_, _, i, _, a1, a2, a3, a4, a5⟩ := dayNo_in h
  obtain ⟨_, _, j, _, b1, b2, b3, b4, b5⟩ := dayNo_in h'
  have : i = j := S_same a4 a5 (e ▸ b4) (e ▸ b5)
  subst this
  omega
theorem validDate_s (y m d : Int) : spec_validDate.f y m d = some (decide (okDate y m d)) := by
  unfold spec_validDate.f
  rw [inRange_eq, Option.bind_some]
  by_cases h1 : 1980 ≤ y ∧ y ≤ 2099
  · rw [if_pos (decide_eq_true h1), inRange_eq, Option.bind_some]
    by_cases h2 : 1 ≤ m ∧ m ≤ 12
    · rw [if_pos (decide_eq_true h2), monthDays_s y m h1 h2, Option.bind_some, inRange_eq, Option.bind_some]
      exact congrArg some (by simp only [okDate, h1, h2, true_and])
    · rw [if_neg (by simpa using h2), decide_eq_false (fun h => h2 h.2.1)]
  · rw [if_neg (by simpa using h1), decide_eq_false (fun h => h1 h.1)]
/-- A fix that is valid. -/
def okFix (y m d s n : Int) : Prop := okDate y m d ∧ (0 ≤ s ∧ s ≤ 86400) ∧ 0 ≤ n ∧ n ≤ 32
instance (y m d s n : Int) : Decidable (okFix y m d s n) := by unfold okFix; infer_instance
theorem validFix_s (y m d s n : Int) : spec_validFix.f y m d s n = some (decide (okFix y m d s n)) := by
  unfold spec_validFix.f
  rw [validDate_s, Option.bind_some]
  by_cases h1 : okDate y m d
  · rw [if_pos (decide_eq_true h1), inRange_eq, Option.bind_some]
    by_cases h2 : 0 ≤ s ∧ s ≤ 86400
    · rw [if_pos (decide_eq_true h2), inRange_eq, Option.bind_some]
      exact congrArg some (by simp only [okFix, h1, h2, true_and])
    · rw [if_neg (by simpa using h2), decide_eq_false (fun h => h2 h.2.1)]
  · rw [if_neg (by simpa using h1), decide_eq_false (fun h => h1 h.1)]
theorem validFix_i {k : Nat} (hk : 2000 ≤ k) (y m d s n : Int) : impl_ValidFix.f k y m d s n = some (decide (okFix y m d s n)) := by
  unfold impl_ValidFix.f
  rw [dayOf_i hk, Option.bind_some, within_eq, within_eq, Option.bind_some, Option.bind_some]
  by_cases h1 : okDate y m d
  · have := (dayNo_in h1).1
    rw [if_pos h1, if_pos this]
    by_cases h2 : 0 ≤ s ∧ s ≤ 86400
    · rw [if_pos (decide_eq_true h2)]
      exact congrArg some (by simp only [okFix, h1, h2, true_and])
    · rw [if_neg (by simpa using h2), decide_eq_false (fun h => h2 h.2.1)]
  · rw [if_neg h1, if_neg (by omega), decide_eq_false (fun h => h1 h.1)]
/-- The text of these bytes. -/
def B (l : List UInt8) : ByteArray := ⟨l.toArray⟩
theorem B_app (a b : List UInt8) : B a ++ B b = B (a ++ b) := ByteArray.ext (by rw [ByteArray.data_append]; simp [B])
theorem B_size (l : List UInt8) : (B l).size = l.length := by show l.toArray.size = l.length; simp
theorem B_list (l : List UInt8) : (B l).toList = l := ByteArray.toList_mk l
theorem B_of (s : ByteArray) : s = B s.data.toList := rfl
theorem B_ext (l : List UInt8) (a b : Nat) : (B l).extract a b = B ((l.drop a).take (b - a)) := ByteArray.ext (by rw [ByteArray.data_extract]; apply Array.ext'; simp [B, List.take_drop]; try omega)
theorem B_inj {a b : List UInt8} (h : B a = B b) : a = b := by have := congrArg ByteArray.toList h; rwa [B_list, B_list] at this
theorem bt_B (l : List UInt8) (i : Nat) (h : i < l.length) : bt (B l) (i : Int) = (l[i].toNat : Int) := by
  unfold bt
  rw [dif_pos (by rw [B_size]; simpa using h)]
  rfl
theorem sn (n : Int) : strOfNums [n] = B [UInt8.ofNat n.toNat] := rfl
theorem u8n (n : Nat) (h : n < 256) : (UInt8.ofNat n).toNat = n := by simp; omega
theorem xor64 (a b : Nat) (ha : a < 128) (hb : b < 128) : Go.bits .xor .i64 (a : Int) (b : Int) = ((a ^^^ b : Nat) : Int) := by
  have e : (a ^^^ b) < 2 ^ 7 := Nat.xor_lt_two_pow (n := 7) ha hb
  have ha' : a % 2 ^ IntKind.i64.bits = a := Nat.mod_eq_of_lt (Nat.lt_of_lt_of_le ha (by decide))
  have hb' : b % 2 ^ IntKind.i64.bits = b := Nat.mod_eq_of_lt (Nat.lt_of_lt_of_le hb (by decide))
  simp only [Go.bits, BitVec.ofInt_natCast, BitVec.toNat_xor, BitVec.toNat_ofNat, ha', hb']
  rw [IntKind.wrap_i64]
  omega
/-- A byte that can stand in a sentence. -/
def okc (c : UInt8) : Bool := decide (32 ≤ c.toNat) && (decide (c.toNat ≤ 126) && (decide (c.toNat ≠ 36) && decide (c.toNat ≠ 42)))
theorem okc_iff (c : UInt8) : okc c = true ↔ 32 ≤ c.toNat ∧ c.toNat ≤ 126 ∧ c.toNat ≠ 36 ∧ c.toNat ≠ 42 := by unfold okc; simp only [Bool.and_eq_true, decide_eq_true_eq]
/-- A text that can stand in a sentence. -/
def okBody (l : List UInt8) : Bool := l.all okc && decide (1 ≤ l.length ∧ l.length ≤ 40)
def xorL (a : Nat) (l : List UInt8) : Nat := l.foldl (fun a c => a ^^^ c.toNat) a
theorem xorL_lt (l : List UInt8) : ∀ a, a < 128 → l.all okc = true → xorL a l < 128 := by
  induction l with
  | nil => intro a h _; exact h
  | cons c l ih =>
    intro a h hl
    rw [List.all_cons, Bool.and_eq_true] at hl
    have hc := (okc_iff c).1 hl.1
    exact ih _ (Nat.xor_lt_two_pow (n := 7) h (by omega)) hl.2
theorem drop_cons {l : List UInt8} {i : Nat} (h : i < l.length) : l.drop i = l[i] :: l.drop (i + 1) := List.drop_eq_getElem_cons h
theorem checksum_i {k : Nat} (l : List UInt8) (hk : l.length < k) : impl_ChecksumOf.f k (B l) = some (if okBody l = true then ((xorL 0 l : Nat) : Int) else -1) := by
  unfold impl_ChecksumOf.f
  rw [within_eq, Option.bind_some, B_size]
  by_cases hlen : (1 : Int) ≤ (l.length : Int) ∧ (l.length : Int) ≤ 40
  rotate_left
  · rw [if_neg (by rw [decide_eq_true_eq]; exact hlen), if_neg (by unfold okBody; rw [Bool.and_eq_true, decide_eq_true_eq]; omega)]
  rw [if_pos (decide_eq_true hlen)]
  have main : ∀ (n i k a : Nat), i + n = l.length → n < k → a < 128 → impl_ChecksumOf.l0 k (B l) (a : Int) (l.length : Int) (i : Int) = some (if (l.drop i).all okc = true then ((xorL a (l.drop i) : Nat) : Int) else -1) := fun n => by
    induction n with
    | zero =>
      intro i k a h hk ha
      obtain ⟨k, rfl⟩ : ∃ m, k = m + 1 := ⟨k - 1, by omega⟩
      simp only [impl_ChecksumOf.l0]
      rw [if_neg (by omega), List.drop_eq_nil_of_le (by omega)]
      rfl
    | succ n ih =>
      intro i k a h hk ha
      obtain ⟨k, rfl⟩ : ∃ m, k = m + 1 := ⟨k - 1, by omega⟩
      have hb : (l[i]'(by omega)).toNat < 256 := UInt8.toNat_lt _
      simp only [impl_ChecksumOf.l0]
      rw [if_pos (by omega), if_pos (by omega), if_pos (by rw [B_size]; omega), bt_B l i (by omega), drop_cons (l := l) (i := i) (by omega), List.all_cons]
      by_cases hc : okc (l[i]'(by omega)) = true
      · have hc' := (okc_iff _).1 hc
        rw [if_neg (by omega), if_neg (by omega), if_neg (by omega), if_neg (by omega), hc, Bool.true_and, w64 (x := ((l[i]'(by omega)).toNat : Int)) (by omega) (by omega), xor64 a _ ha (by omega), w64 (by omega) (by omega)]
        exact ih (i + 1) k _ (by omega) (by omega) (Nat.xor_lt_two_pow (n := 7) ha (by omega))
      · rw [Bool.eq_false_iff.2 hc, Bool.false_and, if_neg (show ¬ (false = true) by simp)]
        have hc' : ¬ (32 ≤ (l[i]'(by omega)).toNat ∧ (l[i]'(by omega)).toNat ≤ 126 ∧ (l[i]'(by omega)).toNat ≠ 36 ∧ (l[i]'(by omega)).toNat ≠ 42) := fun h => hc ((okc_iff _).2 h)
        by_cases h1 : ((l[i]'(by omega)).toNat : Int) < 32
        · rw [if_pos h1]
        rw [if_neg h1]
        by_cases h2 : ((l[i]'(by omega)).toNat : Int) > 126
        · rw [if_pos h2]
        rw [if_neg h2]
        by_cases h3 : ((l[i]'(by omega)).toNat : Int) = 36
        · rw [if_pos h3]
        rw [if_neg h3]
        by_cases h4 : ((l[i]'(by omega)).toNat : Int) = 42
        · rw [if_pos h4]
        exact absurd ⟨by omega, by omega, by omega, by omega⟩ hc'
  have := main l.length 0 k 0 (by omega) hk (by omega)
  rw [List.drop_zero] at this
  have e : impl_ChecksumOf.l0 k (B l) 0 (l.length : Int) 0 = _ := this
  rw [e]
  unfold okBody
  rw [decide_eq_true (by omega), Bool.and_true]
def hexL : List UInt8 := [48, 49, 50, 51, 52, 53, 54, 55, 56, 57, 65, 66, 67, 68, 69, 70]
/-- The sentence of a text. -/
def frame (l : List UInt8) : List UInt8 := [36] ++ l ++ [42] ++ (hexL.drop (xorL 0 l / 16)).take 1 ++ (hexL.drop (xorL 0 l % 16)).take 1
theorem frame_len {l : List UInt8} (h : okBody l = true) : (frame l).length = l.length + 4 := by
  unfold okBody at h
  rw [Bool.and_eq_true] at h
  have := xorL_lt l 0 (by omega) h.1
  have e : hexL.length = 16 := rfl
  unfold frame
  simp only [List.length_append, List.length_take, List.length_drop, e, List.length_singleton]
  omega
theorem frameBody_i {k : Nat} (l : List UInt8) (hk : l.length < k) : impl_FrameBody.f k (B l) = some (B (if okBody l = true then frame l else [])) := by
  unfold impl_FrameBody.f
  rw [checksum_i l hk, Option.bind_some]
  by_cases h : okBody l = true
  rotate_left
  · rw [if_neg h, if_neg h, if_pos (by omega)]
    rfl
  have h' := h
  unfold okBody at h'
  rw [Bool.and_eq_true, decide_eq_true_eq] at h'
  have hx := xorL_lt l 0 (by omega) h'.1
  have hfl := frame_len h
  rw [if_pos h, if_pos h, if_neg (by omega), td (by omega), tm (by omega)]
  have e16 : ((xorL 0 l : Nat) : Int) / 16 = ((xorL 0 l / 16 : Nat) : Int) := by omega
  have em : ((xorL 0 l : Nat) : Int) % 16 = ((xorL 0 l % 16 : Nat) : Int) := by omega
  rw [e16, em, w64 (x := ((xorL 0 l / 16 : Nat) : Int)) (by omega) (by omega), w64 (x := ((xorL 0 l / 16 : Nat) : Int) + 1) (by omega) (by omega), w64 (x := ((xorL 0 l % 16 : Nat) : Int) + 1) (by omega) (by omega)]
  have hH : (⟨#[48, 49, 50, 51, 52, 53, 54, 55, 56, 57, 65, 66, 67, 68, 69, 70]⟩ : ByteArray) = B hexL := rfl
  have h36 : (⟨#[36]⟩ : ByteArray) = B [36] := rfl
  have h42 : (⟨#[42]⟩ : ByteArray) = B [42] := rfl
  have t1 : (((xorL 0 l / 16 : Nat) : Int) + 1).toNat - (xorL 0 l / 16) = 1 := by omega
  have t2 : (((xorL 0 l % 16 : Nat) : Int) + 1).toNat - (xorL 0 l % 16) = 1 := by omega
  simp only [hH, h36, h42, B_ext, B_app, B_size, Int.toNat_natCast, t1, t2]
  have e : hexL.length = 16 := rfl
  simp only [List.length_append, List.length_take, List.length_drop, e, List.length_singleton]
  rw [if_pos (by omega), if_pos (by omega), if_pos (by omega), if_pos (by omega), if_pos (by omega), if_pos (by omega), if_pos (by omega), if_pos (by omega), if_pos (by omega), if_pos (by omega)]
  rfl
theorem isBody_s {k : Nat} (l : List UInt8) (hl : l.length ≤ 4611686018427387904) (hk : l.length < k) : spec_isBody.f k (B l) = some (okBody l) := by
  have main : ∀ (n i k : Nat), i + n = l.length → n < k → spec_isBody.l0 k (B l) (i : Int) = some ((l.drop i).all okc && decide (1 ≤ l.length ∧ l.length ≤ 40)) := fun n => by
    induction n with
    | zero =>
      intro i k h hk
      obtain ⟨k, rfl⟩ : ∃ m, k = m + 1 := ⟨k - 1, by omega⟩
      simp only [spec_isBody.l0]
      rw [B_size, if_neg (by omega), inRange_eq, Option.bind_some, List.drop_eq_nil_of_le (by omega)]
      exact congrArg some (by rw [List.all_nil, Bool.true_and]; exact decide_eq_decide.2 (by omega))
    | succ n ih =>
      intro i k h hk
      obtain ⟨k, rfl⟩ : ∃ m, k = m + 1 := ⟨k - 1, by omega⟩
      have hb : (l[i]'(by omega)).toNat < 256 := UInt8.toNat_lt _
      have IH := ih (i + 1) k (by omega) (by omega)
      rw [show ((i + 1 : Nat) : Int) = (i : Int) + 1 by omega] at IH
      simp only [spec_isBody.l0]
      rw [B_size, if_pos (by omega), if_pos (by omega), bt_B l i (by omega), inRange_eq, Option.bind_some, w64 (x := ((l[i]'(by omega)).toNat : Int)) (by omega) (by omega), w64 (x := (i : Int) + 1) (by omega) (by omega), IH, drop_cons (l := l) (i := i) (by omega), List.all_cons]
      by_cases hr : (32 : Int) ≤ ((l[i]'(by omega)).toNat : Int) ∧ ((l[i]'(by omega)).toNat : Int) ≤ 126
      · rw [if_pos (decide_eq_true hr)]
        by_cases h1 : ((l[i]'(by omega)).toNat : Int) = 36
        · rw [if_pos h1, (Bool.eq_false_iff.2 (fun h => by have := (okc_iff _).1 h; omega) : okc (l[i]'(by omega)) = false)]; rfl
        rw [if_neg h1]
        by_cases h2 : ((l[i]'(by omega)).toNat : Int) = 42
        · rw [if_pos h2, (Bool.eq_false_iff.2 (fun h => by have := (okc_iff _).1 h; omega) : okc (l[i]'(by omega)) = false)]; rfl
        rw [if_neg h2, (okc_iff _).2 ⟨by omega, by omega, by omega, by omega⟩, Bool.true_and]
      · rw [if_neg (by rw [decide_eq_true_eq]; exact hr), (Bool.eq_false_iff.2 (fun h => by have := (okc_iff _).1 h; omega) : okc (l[i]'(by omega)) = false)]; rfl
  have := main l.length 0 k (by omega) hk
  rw [List.drop_zero] at this
  exact this
theorem checksum_s {k : Nat} (l : List UInt8) (h : l.all okc = true) (hl : l.length ≤ 40) (hk : l.length < k) : spec_checksum.f k (B l) = some ((xorL 0 l : Nat) : Int) := by
  have main : ∀ (n i k a : Nat), i + n = l.length → n < k → a < 128 → spec_checksum.l0 k (B l) (a : Int) (i : Int) = some ((xorL a (l.drop i) : Nat) : Int) := fun n => by
    induction n with
    | zero =>
      intro i k a h hk ha
      obtain ⟨k, rfl⟩ : ∃ m, k = m + 1 := ⟨k - 1, by omega⟩
      simp only [spec_checksum.l0]
      rw [B_size, if_neg (by omega), List.drop_eq_nil_of_le (by omega)]
      rfl
    | succ n ih =>
      intro i k a hi hk ha
      obtain ⟨k, rfl⟩ : ∃ m, k = m + 1 := ⟨k - 1, by omega⟩
      have hc := (okc_iff _).1 (List.all_eq_true.1 h (l[i]'(by omega)) (List.getElem_mem _))
      simp only [spec_checksum.l0]
      rw [B_size, if_pos (by omega), if_pos (by omega), bt_B l i (by omega), drop_cons (l := l) (i := i) (by omega), w64 (x := ((l[i]'(by omega)).toNat : Int)) (by omega) (by omega), xor64 a _ ha (by omega), w64 (by omega) (by omega)]
      exact ih (i + 1) k _ (by omega) (by omega) (Nat.xor_lt_two_pow (n := 7) ha (by omega))
  have := main l.length 0 k 0 (by omega) hk (by omega)
  rw [List.drop_zero] at this
  exact this
theorem hex_s (n : Nat) (h : n < 16) : spec_hexDigit.f (n : Int) = some (B ((hexL.drop n).take 1)) := by
  have hH : (⟨#[48, 49, 50, 51, 52, 53, 54, 55, 56, 57, 65, 66, 67, 68, 69, 70]⟩ : ByteArray) = B hexL := rfl
  unfold spec_hexDigit.f
  rw [if_pos (by omega), w64 (x := (n : Int) + 1) (by omega) (by omega), if_pos (by omega), if_pos (by omega), hH, B_ext, show ((n : Int) + 1).toNat - (n : Int).toNat = 1 by omega, Int.toNat_natCast]
theorem frameBody_s {k : Nat} (l : List UInt8) (hl : l.length ≤ 4611686018427387904) (hk : l.length < k) : spec_FrameBody.f k (B l) = some (B (if okBody l = true then frame l else [])) := by
  unfold spec_FrameBody.f
  rw [isBody_s l hl hk, Option.bind_some]
  by_cases h : okBody l = true
  rotate_left
  · rw [if_neg h, if_neg h]
    rfl
  have h' := h
  unfold okBody at h'
  rw [Bool.and_eq_true, decide_eq_true_eq] at h'
  have hx := xorL_lt l 0 (by omega) h'.1
  rw [if_pos h, if_pos h, checksum_s l h'.1 h'.2.2 hk, Option.bind_some, td (by omega), tm (by omega)]
  have e16 : ((xorL 0 l : Nat) : Int) / 16 = ((xorL 0 l / 16 : Nat) : Int) := by omega
  have em : ((xorL 0 l : Nat) : Int) % 16 = ((xorL 0 l % 16 : Nat) : Int) := by omega
  rw [e16, em, w64 (x := ((xorL 0 l / 16 : Nat) : Int)) (by omega) (by omega), hex_s _ (by omega), hex_s _ (by omega)]
  have h36 : (⟨#[36]⟩ : ByteArray) = B [36] := rfl
  have h42 : (⟨#[42]⟩ : ByteArray) = B [42] := rfl
  simp only [h36, h42, B_app, B_size, Option.bind_some]
  have e : hexL.length = 16 := rfl
  simp only [List.length_append, List.length_take, List.length_drop, e, List.length_singleton]
  rw [if_pos (by omega), if_pos (by omega), if_pos (by omega), if_pos (by omega)]
  rfl
theorem pow10 {k : Nat} (hk : 20 ≤ k) : (100000000000000000000 : Int) ≤ 10 ^ k := by
  obtain ⟨j, rfl⟩ : ∃ j, k = 20 + j := ⟨k - 20, by omega⟩
  induction j with
  | zero => decide
  | succ j ih =>
    have := ih (by omega)
    rw [show 20 + (j + 1) = 20 + j + 1 by omega, Int.pow_succ]
    omega
/-- A digit. -/
def dg (n : Nat) : UInt8 := UInt8.ofNat (48 + n)
theorem dd1 {u : Nat} (h : u < 10) : Lib.decDigits u = [dg u] := by rw [Lib.decDigits, dif_pos h]; rfl
theorem dd_step {u : Nat} (h : ¬ u < 10) : Lib.decDigits u = Lib.decDigits (u / 10) ++ [dg (u % 10)] := by conv => lhs; rw [Lib.decDigits, dif_neg h]
                                                                                                           rfl
theorem dd2 {u : Nat} (h0 : 10 ≤ u) (h : u < 100) : Lib.decDigits u = [dg (u / 10), dg (u % 10)] := by rw [dd_step (by omega), dd1 (by omega)]; rfl
theorem dd4 {u : Nat} (h0 : 1000 ≤ u) (h : u < 10000) : Lib.decDigits u = [dg (u / 1000), dg (u / 100 % 10), dg (u / 10 % 10), dg (u % 10)] := by
  rw [dd_step (by omega), dd_step (u := u / 10) (by omega), dd2 (u := u / 10 / 10) (by omega) (by omega)]
  rw [show u / 10 / 10 / 10 = u / 1000 by omega, show u / 10 / 10 % 10 = u / 100 % 10 by omega]
  rfl
def two (n : Nat) : List UInt8 := [dg (n / 10), dg (n % 10)]
theorem itoa_i (n : Int) (h0 : 0 ≤ n) (h1 : n ≤ 9223372036854775807) : strconv_Itoa.f n = some (B (Lib.decDigits n.toNat)) := by
  unfold strconv_Itoa.f
  rw [if_pos (by omega)]
  unfold Lib.itoa
  rw [if_neg (by omega)]
  rfl
theorem two_i (n : Int) (h0 : 0 ≤ n) (h1 : n < 100) : impl_twoDigits.f n = some (B (two n.toNat)) := by
  unfold impl_twoDigits.f
  rw [td h0, tm h0, w64 (by omega) (by omega), itoa_i _ (by omega) (by omega), Option.bind_some, itoa_i _ (by omega) (by omega), Option.bind_some, dd1 (by omega), dd1 (by omega), B_size, B_size, B_app, if_pos (by simp)]
  rw [show (n / 10).toNat = n.toNat / 10 by omega, show (n % 10).toNat = n.toNat % 10 by omega]
  rfl
theorem dd_len (u : Nat) : ∀ k, u < 10 ^ k → 1 ≤ k → (Lib.decDigits u).length ≤ k := by
  intro k
  induction k generalizing u with
  | zero => intro _ h; omega
  | succ k ih =>
    intro hu _
    by_cases h : u < 10
    · rw [dd1 h]; simp
    · rw [dd_step h, List.length_append, List.length_singleton]
      have hk : 1 ≤ k := by
        by_cases hk : k = 0
        · subst hk; simp at hu; omega
        · omega
      have := ih (u / 10) (by rw [Nat.pow_succ] at hu; omega) hk
      omega
/-- The time of the day, six digits. -/
def clockL (s : Nat) : List UInt8 := if s < 86400 then two (s / 3600) ++ two (s / 60 % 60) ++ two (s % 60) else [50, 51, 53, 57, 54, 48]
/-- The text of a fix. -/
def bodyL (y m d s n : Int) : List UInt8 := [70, 73, 88, 44] ++ clockL s.toNat ++ [44] ++ two d.toNat ++ [44] ++ two m.toNat ++ [44] ++ Lib.decDigits y.toNat ++ [44] ++ Lib.decDigits n.toNat
theorem two_len (n : Nat) : (two n).length = 2 := rfl
theorem clock_len (s : Nat) : (clockL s).length = 6 := by unfold clockL; split <;> rfl
theorem dg_toNat {n : Nat} (h : n < 10) : (dg n).toNat = 48 + n := u8n _ (by omega)
theorem dg_okc {n : Nat} (h : n < 10) : okc (dg n) = true := (okc_iff _).2 (by rw [dg_toNat h]; omega)
theorem seen_len {n : Nat} (h : n ≤ 32) : (Lib.decDigits n).length = 1 ∨ (Lib.decDigits n).length = 2 := by
  by_cases h1 : n < 10
  · rw [dd1 h1]; left; rfl
  · rw [dd2 (by omega) (by omega)]; right; rfl
theorem year_len {y : Nat} (h0 : 1980 ≤ y) (h : y ≤ 2099) : (Lib.decDigits y).length = 4 := by rw [dd4 (by omega) (by omega)]; rfl
theorem dd_all (P : UInt8 → Bool) (hP : ∀ n, n < 10 → P (dg n) = true) (u : Nat) : (Lib.decDigits u).all P = true := by
  induction u using Nat.strongRecOn with
  | _ u ih =>
    by_cases h : u < 10
    · rw [dd1 h, List.all_cons, hP u h]; rfl
    · rw [dd_step h, List.all_append, ih (u / 10) (by omega), List.all_cons, hP _ (by omega)]; rfl
theorem two_all (P : UInt8 → Bool) (hP : ∀ n, n < 10 → P (dg n) = true) {n : Nat} (h : n < 100) : (two n).all P = true := by
  unfold two
  rw [List.all_cons, List.all_cons, hP _ (by omega), hP _ (by omega)]; rfl
theorem clock_all (P : UInt8 → Bool) (hP : ∀ n, n < 10 → P (dg n) = true) {s : Nat} (h : s ≤ 86400) : (clockL s).all P = true := by
  unfold clockL
  split
  · rw [List.all_append, List.all_append, two_all P hP (by omega), two_all P hP (by omega), two_all P hP (by omega)]; rfl
  · have e : ([50, 51, 53, 57, 54, 48] : List UInt8) = [dg 2, dg 3, dg 5, dg 9, dg 6, dg 0] := rfl
    rw [e]
    simp only [List.all_cons, hP 2 (by omega), hP 3 (by omega), hP 5 (by omega), hP 9 (by omega), hP 6 (by omega), hP 0 (by omega), List.all_nil, Bool.and_self]
theorem mdays31 (y m : Int) : mdays y m ≤ 31 := (mdays_in y m).2
theorem body_ok {y m d s n : Int} (h : okFix y m d s n) : okBody (bodyL y m d s n) = true ∧ 23 ≤ (bodyL y m d s n).length ∧ (bodyL y m d s n).length ≤ 24 := by
  obtain ⟨⟨hy, hm, hd1, hd2⟩, hs, hn⟩ := h
  have := mdays31 y m
  have hl : (bodyL y m d s n).length = 22 + (Lib.decDigits n.toNat).length := by
    unfold bodyL
    simp only [List.length_append, clock_len, two_len, year_len (y := y.toNat) (by omega) (by omega), List.length_cons, List.length_nil]
  have hsl := seen_len (n := n.toNat) (by omega)
  refine ⟨?_, by omega, by omega⟩
  unfold okBody
  rw [decide_eq_true (by omega), Bool.and_true]
  unfold bodyL
  simp only [List.all_append, clock_all okc (fun _ => dg_okc) (s := s.toNat) (by omega), two_all okc (fun _ => dg_okc) (n := d.toNat) (by omega), two_all okc (fun _ => dg_okc) (n := m.toNat) (by omega), dd_all okc (fun _ => dg_okc)]
  decide
theorem format_i {k : Nat} (hk : 2001 ≤ k) (y m d s n : Int) : impl_FormatFix.f k y m d s n = some (B (if okFix y m d s n then frame (bodyL y m d s n) else [])) := by
  obtain ⟨k, rfl⟩ : ∃ j, k = j + 1 := ⟨k - 1, by omega⟩
  unfold impl_FormatFix.f
  rw [validFix_i (by omega), Option.bind_some]
  by_cases h : okFix y m d s n
  rotate_left
  · rw [if_neg (by rw [decide_eq_true_eq]; exact h), if_neg h]
    rfl
  obtain ⟨hok, hl1, hl2⟩ := body_ok h
  obtain ⟨⟨hy, hm, hd1, hd2⟩, hs, hn⟩ := id h
  have := mdays31 y m
  have hF : (⟨#[70, 73, 88, 44]⟩ : ByteArray) = B [70, 73, 88, 44] := rfl
  have hC : (⟨#[44]⟩ : ByteArray) = B [44] := rfl
  have j0 : impl_FormatFix.j0 (k + 1) (B (clockL s.toNat)) y m d s n = some (B (frame (bodyL y m d s n))) := by
    simp only [impl_FormatFix.j0]
    rw [hF, hC, two_i d (by omega) (by omega), two_i m (by omega) (by omega), itoa_i y (by omega) (by omega), itoa_i n (by omega) (by omega)]
    have hsl := seen_len (n := n.toNat) (by omega)
    simp only [Option.bind_some, B_app, B_size, List.length_append, clock_len, two_len, year_len (y := y.toNat) (by omega) (by omega), List.length_cons, List.length_nil]
    rw [if_pos (by omega), if_pos (by omega), if_pos (by omega), if_pos (by omega), if_pos (by omega), if_pos (by omega), if_pos (by omega), if_pos (by omega), if_pos (by omega)]
    have hfb := frameBody_i (k := k) (bodyL y m d s n) (by omega)
    rw [if_pos hok] at hfb
    unfold bodyL at hfb ⊢
    rw [hfb, Option.bind_some]
  rw [if_pos (decide_eq_true h), if_pos h]
  by_cases hs2 : s < 86400
  · rw [if_pos hs2, td hs.1, td hs.1, w64 (x := s / 3600) (by omega) (by omega), w64 (x := s / 60) (by omega) (by omega), tm (show 0 ≤ s / 60 by omega), tm hs.1, two_i _ (by omega) (by omega), two_i _ (by omega) (by omega), two_i _ (by omega) (by omega)]
    simp only [Option.bind_some, B_app, B_size, List.length_append, two_len]
    rw [if_pos (by omega), if_pos (by omega), show (s / 3600).toNat = s.toNat / 3600 by omega, show (s / 60 % 60).toNat = s.toNat / 60 % 60 by omega, show (s % 60).toNat = s.toNat % 60 by omega]
    have e : clockL s.toNat = two (s.toNat / 3600) ++ two (s.toNat / 60 % 60) ++ two (s.toNat % 60) := by unfold clockL; rw [if_pos (by omega)]
    rw [← e]
    exact j0
  · have e : clockL s.toNat = [50, 51, 53, 57, 54, 48] := by unfold clockL; rw [if_neg (by omega)]
    rw [e] at j0
    rw [if_neg hs2]
    exact j0
theorem decimal_s : ∀ (k : Nat) (n : Int), 0 ≤ n → n ≤ 9223372036854775807 → n < 10 ^ k → 1 ≤ k → spec_decimal.f k n = some (B (Lib.decDigits n.toNat)) := by
  intro k
  induction k with
  | zero => intro n _ _ _ h; omega
  | succ k ih =>
    intro n h0 h1 h2 _
    simp only [spec_decimal.f]
    by_cases h : n < 10
    · rw [if_pos h, w64 (by omega) (by omega), dd1 (by omega), sn]
      rw [show ((48 + n) % 256).toNat = 48 + n.toNat by omega]
      rfl
    · have hk : 1 ≤ k := by
        by_cases hk : k = 0
        · subst hk; simp at h2; omega
        · omega
      rw [if_neg h, td h0, tm h0, w64 (by omega) (by omega), w64 (by omega) (by omega), ih (n / 10) (by omega) (by omega) (by rw [Int.pow_succ] at h2; omega) hk, Option.bind_some, Option.bind_some, sn, B_size, B_size, B_app]
      have hl := dd_len (n / 10).toNat 19 (by rw [show (10 : Nat) ^ 19 = 10000000000000000000 by decide]; omega) (by omega)
      rw [if_pos (by simp; omega), dd_step (u := n.toNat) (by omega), show (n / 10).toNat = n.toNat / 10 by omega, show ((48 + n % 10) % 256).toNat = 48 + n.toNat % 10 by omega]
      rfl
theorem digits2_s {k : Nat} (hk : 20 ≤ k) (n : Int) (h0 : 0 ≤ n) (h1 : n < 100) : spec_digits.f k n 2 = some (B (two n.toNat)) := by
  unfold spec_digits.f
  have hp : n < 10 ^ k := by
    have := pow10 hk
    omega
  rw [decimal_s k n h0 (by omega) hp (by omega), Option.bind_some]
  obtain ⟨k, rfl⟩ : ∃ m, k = m + 2 := ⟨k - 2, by omega⟩
  by_cases h : n < 10
  · rw [dd1 (by omega)]
    simp only [spec_digits.l0]
    have h48 : (⟨#[48]⟩ : ByteArray) = B [48] := rfl
    rw [h48, B_app, B_size, if_pos (by simp), if_pos (by simp), B_size, if_neg (by simp)]
    unfold two
    rw [show n.toNat / 10 = 0 by omega, show n.toNat % 10 = n.toNat by omega]
    rfl
  · rw [dd2 (by omega) (by omega)]
    simp only [spec_digits.l0]
    rw [B_size, if_neg (by simp)]
    rfl
theorem digits4_s {k : Nat} (hk : 20 ≤ k) (n : Int) (h0 : 1000 ≤ n) (h1 : n < 10000) : spec_digits.f k n 4 = some (B (Lib.decDigits n.toNat)) := by
  unfold spec_digits.f
  have hp : n < 10 ^ k := by
    have := pow10 hk
    omega
  rw [decimal_s k n (by omega) (by omega) hp (by omega), Option.bind_some]
  obtain ⟨k, rfl⟩ : ∃ m, k = m + 2 := ⟨k - 2, by omega⟩
  rw [dd4 (by omega) (by omega)]
  simp only [spec_digits.l0]
  rw [B_size, if_neg (by simp)]
theorem formatB_s {k : Nat} (hk : 2000 ≤ k) {y m d s n : Int} (h : okFix y m d s n) : spec_formatFix.f k y m d s n = some (B (bodyL y m d s n)) := by
  obtain ⟨⟨hy, hm, hd1, hd2⟩, hs, hn⟩ := id h
  have := mdays31 y m
  have hF : (⟨#[70, 73, 88, 44]⟩ : ByteArray) = B [70, 73, 88, 44] := rfl
  have hC : (⟨#[44]⟩ : ByteArray) = B [44] := rfl
  have hp : n < 10 ^ k := by
    have := pow10 (k := k) (by omega)
    omega
  have hmn : 0 ≤ mn s 86399 ∧ mn s 86399 ≤ 86399 := by unfold mn; split <;> omega
  have hlast : 0 ≤ mn s 86399 % 60 + s - mn s 86399 ∧ mn s 86399 % 60 + s - mn s 86399 < 100 := by unfold mn; split <;> omega
  unfold spec_formatFix.f
  rw [td hmn.1, td hmn.1, w64 (x := mn s 86399 / 3600) (by omega) (by omega), w64 (x := mn s 86399 / 60) (by omega) (by omega), tm (show 0 ≤ mn s 86399 / 60 by omega), tm hmn.1, w64 (x := mn s 86399 % 60 + s) (by omega) (by omega), w64 (x := mn s 86399 % 60 + s - mn s 86399) (by omega) (by omega)]
  rw [digits2_s (by omega) _ (show 0 ≤ mn s 86399 / 3600 by omega) (by omega), digits2_s (by omega) _ (show 0 ≤ mn s 86399 / 60 % 60 by omega) (by omega), digits2_s (by omega) _ hlast.1 hlast.2, digits2_s (by omega) d (by omega) (by omega), digits2_s (by omega) m (by omega) (by omega), digits4_s (by omega) y (by omega) (by omega), decimal_s k n (by omega) (by omega) hp (by omega), hF, hC]
  have hsl := seen_len (n := n.toNat) (by omega)
  simp only [Option.bind_some, B_app, B_size, List.length_append, two_len, year_len (y := y.toNat) (by omega) (by omega), List.length_cons, List.length_nil]
  rw [if_pos (by omega), if_pos (by omega), if_pos (by omega), if_pos (by omega), if_pos (by omega), if_pos (by omega), if_pos (by omega), if_pos (by omega), if_pos (by omega), if_pos (by omega), if_pos (by omega)]
  have e : two (mn s 86399 / 3600).toNat ++ two (mn s 86399 / 60 % 60).toNat ++ two (mn s 86399 % 60 + s - mn s 86399).toNat = clockL s.toNat := by
    unfold clockL
    by_cases hs2 : s < 86400
    · have em : mn s 86399 = s := by unfold mn; split <;> omega
      rw [if_pos (by omega), em, show s % 60 + s - s = s % 60 by omega, show (s / 3600).toNat = s.toNat / 3600 by omega, show (s / 60 % 60).toNat = s.toNat / 60 % 60 by omega, show (s % 60).toNat = s.toNat % 60 by omega]
    · obtain rfl : s = 86400 := by omega
      rfl
  rw [e]
  rfl
/-- The text of a sentence. -/
def midL (s : List UInt8) : List UInt8 := (s.drop 1).take (s.length - 4)
def readF (s : List UInt8) : ByteArray × Bool := if 4 ≤ s.length ∧ okBody (midL s) = true ∧ s = frame (midL s) then (B (midL s), true) else (B [], false)
theorem mid_frame {l : List UInt8} (h : okBody l = true) : midL (frame l) = l := by
  have hf := frame_len h
  unfold midL
  rw [hf, show l.length + 4 - 4 = l.length by omega]
  unfold frame
  simp
theorem readF_frame {l : List UInt8} (h : okBody l = true) : readF (frame l) = (B l, true) := by
  have hf := frame_len h
  unfold readF
  rw [mid_frame h, if_pos ⟨by omega, h, rfl⟩]
theorem readFrame_i {k : Nat} {s : List UInt8} (hl : s.length ≤ 1000000000000) (hk : s.length < k) : impl_ReadFrame.f k (B s) = some (readF s) := by
  unfold impl_ReadFrame.f readF
  rw [B_size]
  by_cases h4 : (s.length : Int) < 4
  · rw [if_pos h4, if_neg (by omega)]
    rfl
  have e : (B s).extract 1 ((s.length : Int) - 3).toNat = B (midL s) := by
    rw [B_ext]
    unfold midL
    rw [show ((s.length : Int) - 3).toNat - 1 = s.length - 4 by omega]
  have hm : (midL s).length < k := by unfold midL; rw [List.length_take, List.length_drop]; omega
  rw [if_neg h4, w64 (x := (s.length : Int) - 3) (by omega) (by omega), if_pos (by omega), if_pos (by omega), e, frameBody_i _ hm, Option.bind_some, B_list, B_list]
  by_cases hb : okBody (midL s) = true
  · rw [if_pos hb]
    by_cases hs : s = frame (midL s)
    · rw [if_pos hs, if_pos ⟨by omega, hb, hs⟩]
    · rw [if_neg hs, if_neg (fun h => hs h.2.2)]
      rfl
  · rw [if_neg hb, if_neg (show ¬ s = [] from fun e => by rw [e] at h4; simp at h4), if_neg (fun h => hb h.2.1)]
    rfl
/-- The words between a byte. -/
def splc (c : UInt8) (l : List UInt8) : List (List UInt8) := Lib.split l [c]
def freec (c : UInt8) (l : List UInt8) : Prop := ∀ x ∈ l, x ≠ c
theorem index_free {c : UInt8} {a : List UInt8} (h : freec c a) : Lib.index a [c] = -1 := by
  induction a with
  | nil => rfl
  | cons x xs ih =>
    have hx := h x (by simp)
    rw [Lib.index, ih (fun y hy => h y (by simp [hy])), if_neg (by simp [List.isPrefixOf]; exact fun e => hx e.symm)]
    rfl
theorem index_at {c : UInt8} {a : List UInt8} (h : freec c a) (r : List UInt8) : Lib.index (a ++ c :: r) [c] = (a.length : Int) := by
  induction a with
  | nil => simp [Lib.index, List.isPrefixOf]
  | cons x xs ih =>
    have hx := h x (by simp)
    rw [List.cons_append, Lib.index, ih (fun y hy => h y (by simp [hy])), if_neg (by simp [List.isPrefixOf]; exact fun e => hx e.symm), if_neg (by simp)]
    simp
theorem spl_free {c : UInt8} {a : List UInt8} (h : freec c a) : splc c a = [a] := by
  unfold splc Lib.split
  rw [Lib.count_miss (index_free h)]
  rfl
theorem spl_at {c : UInt8} {a : List UInt8} (h : freec c a) (r : List UInt8) : splc c (a ++ c :: r) = a :: splc c r := by
  have hi := index_at h r
  unfold splc Lib.split
  rw [Lib.count_hit (by simp) hi]
  have e : (a ++ c :: r).drop (a.length + 1) = r := by simp
  simp only [List.length_singleton]
  rw [e, Nat.add_comm, Lib.splitK, hi, if_neg (by simp)]
  simp only [Int.toNat_natCast, List.length_singleton]
  rw [e]
  simp
theorem free_or (c : UInt8) (l : List UInt8) : freec c l ∨ ∃ a r, freec c a ∧ l = a ++ c :: r := by
  induction l with
  | nil => left; intro x hx; simp at hx
  | cons d l ih =>
    by_cases hc : d = c
    · right; exact ⟨[], l, by intro x hx; simp at hx, by rw [hc]; rfl⟩
    · rcases ih with h | ⟨a, r, h, e⟩
      · left
        intro x hx
        rcases List.mem_cons.1 hx with rfl | hx
        · exact hc
        · exact h x hx
      · right
        refine ⟨d :: a, r, ?_, by rw [e]; rfl⟩
        intro x hx
        rcases List.mem_cons.1 hx with rfl | hx
        · exact hc
        · exact h x hx
theorem spl_len (c : UInt8) : ∀ (n : Nat) (l : List UInt8), l.length ≤ n → ∀ x ∈ splc c l, x.length ≤ l.length := by
  intro n
  induction n with
  | zero =>
    intro l hl x hx
    have : l = [] := List.eq_nil_of_length_eq_zero (by omega)
    subst this
    rw [spl_free (by intro x hx; simp at hx)] at hx
    simp at hx
    subst hx
    simp
  | succ n ih =>
    intro l hl x hx
    rcases free_or c l with h | ⟨a, r, h, e⟩
    · rw [spl_free h] at hx
      simp at hx
      subst hx
      omega
    · rw [e, spl_at h] at hx
      rw [e] at hl ⊢
      simp only [List.length_append, List.length_cons] at hl ⊢
      rcases List.mem_cons.1 hx with rfl | hx
      · omega
      · have := ih r (by omega) x hx
        omega
theorem isD_dg {n : Nat} (h : n < 10) : isD (dg n) = true := by unfold isD; rw [dg_toNat h]; exact decide_eq_true (by omega)
theorem free_d {l : List UInt8} (h : l.all isD = true) : freec 44 l := by
  intro x hx e
  have := List.all_eq_true.1 h x hx
  rw [e] at this
  exact absurd this (by decide)
theorem spl_body {y m d s n : Int} (h : okFix y m d s n) : splc 44 (bodyL y m d s n) = [[70, 73, 88], clockL s.toNat, two d.toNat, two m.toNat, Lib.decDigits y.toNat, Lib.decDigits n.toNat] := by
  obtain ⟨⟨hy, hm, hd1, hd2⟩, hs, hn⟩ := id h
  have := mdays31 y m
  have e : bodyL y m d s n = [70, 73, 88] ++ 44 :: (clockL s.toNat ++ 44 :: (two d.toNat ++ 44 :: (two m.toNat ++ 44 :: (Lib.decDigits y.toNat ++ 44 :: Lib.decDigits n.toNat)))) := by
    unfold bodyL
    simp
  rw [e, spl_at (by intro x hx; simp at hx; rcases hx with rfl | rfl | rfl <;> decide), spl_at (free_d (clock_all isD (fun _ => isD_dg) (by omega))), spl_at (free_d (two_all isD (fun _ => isD_dg) (by omega))), spl_at (free_d (two_all isD (fun _ => isD_dg) (by omega))), spl_at (free_d (dd_all isD (fun _ => isD_dg) _)), spl_free (free_d (dd_all isD (fun _ => isD_dg) _))]
theorem val_two {n : Nat} (h : n < 100) : valL 0 (two n) = n := by
  unfold valL two
  simp only [List.foldl_cons, List.foldl_nil]
  rw [dg_toNat (by omega), dg_toNat (by omega)]
  omega
theorem val_year {n : Nat} (h0 : 1000 ≤ n) (h : n < 10000) : valL 0 (Lib.decDigits n) = n := by
  rw [dd4 h0 h]
  unfold valL
  simp only [List.foldl_cons, List.foldl_nil]
  rw [dg_toNat (by omega), dg_toNat (by omega), dg_toNat (by omega), dg_toNat (by omega)]
  omega
theorem val_seen {n : Nat} (h : n < 100) : valL 0 (Lib.decDigits n) = n := by
  by_cases h1 : n < 10
  · rw [dd1 h1]
    unfold valL
    simp only [List.foldl_cons, List.foldl_nil]
    rw [dg_toNat h1]
    omega
  · rw [dd2 (by omega) h]
    exact val_two h
theorem val_clock {s : Nat} (h : s < 86400) : valL 0 (clockL s) = s / 3600 * 10000 + s / 60 % 60 * 100 + s % 60 := by
  unfold clockL
  rw [if_pos h]
  unfold valL two
  simp only [List.cons_append, List.nil_append, List.foldl_cons, List.foldl_nil]
  rw [dg_toNat (by omega), dg_toNat (by omega), dg_toNat (by omega), dg_toNat (by omega), dg_toNat (by omega), dg_toNat (by omega)]
  omega
theorem words_B (c : UInt8) (l : List UInt8) : wordsOf (B l) (⟨#[c]⟩ : ByteArray) = (splc c l).map B := by
  have h := Lib.splitB_data (⟨#[c]⟩ : ByteArray) 0 (Lib.countB (B l) (⟨#[c]⟩ : ByteArray)) (B l)
  have e : (B l).data.toList = l := by simp [B]
  have e2 : (⟨#[c]⟩ : ByteArray).data.toList = [c] := rfl
  have hs : (wordsOf (B l) (⟨#[c]⟩ : ByteArray)).map (·.data.toList) = splc c l := by
    unfold wordsOf splc Lib.split
    rw [h, e, e2]
    show Lib.splitK [c] 0 (Lib.count (B l).data.toList (⟨#[c]⟩ : ByteArray).data.toList) l = _
    rw [e, e2]
  rw [← hs, List.map_map]
  conv => lhs; rw [← List.map_id (wordsOf (B l) (⟨#[c]⟩ : ByteArray))]
  exact List.map_congr_left (fun x _ => B_of x)
theorem puint : ∀ (l : List UInt8) (a : Nat), l.all isD = true → (a + 1) * 10 ^ l.length ≤ 1000000000000 → Lib.parseUint10 a l = .ok (valL a l) := by
  intro l
  induction l with
  | nil => intro a _ _; rfl
  | cons c r ih =>
    intro a hd hb
    rw [List.all_cons, Bool.and_eq_true] at hd
    have hc : 48 ≤ c.toNat ∧ c.toNat ≤ 57 := by simpa [isD] using hd.1
    rw [List.length_cons, Nat.pow_succ] at hb
    have hp : 0 < 10 ^ r.length := Nat.pow_pos (by omega)
    have h1 : (a * 10 + (c.toNat - 48) + 1) * 10 ^ r.length ≤ 1000000000000 := by
      have := Nat.mul_le_mul_right (10 ^ r.length) (show a * 10 + (c.toNat - 48) + 1 ≤ (a + 1) * 10 by omega)
      rw [Nat.mul_comm (10 ^ r.length) 10, ← Nat.mul_assoc] at hb
      omega
    have h2 : a * 10 + (c.toNat - 48) + 1 ≤ (a * 10 + (c.toNat - 48) + 1) * 10 ^ r.length := Nat.le_mul_of_pos_right _ hp
    unfold Lib.parseUint10
    rw [if_pos hc, if_neg (by omega), if_neg (by omega), ih _ hd.2 h1]
    unfold valL
    rw [List.foldl_cons, Nat.mul_comm a 10]
theorem atoi_d {l : List UInt8} (h : l.all isD = true) (h1 : l ≠ []) (h2 : l.length ≤ 10) : atoiN (B l) = some ((valL 0 l : Nat) : Int) := by
  obtain ⟨c, r, rfl⟩ : ∃ c r, l = c :: r := List.exists_cons_of_ne_nil h1
  have hv := Lib.parseUint10_lt (c :: r) 0 (valL 0 (c :: r)) (by omega)
  have hp := puint (c :: r) 0 h (by
    have := Nat.pow_le_pow_right (n := 10) (by omega) h2
    omega)
  rw [List.all_cons, Bool.and_eq_true] at h
  have hc : 48 ≤ c.toNat ∧ c.toNat ≤ 57 := by simpa [isD] using h.1
  have hlt : valL 0 (c :: r) < 10 ^ (c :: r).length := by
    have : ∀ (l : List UInt8) (a : Nat), l.all isD = true → valL a l < (a + 1) * 10 ^ l.length := by
      intro l
      induction l with
      | nil => intro a _; unfold valL; simp
      | cons c r ih =>
        intro a hd
        rw [List.all_cons, Bool.and_eq_true] at hd
        have hc : 48 ≤ c.toNat ∧ c.toNat ≤ 57 := by simpa [isD] using hd.1
        have h := ih (10 * a + (c.toNat - 48)) hd.2
        have := Nat.mul_le_mul_right (10 ^ r.length) (show 10 * a + (c.toNat - 48) + 1 ≤ (a + 1) * 10 by omega)
        rw [List.length_cons, Nat.pow_succ, Nat.mul_comm (10 ^ r.length) 10, ← Nat.mul_assoc]
        have e : valL a (c :: r) = valL (10 * a + (c.toNat - 48)) r := rfl
        omega
    have := this (c :: r) 0 (by rw [List.all_cons, Bool.and_eq_true]; exact h)
    omega
  have hle := Nat.pow_le_pow_right (n := 10) (by omega) h2
  have e : (B (c :: r)).data.toList = c :: r := by simp [B]
  unfold atoiN Lib.atoiAll
  rw [e]
  simp only []
  rw [if_neg (by omega)]
  unfold Lib.parseMag
  rw [if_neg (by simp), hp]
  simp only []
  rw [if_neg (by omega), if_neg (by omega), if_neg (by omega)]
theorem sec_i {s : Int} (h : 0 ≤ s ∧ s ≤ 86400) : secOf ((valL 0 (clockL s.toNat) : Nat) : Int) = s := by
  by_cases hs : s < 86400
  · rw [val_clock (by omega)]
    unfold secOf
    have e : ((s.toNat / 3600 * 10000 + s.toNat / 60 % 60 * 100 + s.toNat % 60 : Nat) : Int) = s / 3600 * 10000 + s / 60 % 60 * 100 + s % 60 := by omega
    rw [e]
    have h0 : 0 ≤ s / 3600 * 10000 + s / 60 % 60 * 100 + s % 60 := by omega
    rw [td h0, td h0, tm h0, w64 (x := (s / 3600 * 10000 + s / 60 % 60 * 100 + s % 60) / 10000) (by omega) (by omega), w64 (x := (s / 3600 * 10000 + s / 60 % 60 * 100 + s % 60) / 100) (by omega) (by omega), tm (by omega)]
    have e1 : (s / 3600 * 10000 + s / 60 % 60 * 100 + s % 60) / 10000 = s / 3600 := by omega
    have e2 : (s / 3600 * 10000 + s / 60 % 60 * 100 + s % 60) / 100 % 100 = s / 60 % 60 := by omega
    have e3 : (s / 3600 * 10000 + s / 60 % 60 * 100 + s % 60) % 100 = s % 60 := by omega
    rw [e1, e2, e3, w64 (x := s / 3600 * 3600) (by omega) (by omega), w64 (x := s / 60 % 60 * 60) (by omega) (by omega), w64 (x := s / 3600 * 3600 + s / 60 % 60 * 60) (by omega) (by omega), w64 (by omega) (by omega)]
    omega
  · obtain rfl : s = 86400 := by omega
    have e : valL 0 (clockL (86400 : Int).toNat) = 235960 := rfl
    rw [e]
    unfold secOf
    rw [show Int.tdiv ((235960 : Nat) : Int) 10000 = 23 from rfl, show Int.tdiv ((235960 : Nat) : Int) 100 = 2359 from rfl, w64 (x := 23) (by omega) (by omega), w64 (x := 2359) (by omega) (by omega), show Int.tmod 2359 100 = 59 from rfl, show Int.tmod ((235960 : Nat) : Int) 100 = 60 from rfl, w64 (x := 23 * 3600) (by omega) (by omega), w64 (x := 59 * 60) (by omega) (by omega), w64 (x := 23 * 3600 + 59 * 60) (by omega) (by omega), w64 (by omega) (by omega)]
    rfl
theorem guard_i (l : List UInt8) (h : l.length ≤ 40) : (B l).size < 4294967281 ∧ ∀ x ∈ wordsOf (B l) (⟨#[44]⟩ : ByteArray), x.size ≤ 281474976710656 := by
  rw [B_size, words_B]
  refine ⟨by omega, fun x hx => ?_⟩
  obtain ⟨y, hy, rfl⟩ := List.mem_map.1 hx
  have := spl_len 44 l.length l (Nat.le_refl _) y hy
  rw [B_size]
  omega
theorem parse_frame {k : Nat} (hk : 2001 ≤ k) {y m d s n : Int} (h : okFix y m d s n) : impl_ParseFix.f k (B (frame (bodyL y m d s n))) = some (y, m, d, s, n, true) := by
  obtain ⟨hok, hl1, hl2⟩ := body_ok h
  have hf := frame_len hok
  obtain ⟨⟨hy, hm, hd1, hd2⟩, hs, hn⟩ := id h
  have := mdays31 y m
  have hsl := seen_len (n := n.toNat) (by omega)
  have hne : ∀ {l : List UInt8}, 1 ≤ l.length → l ≠ [] := fun hl e => by rw [e] at hl; simp at hl
  have hyl := year_len (y := y.toNat) (by omega) (by omega)
  unfold impl_ParseFix.f
  rw [readFrame_i (by omega) (by omega), readF_frame hok, Option.bind_some]
  simp only []
  rw [if_pos (guard_i _ (by omega)), if_pos trivial, words_B, spl_body h]
  simp only [List.map_cons, List.map_nil, impl_ParseFix.w]
  rw [atoi_d (l := clockL s.toNat) (clock_all isD (fun _ => isD_dg) (by omega)) (hne (by rw [clock_len]; omega)) (by rw [clock_len]; omega),
    atoi_d (l := two d.toNat) (two_all isD (fun _ => isD_dg) (by omega)) (hne (by rw [two_len]; omega)) (by rw [two_len]; omega),
    atoi_d (l := two m.toNat) (two_all isD (fun _ => isD_dg) (by omega)) (hne (by rw [two_len]; omega)) (by rw [two_len]; omega),
    atoi_d (l := Lib.decDigits y.toNat) (dd_all isD (fun _ => isD_dg) _) (hne (by omega)) (by omega),
    atoi_d (l := Lib.decDigits n.toNat) (dd_all isD (fun _ => isD_dg) _) (hne (by omega)) (by omega)]
  simp only [impl_ParseFix.g]
  rw [sec_i hs, val_two (by omega), val_two (by omega), val_year (by omega) (by omega), val_seen (by omega), show ((d.toNat : Nat) : Int) = d by omega, show ((m.toNat : Nat) : Int) = m by omega, show ((y.toNat : Nat) : Int) = y by omega, show ((n.toNat : Nat) : Int) = n by omega, format_i (by omega), if_pos h, Option.bind_some, if_pos rfl]
theorem parse_no {k : Nat} (hk : 2001 ≤ k) {t : List UInt8} (hl : t.length ≤ 1000000000000) (hk2 : t.length < k) (h : ¬ ∃ y m d s n, okFix y m d s n ∧ t = frame (bodyL y m d s n)) : impl_ParseFix.f k (B t) = some (0, 0, 0, 0, 0, false) := by
  unfold impl_ParseFix.f
  rw [readFrame_i hl hk2, Option.bind_some]
  unfold readF
  by_cases hc : 4 ≤ t.length ∧ okBody (midL t) = true ∧ t = frame (midL t)
  rotate_left
  · rw [if_neg hc]
    simp only []
    rw [if_pos (guard_i [] (by simp)), if_neg (by simp)]
    rfl
  have hm : (midL t).length ≤ 40 := by
    have := hc.2.1
    unfold okBody at this
    rw [Bool.and_eq_true, decide_eq_true_eq] at this
    exact this.2.2
  have hg : ∀ n0 n1 n2 n3 n4, impl_ParseFix.g k (B t) n0 n1 n2 n3 n4 = impl_ParseFix.z := by
    intro n0 n1 n2 n3 n4
    unfold impl_ParseFix.g
    rw [format_i hk, Option.bind_some, B_list, B_list]
    by_cases ho : okFix n3 n2 n1 (secOf n0) n4
    · rw [if_pos ho, if_neg (fun e => h ⟨_, _, _, _, _, ho, e.symm⟩)]
    · rw [if_neg ho, if_neg (fun e => by have := hc.1; rw [← e] at this; simp at this)]
  rw [if_pos hc]
  simp only []
  rw [if_pos (guard_i _ hm), if_pos trivial]
  unfold impl_ParseFix.w
  split
  · split
    · rw [hg]; rfl
    · rfl
  · rfl
theorem readFrame_s {k : Nat} {s : List UInt8} (hl : s.length ≤ 1000000000000) (hk : s.length < k) : spec_ReadFrame.f k (B s) = some (readF s) := by
  unfold spec_ReadFrame.f readF
  rw [B_size]
  by_cases h4 : (s.length : Int) < 5
  · rw [if_pos h4, if_neg (fun h => by
      have := h.2.1
      unfold okBody at this
      rw [Bool.and_eq_true, decide_eq_true_eq] at this
      have h1 := this.2.1
      unfold midL at h1
      rw [List.length_take, List.length_drop] at h1
      omega)]
    rfl
  have e : (B s).extract 1 ((s.length : Int) - 3).toNat = B (midL s) := by
    rw [B_ext]
    unfold midL
    rw [show ((s.length : Int) - 3).toNat - 1 = s.length - 4 by omega]
  have hm : (midL s).length ≤ s.length := by unfold midL; rw [List.length_take, List.length_drop]; omega
  rw [if_neg h4, w64 (x := (s.length : Int) - 3) (by omega) (by omega), if_pos (by omega), if_pos (by omega), e, isBody_s _ (by omega) (by omega), Option.bind_some]
  by_cases hb : okBody (midL s) = true
  · rw [if_pos hb, frameBody_s _ (by omega) (by omega), Option.bind_some, if_pos hb, B_list, B_list]
    by_cases hs : s = frame (midL s)
    · rw [if_pos hs.symm, if_pos ⟨by omega, hb, hs⟩]
    · rw [if_neg (fun e => hs e.symm), if_neg (fun h => hs h.2.2)]
      rfl
  · rw [if_neg hb, if_neg (fun h => hb h.2.1)]
    rfl
theorem splitAt_l (c0 : UInt8) : ∀ (r p a : List UInt8) (acc : List ByteArray) (k : Nat), freec c0 a → p.length + a.length + r.length ≤ 2000000 → acc.length + r.length ≤ 2000000 → r.length < k → spec_splitAt.l0 k (B (p ++ a ++ r)) (c0.toNat : Int) acc (p.length : Int) ((p.length : Int) + a.length) = some (acc ++ (splc c0 (a ++ r)).map B) := by
  intro r
  induction r with
  | nil =>
    intro p a acc k ha hl hacc hk
    obtain ⟨k, rfl⟩ : ∃ m, k = m + 1 := ⟨k - 1, by omega⟩
    simp only [List.length_nil] at hl hacc
    simp only [spec_splitAt.l0]
    rw [List.append_nil, List.append_nil, B_size, List.length_append, if_neg (by omega), if_pos (by omega), if_pos (by omega), if_pos (by omega), spl_free ha, B_ext, Int.toNat_natCast]
    congr 3
    simp
  | cons c r ih =>
    intro p a acc k ha hl hacc hk
    obtain ⟨k, rfl⟩ : ∃ m, k = m + 1 := ⟨k - 1, by omega⟩
    simp only [List.length_cons] at hl hacc hk
    have hb : bt (B (p ++ a ++ c :: r)) ((p.length : Int) + a.length) = (c.toNat : Int) := by
      have := bt_B (p ++ a ++ c :: r) (p.length + a.length) (by simp)
      rw [show ((p.length + a.length : Nat) : Int) = (p.length : Int) + a.length by omega] at this
      rw [this]
      simp
    simp only [spec_splitAt.l0]
    rw [hb, B_size, List.length_append, List.length_append, List.length_cons, if_pos (by omega), if_pos (by omega)]
    have hc8 : c.toNat < 256 := UInt8.toNat_lt _
    by_cases hc : c = c0
    · subst hc
      rw [if_pos rfl, if_pos (by omega), if_pos (by omega), if_pos (by omega), if_pos (by omega), w64 (x := (p.length : Int) + a.length + 1) (by omega) (by omega), B_ext]
      have e := ih (p ++ a ++ [c]) [] (acc ++ [B a]) k (by intro x hx; simp at hx) (by simp; omega) (by simp; omega) (by omega)
      simp only [List.append_nil, List.nil_append, List.length_append, List.length_singleton, List.length_nil, List.append_assoc, List.cons_append] at e
      rw [show (((p.length + (a.length + 1) : Nat) : Int)) = (p.length : Int) + a.length + 1 by omega, show ((p.length : Int) + a.length + 1 + ((0 : Nat) : Int)) = (p.length : Int) + a.length + 1 by omega] at e
      have e2 : List.take (((p.length : Int) + a.length).toNat - (p.length : Int).toNat) (List.drop (p.length : Int).toNat (p ++ a ++ c :: r)) = a := by
        rw [show ((p.length : Int) + a.length).toNat - (p.length : Int).toNat = a.length by omega, Int.toNat_natCast]
        simp
      rw [e2, spl_at ha, List.append_assoc, e]
      simp
    · have hn : ¬ (c.toNat : Int) = (c0.toNat : Int) := fun e => hc (UInt8.toNat_inj.1 (by omega))
      have e := ih p (a ++ [c]) acc k (by
        intro x hx
        rcases List.mem_append.1 hx with hx | hx
        · exact ha x hx
        · simp at hx; subst hx; exact hc) (by simp; omega) (by omega) (by omega)
      simp only [List.nil_append, List.length_append, List.length_singleton, List.append_assoc, List.cons_append] at e
      rw [show ((p.length : Int) + ((a.length + 1 : Nat) : Int)) = (p.length : Int) + a.length + 1 by omega] at e
      rw [if_neg hn, w64 (x := (p.length : Int) + a.length + 1) (by omega) (by omega), List.append_assoc, e]
theorem splitAt_g (c0 : UInt8) {k : Nat} {l : List UInt8} (hl : l.length ≤ 1048576) (hk : l.length < k) : spec_splitAt.f k (B l) (c0.toNat : Int) = some ((splc c0 l).map B) := by
  have := splitAt_l c0 l [] [] [] k (by intro x hx; simp at hx) (by simp; omega) (by simp; omega) (by omega)
  exact this
theorem splitAt_s {k : Nat} (hk : 50 ≤ k) {l : List UInt8} (hl : l.length ≤ 40) : spec_splitAt.f k (B l) 44 = some ((splc 44 l).map B) := splitAt_g 44 (by omega) (by omega)
theorem rd_val (l : List UInt8) (m : Int) (h1 : l ≠ []) (hm : (l.length : Int) ≤ m) (hd : l.all isD = true) : rdV (B l) m = ((valL 0 l : Nat) : Int) := by
  have e : (B l).data.toList = l := by simp [B]
  have hn : ¬ l.length = 0 := fun h => h1 (List.eq_nil_of_length_eq_zero h)
  unfold rdV
  rw [B_size, if_neg (by omega), e, if_pos hd]
theorem readFix_yes {k : Nat} (hk : 2001 ≤ k) {y m d s n : Int} (h : okFix y m d s n) : spec_readFix.f k (B (bodyL y m d s n)) = some (y, m, d, s, n, true) := by
  obtain ⟨hok, hl1, hl2⟩ := body_ok h
  obtain ⟨⟨hy, hm, hd1, hd2⟩, hs, hn⟩ := id h
  have := mdays31 y m
  have hsl := seen_len (n := n.toNat) (by omega)
  have hne : ∀ {l : List UInt8}, 1 ≤ l.length → l ≠ [] := fun hl e => by rw [e] at hl; simp at hl
  have hyl := year_len (y := y.toNat) (by omega) (by omega)
  obtain ⟨a, b, c, ha, hb, hc, e, hv⟩ : ∃ a b c : Nat, a < 100 ∧ b < 100 ∧ c < 100 ∧ clockL s.toNat = two a ++ two b ++ two c ∧ 3600 * a + 60 * b + c = s.toNat := by
    by_cases hs2 : s < 86400
    · exact ⟨s.toNat / 3600, s.toNat / 60 % 60, s.toNat % 60, by omega, by omega, by omega, by unfold clockL; rw [if_pos (by omega)], by omega⟩
    · obtain rfl : s = 86400 := by omega
      exact ⟨23, 59, 60, by omega, by omega, by omega, rfl, rfl⟩
  have hd2' : ∀ x, x < 100 → rdV (B (two x)) 2 = (x : Int) := fun x hx => by
    rw [rd_val (two x) 2 (hne (by rw [two_len]; omega)) (by rw [two_len]; omega) (two_all isD (fun _ => isD_dg) hx), val_two hx]
  have x1 : (B (two a ++ two b ++ two c)).extract 0 2 = B (two a) := by rw [B_ext]; rfl
  have x2 : (B (two a ++ two b ++ two c)).extract 2 4 = B (two b) := by rw [B_ext]; rfl
  have x3 : (B (two a ++ two b ++ two c)).extract 4 6 = B (two c) := by rw [B_ext]; rfl
  have xs : (B (two a ++ two b ++ two c)).size = 6 := by rw [B_size]; rfl
  have ey : rdV (B (Lib.decDigits y.toNat)) 4 = y := by
    rw [rd_val _ 4 (hne (by omega)) (by omega) (dd_all isD (fun _ => isD_dg) _), val_year (by omega) (by omega), show ((y.toNat : Nat) : Int) = y by omega]
  have en : rdV (B (Lib.decDigits n.toNat)) 2 = n := by
    rw [rd_val _ 2 (hne (by omega)) (by omega) (dd_all isD (fun _ => isD_dg) _), val_seen (by omega), show ((n.toNat : Nat) : Int) = n by omega]
  have ev : secS a b c = s := by
    unfold secS
    rw [w64 (x := 3600 * (a : Int)) (by omega) (by omega), w64 (x := 60 * (b : Int)) (by omega) (by omega), w64 (x := 3600 * (a : Int) + 60 * (b : Int)) (by omega) (by omega), w64 (by omega) (by omega)]
    omega
  unfold spec_readFix.f
  rw [splitAt_s (by omega) (by omega), Option.bind_some, spl_body h, e]
  show (if (B [70, 73, 88]).toList = [70, 73, 88] ∧ (B (two a ++ two b ++ two c)).size = 6 then _ else spec_readFix.z) = _
  rw [if_pos ⟨B_list _, xs⟩, x1, x2, x3, hd2' a ha, hd2' b hb, hd2' c hc, ey, hd2' _ (by omega), hd2' _ (by omega), en]
  unfold spec_readFix.t
  rw [if_neg (by omega), ev, show ((d.toNat : Nat) : Int) = d by omega, show ((m.toNat : Nat) : Int) = m by omega, validFix_s, Option.bind_some, if_pos (decide_eq_true h), formatB_s (by omega) h, Option.bind_some, if_pos rfl]
theorem readFix_no {k : Nat} (hk : 2001 ≤ k) {l : List UInt8} (hl : l.length ≤ 40) (h : ¬ ∃ y m d s n, okFix y m d s n ∧ l = bodyL y m d s n) : spec_readFix.f k (B l) = some (0, 0, 0, 0, 0, false) := by
  unfold spec_readFix.f
  rw [splitAt_s (by omega) hl, Option.bind_some]
  unfold spec_readFix.g
  split
  · split
    · unfold spec_readFix.t
      split
      · rfl
      rw [validFix_s, Option.bind_some]
      split
      next ho =>
        rw [decide_eq_true_eq] at ho
        rw [formatB_s (by omega) ho, Option.bind_some, B_list, B_list, if_neg (fun e => h ⟨_, _, _, _, _, ho, e.symm⟩)]
        rfl
      next => rfl
    · rfl
  · rfl
theorem parse_s {k : Nat} (hk : 2001 ≤ k) {t : List UInt8} (hl : t.length ≤ 1000000000000) (hk2 : t.length < k) : spec_ParseFix.f k (B t) = impl_ParseFix.f k (B t) := by
  by_cases h : ∃ y m d s n, okFix y m d s n ∧ t = frame (bodyL y m d s n)
  · obtain ⟨y, m, d, s, n, ho, rfl⟩ := h
    obtain ⟨hok, hl1, hl2⟩ := body_ok ho
    rw [parse_frame hk ho]
    unfold spec_ParseFix.f
    rw [readFrame_s hl hk2, readF_frame hok, Option.bind_some]
    simp only []
    rw [if_pos trivial, readFix_yes hk ho]
    rfl
  · rw [parse_no hk hl hk2 h]
    unfold spec_ParseFix.f
    rw [readFrame_s hl hk2, Option.bind_some]
    unfold readF
    by_cases hc : 4 ≤ t.length ∧ okBody (midL t) = true ∧ t = frame (midL t)
    rotate_left
    · rw [if_neg hc]
      simp only []
      rw [if_neg (by simp)]
    have hm : (midL t).length ≤ 40 := by
      have := hc.2.1
      unfold okBody at this
      rw [Bool.and_eq_true, decide_eq_true_eq] at this
      exact this.2.2
    rw [if_pos hc]
    simp only []
    rw [if_pos trivial, readFix_no hk hm (fun ⟨y, m, d, s, n, ho, e⟩ => h ⟨y, m, d, s, n, ho, by rw [← e]; exact hc.2.2⟩)]
    rfl
theorem dayOfs_months (c : Int) (hc : 0 ≤ c ∧ c ≤ 31) (D : Int) (a : Nat) (ha : a < 120) (m : Nat) (hm : m < 12) (n : Nat) : ∀ (j k : Nat), j + n = m → n + 1 ≤ k →
    spec_dayOf.l1 k (c + S (12 * a + j)) ((j : Int) + 1) (1980 + (a : Int)) ((m : Int) + 1) D = some (c + S (12 * a + m)) := by
  induction n with
  | zero =>
    intro j k hj hk
    obtain ⟨k, rfl⟩ : ∃ n, k = n + 1 := ⟨k - 1, by omega⟩
    obtain rfl : j = m := by omega
    simp only [spec_dayOf.l1]
    rw [if_neg (by omega)]
  | succ n ih =>
    intro j k hj hk
    obtain ⟨k, rfl⟩ : ∃ n, k = n + 1 := ⟨k - 1, by omega⟩
    have e := S_at a j (by omega)
    have b := S_le (12 * a + j + 1)
    have b0 := S_nonneg (12 * a + j + 1)
    simp only [spec_dayOf.l1]
    rw [if_pos (by omega), monthDays_s _ _ (by omega) (by omega), Option.bind_some]
    rw [show c + S (12 * a + j) + mdays (1980 + (a : Int)) ((j : Int) + 1) = c + S (12 * a + j + 1) by rw [e]; omega]
    rw [w64 (by omega) (by omega), w64 (by omega) (by omega)]
    have := ih (j + 1) k (by omega) (by omega)
    rw [show ((j + 1 : Nat) : Int) = (j : Int) + 1 by omega, show 12 * a + (j + 1) = 12 * a + j + 1 by omega] at this
    exact this
theorem toInt_eq (b : Bool) : spec_toInt.f b = some (if b = true then 1 else 0) := by unfold spec_toInt.f; split <;> rfl
theorem S_year' (a : Nat) : S (12 * (a + 1)) = S (12 * a) + 365 + (if decide ((1980 + (a : Int)) % 4 = 0) = true then 1 else 0) := by
  rw [S_year]
  by_cases h : (1980 + (a : Int)) % 4 = 0
  · rw [if_pos h, if_pos (decide_eq_true h)]; omega
  · rw [if_neg h, if_neg (by simpa using h)]; omega
theorem dayOfs_years (c : Int) (hc : 0 ≤ c ∧ c ≤ 31) (D : Int) (b : Nat) (hb : b < 120) (m : Nat) (hm : m < 12) (n : Nat) : ∀ (a k : Nat), a + n = b → n + 20 ≤ k →
    spec_dayOf.l0 k (c + S (12 * a)) (1980 + (a : Int)) (1980 + (b : Int)) ((m : Int) + 1) D = some (c + S (12 * b + m)) := by
  induction n with
  | zero =>
    intro a k ha hk
    obtain ⟨k, rfl⟩ : ∃ n, k = n + 1 := ⟨k - 1, by omega⟩
    obtain rfl : a = b := by omega
    simp only [spec_dayOf.l0]
    rw [if_neg (by omega)]
    exact dayOfs_months c hc D a hb m hm m 0 k (by omega) (by omega)
  | succ n ih =>
    intro a k ha hk
    obtain ⟨k, rfl⟩ : ∃ n, k = n + 1 := ⟨k - 1, by omega⟩
    have e := S_year' a
    have b1 := S_le (12 * (a + 1))
    have b0 := S_nonneg (12 * a)
    simp only [spec_dayOf.l0]
    rw [if_pos (by omega), leap_s _ (by omega), Option.bind_some, toInt_eq, Option.bind_some, w64 (x := c + S (12 * a) + 365) (by omega) (by omega)]
    rw [show c + S (12 * a) + 365 + (if decide ((1980 + (a : Int)) % 4 = 0) = true then 1 else 0) = c + S (12 * (a + 1)) by rw [e]; omega]
    rw [w64 (by omega) (by omega), w64 (by omega) (by omega)]
    have := ih (a + 1) k (by omega) (by omega)
    rw [show (1980 : Int) + ((a + 1 : Nat) : Int) = 1980 + (a : Int) + 1 by omega] at this
    exact this
theorem dayOf_s {k : Nat} (hk : 2000 ≤ k) {y m d : Int} (h : okDate y m d) : spec_dayOf.f k y m d = some (dayNo y m d) := by
  have hm := mdays_in y m
  have h' := h
  unfold okDate at h'
  unfold spec_dayOf.f
  rw [w64 (by omega) (by omega)]
  have := dayOfs_years (d - 1) (by omega) d (y - 1980).toNat (by omega) (m - 1).toNat (by omega) (y - 1980).toNat 0 k (by omega) (by omega)
  rw [show (1980 : Int) + ((y - 1980).toNat : Int) = y by omega, show ((m - 1).toNat : Int) + 1 = m by omega] at this
  simpa [S, dayNo] using this
/-- The civil time of a fix. -/
def civ (y m d s n : Int) : Int := if okFix y m d s n ∧ 5 ≤ dayNo y m d then (dayNo y m d - 5) * 86400 + mn s 86399 else -1
theorem mn_le (s : Int) : mn s 86399 ≤ 86399 ∧ mn s 86399 ≤ s ∧ (s ≤ 86399 → mn s 86399 = s) ∧ (86399 ≤ s → mn s 86399 = 86399) := by unfold mn; split <;> omega
theorem civil_i {k : Nat} (hk : 2000 ≤ k) (y m d s n : Int) : impl_CivilFix.f k y m d s n = some (civ y m d s n) := by
  unfold impl_CivilFix.f civ
  rw [validFix_i hk, Option.bind_some]
  by_cases h : okFix y m d s n
  · have hd := dayNo_in h.1
    have hm := mn_le s
    have hs := h.2.1
    have h0 : 0 ≤ mn s 86399 := by unfold mn; split <;> omega
    rw [if_pos (decide_eq_true h), dayOf_i hk, if_pos h.1, Option.bind_some]
    by_cases h5 : dayNo y m d < 5
    · rw [if_pos h5, if_neg (by omega)]
    · rw [if_neg h5, Option.bind_some, if_pos ⟨h, by omega⟩, w64 (x := dayNo y m d - 5) (by omega) (by omega), w64 (x := (dayNo y m d - 5) * 86400) (by omega) (by omega), w64 (by omega) (by omega)]
  · rw [if_neg (by simpa using h), if_neg (fun g => h g.1)]
theorem civil_s {k : Nat} (hk : 2000 ≤ k) (y m d s n : Int) : spec_CivilFix.f k y m d s n = some (civ y m d s n) := by
  unfold spec_CivilFix.f civ
  rw [validFix_s, Option.bind_some]
  by_cases h : okFix y m d s n
  · have hd := dayNo_in h.1
    have hm := mn_le s
    have hs := h.2.1
    have h0 : 0 ≤ mn s 86399 := by unfold mn; split <;> omega
    rw [if_pos (decide_eq_true h), dayOf_s hk h.1, Option.bind_some]
    by_cases h5 : dayNo y m d < 5
    · rw [if_pos h5, if_neg (by omega)]
    · rw [if_neg h5, Option.bind_some, if_pos ⟨h, by omega⟩, w64 (x := dayNo y m d - 5) (by omega) (by omega), w64 (x := (dayNo y m d - 5) * 86400) (by omega) (by omega), w64 (by omega) (by omega)]
  · rw [if_neg (by simpa using h), if_neg (fun g => h g.1)]
theorem okDate_at (i : Nat) (hi : i < 1440) (D : Int) (h1 : S i ≤ D) (h2 : D < S (i + 1)) : okDate (1980 + (i / 12 : Nat)) ((i % 12 : Nat) + 1) (D - S i + 1) ∧ dayNo (1980 + (i / 12 : Nat)) ((i % 12 : Nat) + 1) (D - S i + 1) = D := by
  have e := S_succ i
  constructor
  · exact ⟨by omega, by omega, by omega, by omega⟩
  · unfold dayNo
    rw [show 12 * ((1980 : Int) + (i / 12 : Nat) - 1980).toNat + (((i % 12 : Nat) : Int) + 1 - 1).toNat = i by omega]
    omega
theorem dateOf_l (D : Int) (_h0 : 0 ≤ D) (n : Nat) : ∀ (i k : Nat), i + n ≤ 1440 → S i ≤ D → D < S (i + n) → n + 2 ≤ k →
    ∃ j, j < 1440 ∧ S j ≤ D ∧ D < S (j + 1) ∧ impl_DateOf.l0 k (D - S i) (1980 + (i / 12 : Nat)) ((i % 12 : Nat) + 1) 0 = some ((1980 : Int) + ((j / 12 : Nat) : Int), ((j % 12 : Nat) : Int) + 1, D - S j + 1) := by
  induction n with
  | zero => intro i k hi h1 h2 hk; rw [Nat.add_zero] at h2; omega
  | succ n ih =>
    intro i k hi h1 h2 hk
    obtain ⟨k, rfl⟩ : ∃ n, k = n + 1 := ⟨k - 1, by omega⟩
    have e := S_succ i
    have b := S_le i
    have b0 := S_nonneg i
    have hm := mdays_in (1980 + (i / 12 : Nat)) ((i % 12 : Nat) + 1)
    have bD : D < 100000 := by have := S_le (i + (n + 1)); omega
    have hstep : impl_DateOf.l0 (k + 1) (D - S i) (1980 + (i / 12 : Nat)) ((i % 12 : Nat) + 1) 0 = (if D - S i ≥ mdays (1980 + (i / 12 : Nat)) ((i % 12 : Nat) + 1) then (if (wrap64 (((i % 12 : Nat) : Int) + 1 + 1)) > 12 then (impl_DateOf.l0 k (wrap64 (D - S i - mdays (1980 + (i / 12 : Nat)) ((i % 12 : Nat) + 1))) (wrap64 (1980 + (i / 12 : Nat) + 1)) 1 0) else (impl_DateOf.l0 k (wrap64 (D - S i - mdays (1980 + (i / 12 : Nat)) ((i % 12 : Nat) + 1))) (1980 + (i / 12 : Nat)) (wrap64 (((i % 12 : Nat) : Int) + 1 + 1)) 0)) else some (1980 + ((i / 12 : Nat) : Int), ((i % 12 : Nat) : Int) + 1, wrap64 (D - S i + 1))) := by
      simp only [impl_DateOf.l0]
      rw [monthDays_i (by omega), if_pos (by omega), Option.bind_some, Option.bind_some]
    rw [hstep]
    clear hstep
    by_cases h : D < S (i + 1)
    · refine ⟨i, by omega, h1, h, ?_⟩
      rw [if_neg (by omega), w64 (by omega) (by omega)]
    · rw [if_pos (by omega)]
      have he : D - S i - mdays (1980 + (i / 12 : Nat)) ((i % 12 : Nat) + 1) = D - S (i + 1) := by omega
      rw [he, w64 (x := D - S (i + 1)) (by omega) (by omega)]
      obtain ⟨j, g1, g2, g3, g4⟩ := ih (i + 1) k (by omega) (by omega) (by rw [show i + 1 + n = i + (n + 1) by omega]; exact h2) (by omega)
      refine ⟨j, g1, g2, g3, ?_⟩
      rw [← g4]
      by_cases h12 : i % 12 = 11
      · rw [w64 (x := ((i % 12 : Nat) : Int) + 1 + 1) (by omega) (by omega), if_pos (by omega), w64 (by omega) (by omega), show (1980 : Int) + (i / 12 : Nat) + 1 = 1980 + ((i + 1) / 12 : Nat) by omega, show (((i + 1) % 12 : Nat) : Int) + 1 = 1 by omega]
      · rw [w64 (x := ((i % 12 : Nat) : Int) + 1 + 1) (by omega) (by omega), if_neg (by omega), show (((i + 1) % 12 : Nat) : Int) = ((i % 12 : Nat) : Int) + 1 by omega, show ((i + 1) / 12 : Nat) = i / 12 by omega]
theorem dateOf_i {k : Nat} (hk : 2000 ≤ k) (D : Int) (h : 0 ≤ D ∧ D ≤ 43829) : ∃ y m d, impl_DateOf.f k D = some (y, m, d) ∧ okDate y m d ∧ dayNo y m d = D := by
  have hS := S_all
  obtain ⟨j, g1, g2, g3, g4⟩ := dateOf_l D h.1 1440 0 k (by omega) (by simpa [S] using h.1) (by rw [Nat.zero_add, hS]; omega) (by omega)
  have := okDate_at j g1 D g2 g3
  refine ⟨_, _, _, ?_, this⟩
  unfold impl_DateOf.f
  rw [within_eq]
  simp only [Option.bind_some]
  rw [if_pos (decide_eq_true h), ← g4]
  simp [S]
theorem dateOf_out_i {k : Nat} (D : Int) (h : ¬ (0 ≤ D ∧ D ≤ 43829)) : impl_DateOf.f k D = some (0, 0, 0) := by
  unfold impl_DateOf.f
  rw [within_eq]
  simp only [Option.bind_some]
  rw [if_neg (by simpa using h)]
theorem dateOfs_m (D : Int) (a : Nat) (ha : a < 120) (n : Nat) : ∀ (j k : Nat), j + n = 12 → S (12 * a + j) ≤ D → D < S (12 * (a + 1)) → n + 1 ≤ k →
    ∃ i, i < 1440 ∧ S i ≤ D ∧ D < S (i + 1) ∧ spec_DateOf.l1 k (D - S (12 * a + j)) (1980 + (a : Int)) ((j : Int) + 1) = some ((1980 : Int) + ((i / 12 : Nat) : Int), ((i % 12 : Nat) : Int) + 1, D - S i + 1) := by
  induction n with
  | zero =>
    intro j k hj h1 h2 hk
    obtain rfl : j = 12 := by omega
    rw [show 12 * a + 12 = 12 * (a + 1) by omega] at h1
    omega
  | succ n ih =>
    intro j k hj h1 h2 hk
    obtain ⟨k, rfl⟩ : ∃ n, k = n + 1 := ⟨k - 1, by omega⟩
    have e := S_at a j (by omega)
    have b := S_le (12 * (a + 1))
    have b0 := S_nonneg (12 * a + j)
    have hm := mdays_in (1980 + (a : Int)) ((j : Int) + 1)
    have hstep : spec_DateOf.l1 (k + 1) (D - S (12 * a + j)) (1980 + (a : Int)) ((j : Int) + 1) = (if D - S (12 * a + j) ≥ mdays (1980 + (a : Int)) ((j : Int) + 1) then spec_DateOf.l1 k (wrap64 (D - S (12 * a + j) - mdays (1980 + (a : Int)) ((j : Int) + 1))) (1980 + (a : Int)) (wrap64 ((j : Int) + 1 + 1)) else some (1980 + (a : Int), (j : Int) + 1, wrap64 (D - S (12 * a + j) + 1))) := by
      simp only [spec_DateOf.l1]
      rw [monthDays_s _ _ (by omega) (by omega), Option.bind_some, Option.bind_some]
    rw [hstep]
    clear hstep
    by_cases h : D < S (12 * a + j + 1)
    · refine ⟨12 * a + j, by omega, h1, h, ?_⟩
      rw [if_neg (by omega), w64 (by omega) (by omega), show (12 * a + j) / 12 = a by omega, show (12 * a + j) % 12 = j by omega]
    · rw [if_pos (by omega), show D - S (12 * a + j) - mdays (1980 + (a : Int)) ((j : Int) + 1) = D - S (12 * a + j + 1) by omega, w64 (by omega) (by omega), w64 (by omega) (by omega)]
      have := ih (j + 1) k (by omega) (by rw [show 12 * a + (j + 1) = 12 * a + j + 1 by omega]; omega) h2 (by omega)
      rw [show ((j + 1 : Nat) : Int) = (j : Int) + 1 by omega, show 12 * a + (j + 1) = 12 * a + j + 1 by omega] at this
      exact this
theorem dateOfs_y (D : Int) (n : Nat) : ∀ (a k : Nat), a + n = 120 → S (12 * a) ≤ D → D < S (12 * (a + n)) → n + 20 ≤ k →
    ∃ i, i < 1440 ∧ S i ≤ D ∧ D < S (i + 1) ∧ spec_DateOf.l0 k (D - S (12 * a)) (1980 + (a : Int)) = some ((1980 : Int) + ((i / 12 : Nat) : Int), ((i % 12 : Nat) : Int) + 1, D - S i + 1) := by
  induction n with
  | zero => intro a k ha h1 h2 hk; rw [Nat.add_zero] at h2; omega
  | succ n ih =>
    intro a k ha h1 h2 hk
    obtain ⟨k, rfl⟩ : ∃ n, k = n + 1 := ⟨k - 1, by omega⟩
    have e := S_year' a
    have b := S_le (12 * (a + (n + 1)))
    have b0 := S_nonneg (12 * a)
    have hq : 0 ≤ (if decide ((1980 + (a : Int)) % 4 = 0) = true then (1 : Int) else 0) ∧ (if decide ((1980 + (a : Int)) % 4 = 0) = true then (1 : Int) else 0) ≤ 1 := by split <;> omega
    have hstep : spec_DateOf.l0 (k + 1) (D - S (12 * a)) (1980 + (a : Int)) = (if D - S (12 * a) ≥ wrap64 (365 + if decide ((1980 + (a : Int)) % 4 = 0) = true then 1 else 0) then spec_DateOf.l0 k (wrap64 (wrap64 (D - S (12 * a) - 365) - if decide ((1980 + (a : Int)) % 4 = 0) = true then 1 else 0)) (wrap64 (1980 + (a : Int) + 1)) else spec_DateOf.l1 k (D - S (12 * a)) (1980 + (a : Int)) 1) := by
      simp only [spec_DateOf.l0]
      rw [leap_s _ (by omega), Option.bind_some, toInt_eq, Option.bind_some, Option.bind_some, toInt_eq, Option.bind_some]
    rw [hstep]
    clear hstep
    generalize (if decide ((1980 + (a : Int)) % 4 = 0) = true then (1 : Int) else 0) = q at *
    rw [w64 (x := 365 + q) (by omega) (by omega)]
    by_cases h : D < S (12 * (a + 1))
    · rw [if_neg (by omega)]
      have := dateOfs_m D a (by omega) 12 0 k (by omega) (by simpa using h1) h (by omega)
      simpa using this
    · rw [if_pos (by omega), w64 (x := D - S (12 * a) - 365) (by omega) (by omega), show D - S (12 * a) - 365 - q = D - S (12 * (a + 1)) by omega, w64 (by omega) (by omega), w64 (by omega) (by omega)]
      have := ih (a + 1) k (by omega) (by omega) (by rw [show a + 1 + n = a + (n + 1) by omega]; exact h2) (by omega)
      rw [show (1980 : Int) + ((a + 1 : Nat) : Int) = 1980 + (a : Int) + 1 by omega] at this
      exact this
theorem dateOf_s {k : Nat} (hk : 2000 ≤ k) {D y m d : Int} (h : okDate y m d) (hD : dayNo y m d = D) : spec_DateOf.f k D = some (y, m, d) := by
  have hS := S_all
  have hb := dayNo_in h
  obtain ⟨i, g1, g2, g3, g4⟩ := dateOfs_y D 120 0 k (by omega) (by simp [S]; omega) (by rw [show 12 * (0 + 120) = 1440 by rfl, hS]; omega) (by omega)
  obtain ⟨w1, w2⟩ := okDate_at i g1 D g2 g3
  obtain ⟨e1, e2, e3⟩ := dayNo_inj h w1 (hD.trans w2.symm)
  unfold spec_DateOf.f
  rw [inRange_eq, Option.bind_some, if_pos (by simp; omega)]
  rw [Nat.mul_zero] at g4
  simp only [S, Int.sub_zero] at g4
  rw [e1, e2, e3]
  exact g4
theorem fixAt_i {k : Nat} (hk : 2000 ≤ k) (t n : Int) (ht : 0 ≤ t ∧ t ≤ 3786479999) (hn : 0 ≤ n ∧ n ≤ 32) :
    ∃ y m d, impl_FixAt.f k t n = some (y, m, d, t % 86400, n) ∧ okDate y m d ∧ dayNo y m d = t / 86400 + 5 := by
  obtain ⟨y, m, d, e, h1, h2⟩ := dateOf_i hk (t / 86400 + 5) (by omega)
  refine ⟨y, m, d, ?_, h1, h2⟩
  unfold impl_FixAt.f impl_isTime.f
  rw [within_eq, Option.bind_some, Option.bind_some, if_pos (decide_eq_true ht), within_eq, Option.bind_some, if_pos (decide_eq_true hn), td ht.1, w64 (x := t / 86400) (by omega) (by omega), w64 (by omega) (by omega), e, Option.bind_some, tm ht.1]
theorem fixAt_out_i {k : Nat} (t n : Int) (h : ¬ ((0 ≤ t ∧ t ≤ 3786479999) ∧ 0 ≤ n ∧ n ≤ 32)) : impl_FixAt.f k t n = some (0, 0, 0, 0, 0) := by
  unfold impl_FixAt.f impl_isTime.f
  rw [within_eq, Option.bind_some, Option.bind_some]
  by_cases ht : 0 ≤ t ∧ t ≤ 3786479999
  · rw [if_pos (decide_eq_true ht), within_eq, Option.bind_some, if_neg (by simp only [decide_eq_true_eq]; exact fun g => h ⟨ht, g⟩)]
  · rw [if_neg (by simpa using ht)]
theorem fixAt_s {k : Nat} (hk : 2000 ≤ k) (t n : Int) (ht : 0 ≤ t ∧ t ≤ 3786479999) (hn : 0 ≤ n ∧ n ≤ 32) {y m d : Int} (h1 : okDate y m d) (h2 : dayNo y m d = t / 86400 + 5) :
    spec_FixAt.f k t n = some (y, m, d, t % 86400, n) := by
  unfold spec_FixAt.f spec_validTime.f
  rw [inRange_eq, Option.bind_some, Option.bind_some, if_pos (decide_eq_true ht), inRange_eq, Option.bind_some, if_pos (decide_eq_true hn), td ht.1, w64 (x := t / 86400) (by omega) (by omega), w64 (by omega) (by omega), dateOf_s hk h1 (by omega), Option.bind_some, tm ht.1]
theorem fixAt_out_s {k : Nat} (t n : Int) (h : ¬ ((0 ≤ t ∧ t ≤ 3786479999) ∧ 0 ≤ n ∧ n ≤ 32)) : spec_FixAt.f k t n = some (0, 0, 0, 0, 0) := by
  unfold spec_FixAt.f spec_validTime.f
  rw [inRange_eq, Option.bind_some, Option.bind_some]
  by_cases ht : 0 ≤ t ∧ t ≤ 3786479999
  · rw [if_pos (decide_eq_true ht), inRange_eq, Option.bind_some, if_neg (by simp only [decide_eq_true_eq]; exact fun g => h ⟨ht, g⟩)]
  · rw [if_neg (by simpa using ht)]
theorem goodB_cons {pr : Option Int} {x : S74} {xs : List S74} (h : goodB pr (x :: xs) = true) : inB x = true ∧ (∀ p, pr = some p → p < x.f0) ∧ goodB (some x.f0) xs = true := by
  cases pr with
  | none => simp [goodB] at h; exact ⟨h.1, fun p e => (by cases e), h.2⟩
  | some p => simp [goodB] at h; exact ⟨h.1, fun q e => (by cases e; exact h.2.1), h.2.2⟩
theorem goodB_mk {pr : Option Int} {x : S74} {xs : List S74} (h1 : inB x = true) (h2 : ∀ p, pr = some p → p < x.f0) (h3 : goodB (some x.f0) xs = true) : goodB pr (x :: xs) = true := by
  cases pr with
  | none => simp [goodB, h1, h3]
  | some p => simp [goodB, h1, h3, h2 p rfl]
theorem goodB_tail {pr : Option Int} {x : S74} {xs : List S74} (h : goodB pr (x :: xs) = true) : goodB pr xs = true := by
  obtain ⟨h1, h2, h3⟩ := goodB_cons h
  cases xs with
  | nil => cases pr <;> rfl
  | cons y ys =>
    obtain ⟨g1, g2, g3⟩ := goodB_cons h3
    exact goodB_mk g1 (fun p e => by have := h2 p e; have := g2 x.f0 rfl; omega) g3
theorem goodB_sub {a l : List S74} (h : List.Sublist a l) : ∀ pr, goodB pr l = true → goodB pr a = true := by
  induction h with
  | slnil => intro pr h; exact h
  | cons x _ ih => intro pr h; exact ih pr (goodB_tail h)
  | cons_cons x _ ih =>
    intro pr h
    obtain ⟨h1, h2, h3⟩ := goodB_cons h
    exact goodB_mk h1 h2 (ih _ h3)
theorem okB_sub {a l : List S74} (h : List.Sublist a l) (hl : okB l = true) : okB a = true := by
  have hlen := h.length_le
  simp only [okB, Bool.and_eq_true, decide_eq_true_eq] at hl ⊢
  exact ⟨goodB_sub h _ hl.1, by omega⟩
theorem goodB_range {l : List S74} : ∀ pr, goodB pr l = true → ∀ x ∈ l, inB x = true := by
  induction l with
  | nil => intro pr _ x hx; cases hx
  | cons y ys ih =>
    intro pr h x hx
    obtain ⟨h1, _, h3⟩ := goodB_cons h
    rcases List.mem_cons.1 hx with rfl | hx
    · exact h1
    · exact ih _ h3 x hx
theorem goodB_lt {l : List S74} : ∀ {p : Int}, goodB (some p) l = true → ∀ x ∈ l, p < x.f0 := by
  induction l with
  | nil => intro p _ x hx; cases hx
  | cons y ys ih =>
    intro p h x hx
    obtain ⟨_, h2, h3⟩ := goodB_cons h
    have := h2 p rfl
    rcases List.mem_cons.1 hx with rfl | hx
    · exact this
    · have := ih h3 x hx; omega
theorem inB_of {x : S74} (h : inB x = true) : (0 ≤ x.f0 ∧ x.f0 ≤ 99) ∧ (0 ≤ x.f1 ∧ x.f1 ≤ 5) ∧ (0 ≤ x.f2 ∧ x.f2 ≤ 3786479999) := by
  simpa [inB] using h
theorem inB_mk {x : S74} (h1 : 0 ≤ x.f0 ∧ x.f0 ≤ 99) (h2 : 0 ≤ x.f1 ∧ x.f1 ≤ 5) (h3 : 0 ≤ x.f2 ∧ x.f2 ≤ 3786479999) : inB x = true := by
  simp [inB, h1, h2, h3]
theorem validB_i_time (t : Int) : impl_isTime.f t = some (decide (0 ≤ t ∧ t ≤ 3786479999)) := by
  unfold impl_isTime.f
  rw [within_eq, Option.bind_some]
theorem validB_s_time (t : Int) : spec_validTime.f t = some (decide (0 ≤ t ∧ t ≤ 3786479999)) := by
  unfold spec_validTime.f
  rw [inRange_eq, Option.bind_some]
theorem validB_i (l : List S74) (hl : l.length ≤ 4000000) (_ : (0 : Int) ≤ 1) : impl_ValidBuckets.f l = some (okB l) := by unfold impl_ValidBuckets.f; rw [if_pos hl]
theorem validB_s (l : List S74) (hl : l.length ≤ 4000000) (_ : (0 : Int) ≤ 1) : spec_validBuckets.f l = some (okB l) := by unfold spec_validBuckets.f; rw [if_pos hl]
/-- The tokens of a bucket at a time. -/
def tokB (x : S74) (t : Int) : Int := mn 5 (x.f1 + mx 0 (t - x.f2) / 8)
/-- The tokens of a client at a time. -/
def toks (l : List S74) (c t : Int) : Int := if okB l = true ∧ 0 ≤ t ∧ t ≤ 3786479999 then (match l.find? (fun x => x.f0 == c) with | some x => tokB x t | none => 5) else -1
def earlyB (l : List S74) (c t : Int) : Bool := l.any (fun x => x.f0 == c && decide (t < x.f2))
theorem mx0_nonneg (x : Int) : 0 ≤ mx 0 x := by unfold mx; split <;> omega
theorem mx0_le {x m : Int} (h : x ≤ m) (h0 : 0 ≤ m) : mx 0 x ≤ m := by unfold mx; split <;> omega
theorem tokB_range {x : S74} (t : Int) (h : 0 ≤ x.f1) : 0 ≤ tokB x t ∧ tokB x t ≤ 5 := by
  have := mx0_nonneg (t - x.f2)
  have := Int.ediv_nonneg this (show (0 : Int) ≤ 8 by omega)
  unfold tokB mn
  split <;> omega
theorem toks_range (l : List S74) (c t : Int) : -1 ≤ toks l c t ∧ toks l c t ≤ 5 := by
  unfold toks
  split
  next h =>
    split
    next x hx =>
      have hm := List.mem_of_find?_eq_some hx
      have hg : goodB none l = true := by have := h.1; simp [okB] at this; exact this.1
      have := inB_of (goodB_range _ hg x hm)
      have := tokB_range t (x := x) (by omega)
      omega
    next => omega
  next => omega
theorem okB_len {l : List S74} (h : okB l = true) : l.length ≤ 8 := by simp [okB] at h; exact h.2
theorem okB_good {l : List S74} (h : okB l = true) : goodB none l = true := by simp [okB] at h; exact h.1
theorem tokB_s {x : S74} {t : Int} (h : inB x = true) (h0 : 0 ≤ t) (h1 : t ≤ 3786479999) : spec_tokensAt.f x.f0 x.f1 x.f2 t = some (tokB x t) := by
  have hx := inB_of h
  unfold spec_tokensAt.f tokB
  have h2 := mx0_nonneg (t - x.f2)
  have h3 := mx0_le (x := t - x.f2) (m := 3786479999) (by omega) (by omega)
  rw [w64 (x := t - x.f2) (by omega) (by omega)]
  have h4 := Int.ediv_nonneg h2 (show (0 : Int) ≤ 8 by omega)
  have h5 : mx 0 (t - x.f2) / 8 ≤ mx 0 (t - x.f2) := Int.ediv_le_self _ h2
  rw [w64 (x := mx 0 (t - x.f2) / 8) (by omega) (by omega), w64 (by omega) (by omega)]
theorem toks_sl (l : List S74) (c t : Int) (hl : l.length ≤ 1048600) (h0 : 0 ≤ t) (h1 : t ≤ 3786479999) (hin : ∀ x ∈ l, inB x = true) (n : Nat) : ∀ (i k : Nat), i + n = l.length → n < k → spec_TokensAt.l0 k l c t (i : Int) = some (match (l.drop i).find? (fun x => x.f0 == c) with | some x => tokB x t | none => 5) := by
  induction n with
  | zero =>
    intro i k h hk
    obtain ⟨k, rfl⟩ : ∃ m, k = m + 1 := ⟨k - 1, by omega⟩
    simp only [spec_TokensAt.l0]
    rw [if_neg (by omega), List.drop_eq_nil_of_le (by omega)]
    rfl
  | succ n ih =>
    intro i k h hk
    obtain ⟨k, rfl⟩ : ∃ m, k = m + 1 := ⟨k - 1, by omega⟩
    have IH := ih (i + 1) k (by omega) (by omega)
    rw [show ((i + 1 : Nat) : Int) = (i : Int) + 1 by omega] at IH
    simp only [spec_TokensAt.l0]
    rw [if_pos (by omega), if_pos (by omega), w64 (x := (i : Int) + 1) (by omega) (by omega), IH, dropB_at l i (by omega)]
    have hx : inB (rd_T74 l (i : Int)) = true := hin _ (by rw [rdb_at l i (by omega)]; exact List.getElem_mem _)
    by_cases hc : (rd_T74 l (i : Int)).f0 = c
    · rw [if_pos hc, tokB_s hx h0 h1, Option.bind_some, List.find?_cons_of_pos (by simpa using hc)]
    · rw [if_neg hc, List.find?_cons_of_neg (by simpa using hc)]
theorem toks_s {k : Nat} (l : List S74) (c t : Int) (hl : l.length ≤ 1048600) (hk : l.length + 1 < k) : spec_TokensAt.f k l c t = some (toks l c t) := by
  obtain ⟨k, rfl⟩ : ∃ m, k = m + 1 := ⟨k - 1, by omega⟩
  unfold spec_TokensAt.f toks
  rw [validB_s l (by omega) (by omega), Option.bind_some]
  cases h : okB l with
  | false => simp [spec_TokensAt.j0]
  | true =>
    rw [if_pos rfl, validB_s_time, Option.bind_some]
    by_cases ht : 0 ≤ t ∧ t ≤ 3786479999
    · simp only [spec_TokensAt.j0, decide_eq_true ht, Bool.not_true, Bool.false_eq_true, if_false, true_and, if_pos ht]
      have := toks_sl l c t hl ht.1 ht.2 (goodB_range _ (okB_good h)) l.length 0 k (by omega) (by omega)
      simpa using this
    · simp only [spec_TokensAt.j0, decide_eq_false ht, Bool.not_false, if_true, true_and, if_neg ht]
theorem inTime_sl (l : List S74) (c t : Int) (hl : l.length ≤ 1048600) (n : Nat) : ∀ (i k : Nat), i + n = l.length → n < k → spec_inTime.l0 k l c t (i : Int) = some (!earlyB (l.drop i) c t) := by
  induction n with
  | zero =>
    intro i k h hk
    obtain ⟨k, rfl⟩ : ∃ m, k = m + 1 := ⟨k - 1, by omega⟩
    simp only [spec_inTime.l0]
    rw [if_neg (by omega), List.drop_eq_nil_of_le (by omega)]
    rfl
  | succ n ih =>
    intro i k h hk
    obtain ⟨k, rfl⟩ : ∃ m, k = m + 1 := ⟨k - 1, by omega⟩
    have IH := ih (i + 1) k (by omega) (by omega)
    rw [show ((i + 1 : Nat) : Int) = (i : Int) + 1 by omega] at IH
    simp only [spec_inTime.l0]
    rw [if_pos (by omega), if_pos (by omega), w64 (x := (i : Int) + 1) (by omega) (by omega), IH, dropB_at l i (by omega)]
    unfold earlyB
    rw [List.any_cons]
    by_cases hc : (rd_T74 l (i : Int)).f0 = c
    · rw [if_pos hc, beq_iff_eq.2 hc, Bool.true_and]
      by_cases ht : t < (rd_T74 l (i : Int)).f2
      · rw [if_pos ht, decide_eq_true ht]; rfl
      · rw [if_neg ht, decide_eq_false ht, Bool.false_or]
    · rw [if_neg hc, beq_false_of_ne hc, Bool.false_and, Bool.false_or]
theorem inTime_s {k : Nat} (l : List S74) (c t : Int) (hl : l.length ≤ 1048600) (hk : l.length < k) : spec_inTime.f k l c t = some (!earlyB l c t) := by
  have := inTime_sl l c t hl l.length 0 k (by omega) hk
  simpa [spec_inTime.f] using this
/-- The buckets behind a client's question that is answered. -/
def putB (l : List S74) (c n t : Int) : List S74 := l.filter (fun x => decide (x.f0 < c)) ++ [⟨c, n, t⟩] ++ l.filter (fun x => decide (c < x.f0))
def takeB (l : List S74) (c t : Int) : List S74 × Bool × Bool :=
  if toks l c t < 0 ∨ ¬ (0 ≤ c ∧ c ≤ 99) ∨ earlyB l c t = true then ([], false, false)
  else if toks l c t = 0 then (l, false, true)
  else if okB (putB l c (toks l c t - 1) t) = true then (putB l c (toks l c t - 1) t, true, true) else ([], false, false)
theorem take_sl1 (l : List S74) (c : Int) (hl : l.length ≤ 1048600) (n : Nat) : ∀ (i k : Nat) (o : List S74), i + n = l.length → o.length + n ≤ 3000000 → o.length + n + n + 1 < k → spec_TakeToken.l1 k l c o (i : Int) = some (if okB (o ++ (l.drop i).filter (fun x => decide (c < x.f0))) = true then (o ++ (l.drop i).filter (fun x => decide (c < x.f0)), true, true) else ([], false, false)) := by
  induction n with
  | zero =>
    intro i k o h ho hk
    obtain ⟨k, rfl⟩ : ∃ m, k = m + 1 := ⟨k - 1, by omega⟩
    simp only [spec_TakeToken.l1]
    rw [if_neg (by omega), List.drop_eq_nil_of_le (by omega), List.filter_nil, List.append_nil, validB_s o (by omega) (by omega), Option.bind_some]
    cases okB o <;> rfl
  | succ n ih =>
    intro i k o h ho hk
    obtain ⟨k, rfl⟩ : ∃ m, k = m + 1 := ⟨k - 1, by omega⟩
    simp only [spec_TakeToken.l1]
    rw [if_pos (by omega), if_pos (by omega), w64 (x := (i : Int) + 1) (by omega) (by omega), dropB_at l i (by omega)]
    by_cases hc : c < (rd_T74 l (i : Int)).f0
    · rw [if_pos hc, if_pos (by omega), List.filter_cons_of_pos (by simpa using hc)]
      have IH := ih (i + 1) k (o ++ [rd_T74 l (i : Int)]) (by omega) (by simp; omega) (by simp; omega)
      rw [show ((i + 1 : Nat) : Int) = (i : Int) + 1 by omega, List.append_assoc, List.singleton_append] at IH
      exact IH
    · rw [if_neg (by omega), List.filter_cons_of_neg (by simpa using hc)]
      have IH := ih (i + 1) k o (by omega) (by omega) (by omega)
      rw [show ((i + 1 : Nat) : Int) = (i : Int) + 1 by omega] at IH
      exact IH
theorem take_sl (l : List S74) (c t m : Int) (hm : -10 < m ∧ m < 10) (hl : l.length ≤ 1048600) (n : Nat) : ∀ (i k : Nat) (o : List S74), i + n = l.length → o.length ≤ i → 4 * l.length + 10 < k + i → spec_TakeToken.l0 k l c t o m (i : Int) = some (if okB (o ++ (l.drop i).filter (fun x => decide (x.f0 < c)) ++ [⟨c, m - 1, t⟩] ++ l.filter (fun x => decide (c < x.f0))) = true then (o ++ (l.drop i).filter (fun x => decide (x.f0 < c)) ++ [⟨c, m - 1, t⟩] ++ l.filter (fun x => decide (c < x.f0)), true, true) else ([], false, false)) := by
  induction n with
  | zero =>
    intro i k o h ho hk
    obtain ⟨k, rfl⟩ : ∃ m, k = m + 1 := ⟨k - 1, by omega⟩
    simp only [spec_TakeToken.l0]
    rw [if_neg (by omega), List.drop_eq_nil_of_le (by omega), List.filter_nil, List.append_nil, if_pos (by omega), w64 (x := m - 1) (by omega) (by omega)]
    have := take_sl1 l c (by omega) l.length 0 k (o ++ [⟨c, m - 1, t⟩]) (by omega) (by simp; omega) (by simp; omega)
    simpa using this
  | succ n ih =>
    intro i k o h ho hk
    obtain ⟨k, rfl⟩ : ∃ m, k = m + 1 := ⟨k - 1, by omega⟩
    simp only [spec_TakeToken.l0]
    rw [if_pos (by omega), if_pos (by omega), w64 (x := (i : Int) + 1) (by omega) (by omega), dropB_at l i (by omega)]
    by_cases hc : (rd_T74 l (i : Int)).f0 < c
    · rw [if_pos hc, if_pos (by omega), List.filter_cons_of_pos (by simpa using hc)]
      have IH := ih (i + 1) k (o ++ [rd_T74 l (i : Int)]) (by omega) (by simp; omega) (by omega)
      rw [show ((i + 1 : Nat) : Int) = (i : Int) + 1 by omega, List.append_assoc o, List.singleton_append] at IH
      exact IH
    · rw [if_neg (by omega), List.filter_cons_of_neg (by simpa using hc)]
      have IH := ih (i + 1) k o (by omega) (by omega) (by omega)
      rw [show ((i + 1 : Nat) : Int) = (i : Int) + 1 by omega] at IH
      exact IH
theorem take_s {k : Nat} (l : List S74) (c t : Int) (hl : l.length ≤ 1048600) (hk : 4 * l.length + 20 < k) : spec_TakeToken.f k l c t = some (takeB l c t) := by
  obtain ⟨k, rfl⟩ : ∃ m, k = m + 1 := ⟨k - 1, by omega⟩
  have hr := toks_range l c t
  unfold spec_TakeToken.f takeB
  rw [Option.bind_some, toks_s l c t (by omega) (by omega), Option.bind_some, inRange_eq, Option.bind_some]
  simp only [spec_TakeToken.j0]
  by_cases h1 : toks l c t < 0
  · rw [if_pos h1, if_pos trivial, if_pos (Or.inl h1)]
  rw [if_neg h1]
  by_cases h2 : 0 ≤ c ∧ c ≤ 99
  rotate_left
  · rw [if_pos (show (!decide (0 ≤ c ∧ c ≤ 99)) = true by rw [decide_eq_false h2]; rfl), if_pos (Or.inr (Or.inl h2))]
  rw [if_neg (show ¬ (!decide (0 ≤ c ∧ c ≤ 99)) = true by rw [decide_eq_true h2]; simp), inTime_s l c t (by omega) (by omega), Option.bind_some]
  cases h3 : earlyB l c t with
  | true => rw [if_neg (by simp), if_pos (Or.inr (Or.inr rfl))]
  | false =>
    rw [if_pos (show (!false) = true from rfl), if_neg (show ¬ (toks l c t < 0 ∨ ¬ (0 ≤ c ∧ c ≤ 99) ∨ false = true) by simp; omega)]
    by_cases h4 : toks l c t = 0
    · rw [if_pos h4, if_pos h4, if_pos (by simp; omega)]
      rfl
    · rw [if_neg h4, if_neg h4]
      have := take_sl l c t (toks l c t) (by omega) hl l.length 0 k [] (by omega) (by simp) (by omega)
      simpa [putB] using this
theorem takeB_ok {l : List S74} {c t : Int} (h : (takeB l c t).2.2 = true) : okB (takeB l c t).1 = true := by
  unfold takeB at h ⊢
  split at h
  · cases h
  next h1 =>
    rw [if_neg h1]
    have hl : okB l = true := by
      by_cases hh : okB l = true ∧ 0 ≤ t ∧ t ≤ 3786479999
      · exact hh.1
      · exact absurd (show toks l c t < 0 by unfold toks; rw [if_neg hh]; omega) (fun h => h1 (Or.inl h))
    split at h
    next h2 => rw [if_pos h2]; exact hl
    next h2 =>
      rw [if_neg h2]
      split at h
      next h3 => rw [if_pos h3]; exact h3
      next h3 => cases h
theorem goodB_asc {l : List S74} : ∀ pr, goodB pr l = true → ∀ a b : Nat, a < b → b < l.length → (rd_T74 l (a : Int)).f0 < (rd_T74 l (b : Int)).f0 := by
  induction l with
  | nil => intro pr _ a b _ hb; simp at hb
  | cons y ys ih =>
    intro pr h a b hab hb
    obtain ⟨_, _, h3⟩ := goodB_cons h
    obtain ⟨b, rfl⟩ : ∃ m, b = m + 1 := ⟨b - 1, by omega⟩
    have hb' : b < ys.length := by simpa using hb
    rw [rdb_at (y :: ys) (b + 1) hb, List.getElem_cons_succ]
    cases a with
    | zero =>
      rw [rdb_at (y :: ys) 0 (by omega), List.getElem_cons_zero]
      exact goodB_lt h3 _ (List.getElem_mem _)
    | succ a =>
      have := ih _ h3 a b (by omega) hb'
      rw [rdb_at ys a (by omega), rdb_at ys b hb'] at this
      rw [rdb_at (y :: ys) (a + 1) (by omega), List.getElem_cons_succ]
      exact this
theorem cmpB (a b d c : Int) : impl_bucketPlace_1.f a b d c = some (if a < c then -1 else if a > c then 1 else 0) := by
  unfold impl_bucketPlace_1.f cmp_Compare_int.f cmp_isNaN_int.f
  simp only [bne_self_eq_false, Option.bind_some, Bool.false_eq_true, if_false]
  by_cases h1 : a < c
  · rw [if_pos h1, if_pos h1]; rfl
  · rw [if_neg h1, if_neg h1]
    by_cases h2 : a > c
    · rw [if_pos h2, if_pos h2]; rfl
    · rw [if_neg h2, if_neg h2]; rfl
/-- The place of a client: the buckets ahead of it have lesser clients, the others don't. -/
def At (l : List S74) (c : Int) (p : Nat) : Prop := p ≤ l.length ∧ (∀ m : Nat, m < p → (rd_T74 l (m : Int)).f0 < c) ∧ ∀ m : Nat, p ≤ m → m < l.length → c ≤ (rd_T74 l (m : Int)).f0
theorem half {i j : Nat} (h : i + j ≤ 100000000) : wrap64 ((IntKind.u64.wrap (wrap64 ((i : Int) + (j : Int)))) / 2) = (((i + j) / 2 : Nat) : Int) := by
  rw [w64 (x := (i : Int) + (j : Int)) (by omega) (by omega)]
  have e : IntKind.u64.wrap ((i : Int) + (j : Int)) = (i : Int) + (j : Int) := by
    show ((i : Int) + (j : Int)) % 18446744073709551616 = (i : Int) + (j : Int)
    omega
  rw [e, w64 (by omega) (by omega)]
  omega
theorem place_l (l : List S74) (c : Int) (hl : l.length ≤ 4000000) (hg : goodB none l = true) (d : Nat) : ∀ (i j k : Nat), j - i ≤ d → d < k → i ≤ j → j ≤ l.length → (∀ m : Nat, m < i → (rd_T74 l (m : Int)).f0 < c) → (∀ m : Nat, j ≤ m → m < l.length → c ≤ (rd_T74 l (m : Int)).f0) →
    ∃ p, At l c p ∧ impl_Bucket_int.l0 k l c (l.length : Int) (i : Int) (j : Int) = some ((p : Int), decide (p < l.length ∧ (rd_T74 l (p : Int)).f0 = c)) := by
  induction d with
  | zero =>
    intro i j k h hk hij hj h1 h2
    obtain ⟨k, rfl⟩ : ∃ m, k = m + 1 := ⟨k - 1, by omega⟩
    obtain rfl : i = j := by omega
    refine ⟨i, ⟨hj, h1, h2⟩, ?_⟩
    simp only [impl_Bucket_int.l0]
    rw [if_neg (by omega)]
    by_cases hi : i < l.length
    · have hge := h2 i (Nat.le_refl _) hi
      rw [if_pos (by omega), if_pos (by omega), if_pos (by omega), cmpB, Option.bind_some, if_neg (by omega)]
      by_cases he : (rd_T74 l (i : Int)).f0 = c
      · rw [if_neg (by omega), decide_eq_true ⟨hi, he⟩]; rfl
      · rw [if_pos (by omega), decide_eq_false (fun h => he h.2)]; rfl
    · rw [if_neg (by omega), decide_eq_false (fun h => hi h.1)]
  | succ d ih =>
    intro i j k h hk hij hj h1 h2
    obtain ⟨k, rfl⟩ : ∃ m, k = m + 1 := ⟨k - 1, by omega⟩
    by_cases hlt : i < j
    · simp only [impl_Bucket_int.l0]
      rw [if_pos (by omega), half (by omega), if_pos (by omega), if_pos (by omega), cmpB, Option.bind_some]
      by_cases hc : (rd_T74 l (((i + j) / 2 : Nat) : Int)).f0 < c
      · rw [if_pos (by rw [if_pos hc]; omega), w64 (by omega) (by omega)]
        have := ih ((i + j) / 2 + 1) j k (by omega) (by omega) (by omega) hj (fun m hm => by
          by_cases he : m = (i + j) / 2
          · rw [he]; exact hc
          · have := goodB_asc _ hg m ((i + j) / 2) (by omega) (by omega)
            omega) h2
        simpa using this
      · rw [if_neg (by rw [if_neg hc]; split <;> omega)]
        exact ih i ((i + j) / 2) k (by omega) (by omega) (by omega) (by omega) h1 (fun m hm hm' => by
          by_cases he : m = (i + j) / 2
          · rw [he]; omega
          · have := goodB_asc _ hg ((i + j) / 2) m (by omega) hm'
            omega)
    · obtain rfl : i = j := by omega
      obtain ⟨p, hp, e⟩ := ih i i (k + 1) (by omega) (by omega) (Nat.le_refl _) hj h1 h2
      exact ⟨p, hp, e⟩
theorem place_ok {k : Nat} (l : List S74) (c : Int) (hl : l.length ≤ 4000000) (hg : goodB none l = true) (hk : l.length < k) : ∃ p, At l c p ∧ impl_bucketPlace.f k l c = some ((p : Int), decide (p < l.length ∧ (rd_T74 l (p : Int)).f0 = c)) := by
  obtain ⟨p, hp, e⟩ := place_l l c hl hg l.length 0 l.length k (by omega) hk (by omega) (by omega) (fun m hm => by omega) (fun m hm hm' => by omega)
  refine ⟨p, hp, ?_⟩
  unfold impl_bucketPlace.f impl_Bucket_int.f
  have e' : impl_Bucket_int.l0 k l c (l.length : Int) 0 (l.length : Int) = some ((p : Int), decide (p < l.length ∧ (rd_T74 l (p : Int)).f0 = c)) := e
  rw [e', Option.bind_some]
theorem find_at {l : List S74} {c : Int} {p : Nat} (h : At l c p) (hg : goodB none l = true) : l.find? (fun x => x.f0 == c) = if p < l.length ∧ (rd_T74 l (p : Int)).f0 = c then some (rd_T74 l (p : Int)) else none := by
  obtain ⟨h0, h1, h2⟩ := h
  have none_of : ∀ a : List S74, (∀ x ∈ a, x.f0 ≠ c) → a.find? (fun x => x.f0 == c) = none := fun a ha => List.find?_eq_none.2 (fun x hx => by simpa using ha x hx)
  conv => lhs; rw [← List.take_append_drop p l]
  rw [List.find?_append, none_of (l.take p) (fun x hx => by
    obtain ⟨m, hm, rfl⟩ := List.getElem_of_mem hx
    rw [List.length_take] at hm
    rw [List.getElem_take]
    have := h1 m (by omega)
    rw [rdb_at l m (by omega)] at this
    omega), Option.none_or]
  by_cases hp : p < l.length
  · rw [dropB_at l p hp]
    by_cases hc : (rd_T74 l (p : Int)).f0 = c
    · rw [List.find?_cons_of_pos (by simpa using hc), if_pos ⟨hp, hc⟩]
    · rw [List.find?_cons_of_neg (by simpa using hc), if_neg (fun h => hc h.2)]
      refine none_of _ (fun x hx => ?_)
      obtain ⟨m, hm, rfl⟩ := List.getElem_of_mem hx
      rw [List.length_drop] at hm
      rw [List.getElem_drop]
      have a1 := goodB_asc _ hg p (p + 1 + m) (by omega) (by omega)
      have a2 := h2 p (Nat.le_refl _) hp
      rw [rdb_at l (p + 1 + m) (by omega)] at a1
      omega
  · rw [List.drop_eq_nil_of_le (by omega), if_neg (fun h => hp h.1)]
    rfl
theorem tokB_i {x : S74} {t : Int} (h : inB x = true) (h0 : 0 ≤ t) (h1 : t ≤ 3786479999) : impl_Bucket_tokensAt.f x.f0 x.f1 x.f2 t = some (tokB x t) := by
  have hx := inB_of h
  unfold impl_Bucket_tokensAt.f tokB
  have h2 := mx0_nonneg (t - x.f2)
  have h3 := mx0_le (x := t - x.f2) (m := 3786479999) (by omega) (by omega)
  have e0 : mx (t - x.f2) 0 = mx 0 (t - x.f2) := by unfold mx; split <;> split <;> omega
  rw [w64 (x := t - x.f2) (by omega) (by omega), e0]
  have h4 := Int.ediv_nonneg h2 (show (0 : Int) ≤ 8 by omega)
  have h5 : mx 0 (t - x.f2) / 8 ≤ mx 0 (t - x.f2) := Int.ediv_le_self _ h2
  rw [w64 (x := mx 0 (t - x.f2) / 8) (by omega) (by omega), w64 (by omega) (by omega)]
  congr 1
  unfold mn
  split <;> split <;> omega
theorem toks_i {k : Nat} (l : List S74) (c t : Int) (hl : l.length ≤ 4000000) (hk : l.length + 1 < k) : impl_TokensAt.f k l c t = some (toks l c t) := by
  obtain ⟨k, rfl⟩ : ∃ m, k = m + 1 := ⟨k - 1, by omega⟩
  unfold impl_TokensAt.f toks
  rw [validB_i l (by omega) (by omega), Option.bind_some]
  cases h : okB l with
  | false => simp [impl_TokensAt.j0]
  | true =>
    rw [if_pos rfl, validB_i_time, Option.bind_some]
    by_cases ht : 0 ≤ t ∧ t ≤ 3786479999
    · simp only [impl_TokensAt.j0, decide_eq_true ht, Bool.not_true, Bool.false_eq_true, if_false, true_and, if_pos ht]
      obtain ⟨p, hp, e⟩ := place_ok (k := k) l c hl (okB_good h) (by omega)
      rw [e, Option.bind_some, find_at hp (okB_good h)]
      by_cases hc : p < l.length ∧ (rd_T74 l (p : Int)).f0 = c
      · rw [if_pos (decide_eq_true hc), if_pos (by omega), if_pos (by omega), if_pos hc, tokB_i (goodB_range _ (okB_good h) _ (by rw [rdb_at l p hc.1]; exact List.getElem_mem _)) ht.1 ht.2, Option.bind_some]
      · rw [if_neg (by rw [decide_eq_true_eq]; exact hc), if_neg hc]
    · simp only [impl_TokensAt.j0, decide_eq_false ht, Bool.not_false, if_true, true_and, if_neg ht]
theorem mem_take_at {l : List S74} {p : Nat} {x : S74} (h : x ∈ l.take p) : ∃ m : Nat, m < p ∧ m < l.length ∧ x = rd_T74 l (m : Int) := by
  obtain ⟨m, hm, rfl⟩ := List.getElem_of_mem h
  rw [List.length_take] at hm
  exact ⟨m, by omega, by omega, by rw [List.getElem_take, rdb_at l m (by omega)]⟩
theorem mem_drop_at {l : List S74} {p : Nat} {x : S74} (h : x ∈ l.drop p) : ∃ m : Nat, p ≤ m ∧ m < l.length ∧ x = rd_T74 l (m : Int) := by
  obtain ⟨m, hm, rfl⟩ := List.getElem_of_mem h
  rw [List.length_drop] at hm
  exact ⟨p + m, by omega, by omega, by rw [List.getElem_drop, rdb_at l (p + m) (by omega)]⟩
theorem filt_lt {l : List S74} {c : Int} {p : Nat} (h : At l c p) : l.filter (fun x => decide (x.f0 < c)) = l.take p := by
  obtain ⟨h0, h1, h2⟩ := h
  conv => lhs; rw [← List.take_append_drop p l]
  rw [List.filter_append, List.filter_eq_self.2 (fun x hx => by
    obtain ⟨m, hm, _, rfl⟩ := mem_take_at hx
    exact decide_eq_true (h1 m hm)), List.filter_eq_nil_iff.2 (fun x hx => by
    obtain ⟨m, hm, hl, rfl⟩ := mem_drop_at hx
    have := h2 m hm hl
    rw [decide_eq_true_eq]; omega), List.append_nil]
theorem filt_gt {l : List S74} {c : Int} {p : Nat} (h : At l c p) (hg : goodB none l = true) (q : Nat) (hq : q = if p < l.length ∧ (rd_T74 l (p : Int)).f0 = c then p + 1 else p) : l.filter (fun x => decide (c < x.f0)) = l.drop q := by
  obtain ⟨h0, h1, h2⟩ := h
  conv => lhs; rw [← List.take_append_drop q l]
  rw [List.filter_append, List.filter_eq_nil_iff.2 (fun x hx => by
    obtain ⟨m, hm, hl, rfl⟩ := mem_take_at hx
    rw [decide_eq_true_eq]
    by_cases hk : p < l.length ∧ (rd_T74 l (p : Int)).f0 = c
    · rw [if_pos hk] at hq
      by_cases he : m = p
      · subst he; omega
      · have := h1 m (by omega); omega
    · rw [if_neg hk] at hq
      have := h1 m (by omega); omega), List.filter_eq_self.2 (fun x hx => by
    obtain ⟨m, hm, hl, rfl⟩ := mem_drop_at hx
    rw [decide_eq_true_eq]
    by_cases hk : p < l.length ∧ (rd_T74 l (p : Int)).f0 = c
    · rw [if_pos hk] at hq
      have := goodB_asc _ hg p m (by omega) hl; omega
    · rw [if_neg hk] at hq
      by_cases he : m = p
      · subst he
        have := h2 m (by omega) hl
        have : (rd_T74 l (m : Int)).f0 ≠ c := fun e => hk ⟨hl, e⟩
        omega
      · have := goodB_asc _ hg p m (by omega) hl
        have := h2 p (Nat.le_refl _) (by omega)
        omega), List.nil_append]
theorem put_known {l : List S74} {c : Int} {p : Nat} (h : At l c p) (hg : goodB none l = true) (hk : p < l.length ∧ (rd_T74 l (p : Int)).f0 = c) (n t : Int) : putB l c n t = l.set p ⟨c, n, t⟩ := by
  unfold putB
  rw [filt_lt h, filt_gt h hg (p + 1) (by rw [if_pos hk]), List.set_eq_take_append_cons_drop, if_pos hk.1, List.append_assoc]
  rfl
theorem put_new {l : List S74} {c : Int} {p : Nat} (h : At l c p) (hg : goodB none l = true) (hk : ¬ (p < l.length ∧ (rd_T74 l (p : Int)).f0 = c)) (n t : Int) : putB l c n t = l.take p ++ [⟨c, n, t⟩] ++ l.drop p := by
  unfold putB
  rw [filt_lt h, filt_gt h hg p (by rw [if_neg hk])]
theorem early_at {l : List S74} {c t : Int} {p : Nat} (h : At l c p) (hg : goodB none l = true) : earlyB l c t = decide ((p < l.length ∧ (rd_T74 l (p : Int)).f0 = c) ∧ t < (rd_T74 l (p : Int)).f2) := by
  obtain ⟨h0, h1, h2⟩ := h
  unfold earlyB
  by_cases hd : (p < l.length ∧ (rd_T74 l (p : Int)).f0 = c) ∧ t < (rd_T74 l (p : Int)).f2
  · rw [decide_eq_true hd]
    refine List.any_eq_true.2 ⟨rd_T74 l (p : Int), by rw [rdb_at l p hd.1.1]; exact List.getElem_mem _, ?_⟩
    rw [beq_iff_eq.2 hd.1.2, decide_eq_true hd.2]; rfl
  · rw [decide_eq_false hd]
    refine List.any_eq_false.2 (fun x hx => ?_)
    obtain ⟨m, _, hl, rfl⟩ := mem_drop_at (p := 0) (by rw [List.drop_zero]; exact hx)
    intro hc
    rw [Bool.and_eq_true, beq_iff_eq, decide_eq_true_eq] at hc
    by_cases hm : m < p
    · have := h1 m hm; omega
    · by_cases he : m = p
      · subst he; exact hd ⟨⟨hl, hc.1⟩, hc.2⟩
      · have := goodB_asc _ hg p m (by omega) hl
        have := h2 p (Nat.le_refl _) (by omega)
        omega
theorem take_i {k : Nat} (l : List S74) (c t : Int) (hl : l.length ≤ 1048600) (hk : l.length + 15 < k) : impl_TakeToken.f k l c t = some (takeB l c t) := by
  obtain ⟨k, rfl⟩ : ∃ m, k = m + 2 := ⟨k - 2, by omega⟩
  have hr := toks_range l c t
  unfold impl_TakeToken.f takeB
  rw [toks_i l c t (by omega) (by omega), Option.bind_some, within_eq, Option.bind_some]
  simp only [impl_TakeToken.j0]
  by_cases h1 : toks l c t < 0
  · rw [if_pos h1, if_pos trivial, if_pos (Or.inl h1)]
  rw [if_neg h1]
  by_cases h2 : 0 ≤ c ∧ c ≤ 99
  rotate_left
  · rw [if_pos (show (!decide (0 ≤ c ∧ c ≤ 99)) = true by rw [decide_eq_false h2]; rfl), if_pos (Or.inr (Or.inl h2))]
  have hh : okB l = true ∧ 0 ≤ t ∧ t ≤ 3786479999 := by
    by_cases hh : okB l = true ∧ 0 ≤ t ∧ t ≤ 3786479999
    · exact hh
    · exact absurd (show toks l c t < 0 by unfold toks; rw [if_neg hh]; omega) h1
  have hg := okB_good hh.1
  have h8 := okB_len hh.1
  obtain ⟨p, hp, ep⟩ := place_ok (k := k + 1) l c (by omega) hg (by omega)
  have ec : impl_Bucket_74.f l = some l := by
    unfold impl_Bucket_74.f
    simp only [Option.bind_some, List.length_nil, List.nil_append]
    rw [if_pos (by omega)]
  rw [if_neg (show ¬ (!decide (0 ≤ c ∧ c ≤ 99)) = true by rw [decide_eq_true h2]; simp), ep, Option.bind_some, ec, Option.bind_some, early_at hp hg]
  simp only []
  have hpl := hp.1
  by_cases hc : p < l.length ∧ (rd_T74 l (p : Int)).f0 = c
  · rw [if_pos (decide_eq_true hc), if_pos (by omega), if_pos (by omega)]
    simp only [impl_TakeToken.j1]
    by_cases h3 : t < (rd_T74 l (p : Int)).f2
    · rw [if_pos (decide_eq_true h3), if_pos (Or.inr (Or.inr (decide_eq_true ⟨hc, h3⟩)))]
    · rw [if_neg (by rw [decide_eq_true_eq]; exact h3), if_neg (show ¬ (toks l c t < 0 ∨ ¬ (0 ≤ c ∧ c ≤ 99) ∨ decide ((p < l.length ∧ (rd_T74 l (p : Int)).f0 = c) ∧ t < (rd_T74 l (p : Int)).f2) = true) by rw [decide_eq_true_eq]; omega)]
      by_cases h4 : toks l c t = 0
      · rw [if_pos h4, if_pos h4]
      · rw [if_neg h4, if_neg h4, if_pos (decide_eq_true hc), if_pos (by omega), if_pos (by omega), Option.bind_some, Int.toNat_natCast, w64 (x := toks l c t - 1) (by omega) (by omega), ← put_known hp hg hc]
        have hlen : (putB l c (toks l c t - 1) t).length ≤ 9 := by rw [put_known hp hg hc, List.length_set]; omega
        rw [validB_i _ (by omega) (by omega), Option.bind_some]
        cases okB (putB l c (toks l c t - 1) t) <;> rfl
  · rw [if_neg (by rw [decide_eq_true_eq]; exact hc)]
    simp only [impl_TakeToken.j1]
    have h5 : toks l c t = 5 := by
      unfold toks
      rw [if_pos hh, find_at hp hg, if_neg hc]
    rw [if_neg (by simp), if_neg (show ¬ (toks l c t < 0 ∨ ¬ (0 ≤ c ∧ c ≤ 99) ∨ decide ((p < l.length ∧ (rd_T74 l (p : Int)).f0 = c) ∧ t < (rd_T74 l (p : Int)).f2) = true) by rw [decide_eq_true_eq]; exact fun h => by rcases h with h | h | h; omega; exact h h2; exact hc h.1), if_neg (show ¬ toks l c t = 0 by omega), if_neg (show ¬ toks l c t = 0 by omega), if_neg (by rw [decide_eq_true_eq]; exact hc)]
    have ei : impl_Bucket_75.f l (p : Int) [⟨c, wrap64 (toks l c t - 1), t⟩] = some (putB l c (toks l c t - 1) t) := by
      unfold impl_Bucket_75.f
      rw [if_pos ⟨by omega, by omega, rfl, by omega⟩, Int.toNat_natCast, put_new hp hg hc, w64 (x := toks l c t - 1) (by omega) (by omega)]
    have hlen : (putB l c (toks l c t - 1) t).length ≤ 9 := by rw [put_new hp hg hc]; simp; omega
    rw [ei, Option.bind_some, validB_i _ (by omega) (by omega), Option.bind_some]
    cases okB (putB l c (toks l c t - 1) t) <;> rfl
end Go.Proofs.YtdggcfpimjdckaaGreatDoor.Pure
