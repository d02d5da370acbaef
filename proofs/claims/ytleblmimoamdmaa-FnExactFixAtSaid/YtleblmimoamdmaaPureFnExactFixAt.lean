/- Proved: the program's FixAt returns what the reference's returns, for all arguments (FnExactFixAt); no condition beyond the statement's own. -/
import Derived.Test.YtleblmimoamdmaaPFnExactFixAtx2
import Derived.Laws.BitsLemmas
namespace Go.Proofs.Ytleblmimoamdmaa.Pure
open Go Go.RowKit Go.Proofs.Ytleblmimoamdmaa.PFnExactFixAt Go.Proofs.YtleblmimoamdmaaW.PrintWords Go.Proofs.YtleblmimoamdmaaW.PrintLast Go.Proofs.YtleblmimoamdmaaW.PrintMore

namespace KFnExactFixAt
theorem w64 {x : Int} (h1 : -9223372036854775808 ≤ x) (h2 : x < 9223372036854775808) : wrap64 x = x := by unfold wrap64; omega
theorem i64wrap (x : Int) : IntKind.i64.wrap x = wrap64 x := by rw [IntKind.wrap_i64]; unfold wrap64; rfl
theorem tm {a b : Int} (h : 0 ≤ a) : Int.tmod a b = a % b := Int.tmod_eq_emod_of_nonneg h
theorem td {a b : Int} (h : 0 ≤ a) : Int.tdiv a b = a / b := Int.tdiv_eq_ediv_of_nonneg h
theorem sval {α : Type} {x : Option α} {a : α} (h : x = some a) {β : Type} (f : α → Option β) : x.bind f = f a := by rw [h]; rfl
theorem within_eq (n lo hi : Int) : impl_within.f n lo hi = some (decide (lo ≤ n ∧ n ≤ hi)) := by
  unfold impl_within.f
  by_cases h : lo ≤ n <;> simp [h]
theorem inRange_eq (n lo hi : Int) : spec_inRange.f n lo hi = some (decide (lo ≤ n ∧ n ≤ hi)) := by
  unfold spec_inRange.f
  by_cases h : lo ≤ n <;> simp [h]
/-- The days of a month of a year in 1980..2099. -/
def mdays (y m : Int) : Int :=
  if m = 2 then (if y % 4 = 0 then 29 else 28) else if m = 4 ∨ m = 6 ∨ m = 9 ∨ m = 11 then 30 else 31
theorem mdays_in (y m : Int) : 28 ≤ mdays y m ∧ mdays y m ≤ 31 := by unfold mdays; split <;> (try split) <;> omega
/-- The days before the month number i, counted from 0 for the first month of 1980. -/
def S : Nat → Int
  | 0 => 0
  | i + 1 => S i + mdays (1980 + (i / 12 : Nat)) ((i % 12 : Nat) + 1)
theorem S_succ (i : Nat) : S (i + 1) = S i + mdays (1980 + (i / 12 : Nat)) ((i % 12 : Nat) + 1) := rfl
theorem S_at (a j : Nat) (h : j < 12) : S (12 * a + j + 1) = S (12 * a + j) + mdays (1980 + (a : Int)) ((j : Int) + 1) := by
  rw [S_succ, show (12 * a + j) / 12 = a by omega, show (12 * a + j) % 12 = j by omega]
theorem S_lt (i : Nat) : S i + 28 ≤ S (i + 1) ∧ S (i + 1) ≤ S i + 31 := by
  have := mdays_in (1980 + (i / 12 : Nat)) ((i % 12 : Nat) + 1)
  rw [S_succ]
  omega
theorem S_mono {i j : Nat} (h : i ≤ j) : S i ≤ S j := by
  induction j with
  | zero => obtain rfl : i = 0 := by omega
            exact Int.le_refl _
  | succ j ih =>
    by_cases e : i = j + 1
    · subst e; exact Int.le_refl _
    · have := ih (by omega); have := S_lt j; omega
theorem S_same {i j : Nat} {D : Int} (h1 : S i ≤ D) (h2 : D < S (i + 1)) (h3 : S j ≤ D) (h4 : D < S (j + 1)) : i = j := by
  by_cases a : i < j
  · have := S_mono (show i + 1 ≤ j by omega); omega
  · by_cases b : j < i
    · have := S_mono (show j + 1 ≤ i by omega); omega
    · omega
theorem S_nonneg (i : Nat) : 0 ≤ S i := S_mono (i := 0) (Nat.zero_le i)
theorem S_year (a : Nat) : S (12 * (a + 1)) = S (12 * a) + (365 + if (1980 + (a : Int)) % 4 = 0 then 1 else 0) := by
  have e0 := S_at a 0 (by omega)
  have e1 := S_at a 1 (by omega)
  have e2 := S_at a 2 (by omega)
  have e3 := S_at a 3 (by omega)
  have e4 := S_at a 4 (by omega)
  have e5 := S_at a 5 (by omega)
  have e6 := S_at a 6 (by omega)
  have e7 := S_at a 7 (by omega)
  have e8 := S_at a 8 (by omega)
  have e9 := S_at a 9 (by omega)
  have e10 := S_at a 10 (by omega)
  have e11 := S_at a 11 (by omega)
  simp [mdays] at e0 e1 e2 e3 e4 e5 e6 e7 e8 e9 e10 e11
  rw [show 12 * (a + 1) = 12 * a + 11 + 1 by omega, e11, e10, e9, e8, e7, e6, e5, e4, e3, e2, e1, e0]
  split <;> omega
theorem S_years (a : Nat) : S (12 * a) = 365 * a + ((a : Int) + 3) / 4 := by
  induction a with
  | zero => rfl
  | succ a ih =>
    rw [S_year, ih]
    split <;> omega
theorem S_all : S 1440 = 43830 := S_years 120
/-- Each day of the span lies in one month. -/
theorem S_find (n : Nat) : ∀ D : Int, 0 ≤ D → D < S n → ∃ i, i < n ∧ S i ≤ D ∧ D < S (i + 1) := by
  induction n with
  | zero => intro D h0 h1; simp [S] at h1; omega
  | succ n ih =>
    intro D h0 h1
    by_cases h : D < S n
    · obtain ⟨i, a, b, c⟩ := ih D h0 h
      exact ⟨i, by omega, b, c⟩
    · exact ⟨n, by omega, by omega, h1⟩
theorem S_le (i : Nat) : S i ≤ 31 * i := by
  induction i with
  | zero => simp [S]
  | succ i ih => have := S_lt i; omega
theorem leap_i (y : Int) (h : 1980 ≤ y ∧ y ≤ 2099) : impl_IsLeapYear.f y = some (decide (y % 4 = 0)) := by
  unfold impl_IsLeapYear.f
  rw [within_eq, tm (show 0 ≤ y by omega), tm (show 0 ≤ y by omega), tm (show 0 ≤ y by omega)]
  simp only [Option.bind_some, decide_eq_true h, if_true]
  by_cases h4 : y % 4 = 0
  · rw [if_pos h4, decide_eq_true h4]
    by_cases h1 : y % 100 = 0
    · rw [if_pos h1, beq_iff_eq.2 (by omega)]
    · rw [if_neg h1]
  · rw [if_neg h4, decide_eq_false h4, beq_eq_false_iff_ne.2 (by omega)]
theorem monthDays_i {k : Nat} (hk : 1 ≤ k) (y m : Int) : impl_MonthDays.f k y m = some (if (1980 ≤ y ∧ y ≤ 2099) ∧ 1 ≤ m ∧ m ≤ 12 then mdays y m else -1) := by
  obtain ⟨k, rfl⟩ : ∃ n, k = n + 1 := ⟨k - 1, by omega⟩
  unfold impl_MonthDays.f
  rw [within_eq, within_eq]
  simp only [Option.bind_some, impl_MonthDays.j0, if_true]
  by_cases h1 : 1980 ≤ y ∧ y ≤ 2099
  · by_cases h2 : 1 ≤ m ∧ m ≤ 12
    · rw [if_pos (decide_eq_true h1), if_neg (by simp [h2]), if_pos (show (1980 ≤ y ∧ y ≤ 2099) ∧ 1 ≤ m ∧ m ≤ 12 from ⟨h1, h2⟩), leap_i y h1]
      unfold mdays
      by_cases e : m = 2
      · rw [if_pos e, if_pos e]
        by_cases e4 : y % 4 = 0
        · simp [e4]
        · simp [e4]
      · rw [if_neg e, if_neg e]
        by_cases e2 : m = 4
        · rw [if_pos e2, if_pos (by omega)]
        · rw [if_neg e2]
          by_cases e3 : m = 6
          · rw [if_pos e3, if_pos (by omega)]
          · rw [if_neg e3]
            by_cases e4 : m = 9
            · rw [if_pos e4, if_pos (by omega)]
            · rw [if_neg e4]
              by_cases e5 : m = 11
              · rw [if_pos e5, if_pos (by omega)]
              · rw [if_neg e5, if_neg (by omega)]
    · rw [if_pos (decide_eq_true h1), if_pos (by simp; omega), if_neg (by omega)]
  · rw [if_neg (by simp; omega), if_neg (by omega)]
/-- A date of the span. -/
def okDate (y m d : Int) : Prop := (1980 ≤ y ∧ y ≤ 2099) ∧ (1 ≤ m ∧ m ≤ 12) ∧ 1 ≤ d ∧ d ≤ mdays y m
instance (y m d : Int) : Decidable (okDate y m d) := by unfold okDate; infer_instance
/-- The number of a day. -/
def dayNo (y m d : Int) : Int := d - 1 + S (12 * (y - 1980).toNat + (m - 1).toNat)
theorem leap_s (y : Int) (h : 1980 ≤ y ∧ y ≤ 2099) : spec_leap.f y = some (decide (y % 4 = 0)) := by
  unfold spec_leap.f
  rw [tm (show 0 ≤ y by omega), tm (show 0 ≤ y by omega), tm (show 0 ≤ y by omega)]
  by_cases h4 : y % 4 = 0
  · rw [if_pos h4, decide_eq_true h4]
    by_cases h1 : y % 100 = 0
    · rw [if_pos h1, beq_iff_eq.2 (by omega)]
    · rw [if_neg h1]
  · rw [if_neg h4, decide_eq_false h4, beq_eq_false_iff_ne.2 (by omega)]
theorem monthDays_s (y m : Int) (h : 1980 ≤ y ∧ y ≤ 2099) (hm : 1 ≤ m ∧ m ≤ 12) : spec_monthDays.f y m = some (mdays y m) := by
  unfold spec_monthDays.f
  rw [w64 (by omega) (by omega), Option.bind_some, if_pos (by omega), if_pos (by simp; omega), leap_s y h, Option.bind_some]
  rcases (by omega : m = 1 ∨ m = 2 ∨ m = 3 ∨ m = 4 ∨ m = 5 ∨ m = 6 ∨ m = 7 ∨ m = 8 ∨ m = 9 ∨ m = 10 ∨ m = 11 ∨ m = 12) with rfl | rfl | rfl | rfl | rfl | rfl | rfl | rfl | rfl | rfl | rfl | rfl
  · rfl
  · by_cases h4 : y % 4 = 0
    · simp only [h4, decide_true, if_true, mdays]; decide +kernel
    · simp only [h4, decide_false, mdays, if_false, Bool.false_eq_true, if_true]; rfl
  all_goals rfl
theorem dayNo_in {y m d : Int} (h : okDate y m d) : 0 ≤ dayNo y m d ∧ dayNo y m d ≤ 43829 ∧ ∃ i, i < 1440 ∧ y = 1980 + (i / 12 : Nat) ∧ m = (i % 12 : Nat) + 1 ∧ d = dayNo y m d - S i + 1 ∧ S i ≤ dayNo y m d ∧ dayNo y m d < S (i + 1) := by
  unfold okDate at h
  have e := S_succ (12 * (y - 1980).toNat + (m - 1).toNat)
  rw [show (1980 : Int) + ((12 * (y - 1980).toNat + (m - 1).toNat) / 12 : Nat) = y by omega, show (((12 * (y - 1980).toNat + (m - 1).toNat) % 12 : Nat) : Int) + 1 = m by omega] at e
  have hd : dayNo y m d = d - 1 + S (12 * (y - 1980).toNat + (m - 1).toNat) := rfl
  have b := S_mono (show 12 * (y - 1980).toNat + (m - 1).toNat + 1 ≤ 1440 by omega)
  have b0 := S_nonneg (12 * (y - 1980).toNat + (m - 1).toNat)
  rw [S_all] at b
  exact ⟨by omega, by omega, 12 * (y - 1980).toNat + (m - 1).toNat, by omega, by omega, by omega, by omega, by omega, by omega⟩
/-- A day has one date. -/
theorem dayNo_inj {y m d y' m' d' : Int} (h : okDate y m d) (h' : okDate y' m' d') (e : dayNo y m d = dayNo y' m' d') : y = y' ∧ m = m' ∧ d = d' := by
  obtain ⟨_, _, i, _, a1, a2, a3, a4, a5⟩ := dayNo_in h
  obtain ⟨_, _, j, _, b1, b2, b3, b4, b5⟩ := dayNo_in h'
  have : i = j := S_same a4 a5 (e ▸ b4) (e ▸ b5)
  subst this
  omega
theorem okDate_at (i : Nat) (hi : i < 1440) (D : Int) (h1 : S i ≤ D) (h2 : D < S (i + 1)) : okDate (1980 + (i / 12 : Nat)) ((i % 12 : Nat) + 1) (D - S i + 1) ∧ dayNo (1980 + (i / 12 : Nat)) ((i % 12 : Nat) + 1) (D - S i + 1) = D := by
  have e := S_succ i
  constructor
  · exact ⟨by omega, by omega, by omega, by omega⟩
  · unfold dayNo
    rw [show 12 * ((1980 : Int) + (i / 12 : Nat) - 1980).toNat + (((i % 12 : Nat) : Int) + 1 - 1).toNat = i by omega]
    omega
theorem dateOf_l (D : Int) (_h0 : 0 ≤ D) (n : Nat) : ∀ (i k : Nat), i + n ≤ 1440 → S i ≤ D → D < S (i + n) → n + 2 ≤ k →
    ∃ j, j < 1440 ∧ S j ≤ D ∧ D < S (j + 1) ∧ impl_DateOf.l0 k (D - S i) (1980 + (i / 12 : Nat)) ((i % 12 : Nat) + 1) 0 = some ((1980 : Int) + ((j / 12 : Nat) : Int), ((j % 12 : Nat) : Int) + 1, D - S j + 1) := by
  induction n with
  | zero => intro i k hi h1 h2 hk; rw [Nat.add_zero] at h2; omega
  | succ n ih =>
    intro i k hi h1 h2 hk
    obtain ⟨k, rfl⟩ : ∃ n, k = n + 1 := ⟨k - 1, by omega⟩
    have e := S_succ i
    have b := S_le i
    have b0 := S_nonneg i
    have hm := mdays_in (1980 + (i / 12 : Nat)) ((i % 12 : Nat) + 1)
    have bD : D < 100000 := by have := S_le (i + (n + 1)); omega
    have hstep : impl_DateOf.l0 (k + 1) (D - S i) (1980 + (i / 12 : Nat)) ((i % 12 : Nat) + 1) 0 = (if D - S i ≥ mdays (1980 + (i / 12 : Nat)) ((i % 12 : Nat) + 1) then (if (wrap64 (((i % 12 : Nat) : Int) + 1 + 1)) > 12 then (impl_DateOf.l0 k (wrap64 (D - S i - mdays (1980 + (i / 12 : Nat)) ((i % 12 : Nat) + 1))) (wrap64 (1980 + (i / 12 : Nat) + 1)) 1 0) else (impl_DateOf.l0 k (wrap64 (D - S i - mdays (1980 + (i / 12 : Nat)) ((i % 12 : Nat) + 1))) (1980 + (i / 12 : Nat)) (wrap64 (((i % 12 : Nat) : Int) + 1 + 1)) 0)) else some (1980 + ((i / 12 : Nat) : Int), ((i % 12 : Nat) : Int) + 1, wrap64 (D - S i + 1))) := by
      simp only [impl_DateOf.l0]
      rw [monthDays_i (by omega), if_pos (by omega), Option.bind_some, Option.bind_some]
    rw [hstep]
    clear hstep
    by_cases h : D < S (i + 1)
    · refine ⟨i, by omega, h1, h, ?_⟩
      rw [if_neg (by omega), w64 (by omega) (by omega)]
    · rw [if_pos (by omega)]
      have he : D - S i - mdays (1980 + (i / 12 : Nat)) ((i % 12 : Nat) + 1) = D - S (i + 1) := by omega
      rw [he, w64 (x := D - S (i + 1)) (by omega) (by omega)]
      obtain ⟨j, g1, g2, g3, g4⟩ := ih (i + 1) k (by omega) (by omega) (by rw [show i + 1 + n = i + (n + 1) by omega]; exact h2) (by omega)
      refine ⟨j, g1, g2, g3, ?_⟩
      rw [← g4]
      by_cases h12 : i % 12 = 11
      · rw [w64 (x := ((i % 12 : Nat) : Int) + 1 + 1) (by omega) (by omega), if_pos (by omega), w64 (by omega) (by omega), show (1980 : Int) + (i / 12 : Nat) + 1 = 1980 + ((i + 1) / 12 : Nat) by omega, show (((i + 1) % 12 : Nat) : Int) + 1 = 1 by omega]
      · rw [w64 (x := ((i % 12 : Nat) : Int) + 1 + 1) (by omega) (by omega), if_neg (by omega), show (((i + 1) % 12 : Nat) : Int) = ((i % 12 : Nat) : Int) + 1 by omega, show ((i + 1) / 12 : Nat) = i / 12 by omega]
theorem dateOf_i {k : Nat} (hk : 2000 ≤ k) (D : Int) (h : 0 ≤ D ∧ D ≤ 43829) : ∃ y m d, impl_DateOf.f k D = some (y, m, d) ∧ okDate y m d ∧ dayNo y m d = D := by
  have hS := S_all
  obtain ⟨j, g1, g2, g3, g4⟩ := dateOf_l D h.1 1440 0 k (by omega) (by simpa [S] using h.1) (by rw [Nat.zero_add, hS]; omega) (by omega)
  have := okDate_at j g1 D g2 g3
  refine ⟨_, _, _, ?_, this⟩
  unfold impl_DateOf.f
  rw [within_eq]
  simp only [Option.bind_some]
  rw [if_pos (decide_eq_true h), ← g4]
  simp [S]
theorem dateOf_out_i {k : Nat} (D : Int) (h : ¬ (0 ≤ D ∧ D ≤ 43829)) : impl_DateOf.f k D = some (0, 0, 0) := by
  unfold impl_DateOf.f
  rw [within_eq]
  simp only [Option.bind_some]
  rw [if_neg (by simpa using h)]
theorem toInt_eq (b : Bool) : spec_toInt.f b = some (if b = true then 1 else 0) := by unfold spec_toInt.f; split <;> rfl
theorem S_year' (a : Nat) : S (12 * (a + 1)) = S (12 * a) + 365 + (if decide ((1980 + (a : Int)) % 4 = 0) = true then 1 else 0) := by
  rw [S_year]
  by_cases h : (1980 + (a : Int)) % 4 = 0
  · rw [if_pos h, if_pos (decide_eq_true h)]; omega
  · rw [if_neg h, if_neg (by simpa using h)]; omega
theorem dateOfs_m (D : Int) (a : Nat) (ha : a < 120) (n : Nat) : ∀ (j k : Nat), j + n = 12 → S (12 * a + j) ≤ D → D < S (12 * (a + 1)) → n + 1 ≤ k →
    ∃ i, i < 1440 ∧ S i ≤ D ∧ D < S (i + 1) ∧ spec_DateOf.l1 k (D - S (12 * a + j)) (1980 + (a : Int)) ((j : Int) + 1) = some ((1980 : Int) + ((i / 12 : Nat) : Int), ((i % 12 : Nat) : Int) + 1, D - S i + 1) := by
  induction n with
  | zero =>
    intro j k hj h1 h2 hk
    obtain rfl : j = 12 := by omega
    rw [show 12 * a + 12 = 12 * (a + 1) by omega] at h1
    omega
  | succ n ih =>
    intro j k hj h1 h2 hk
    obtain ⟨k, rfl⟩ : ∃ n, k = n + 1 := ⟨k - 1, by omega⟩
    have e := S_at a j (by omega)
    have b := S_le (12 * (a + 1))
    have b0 := S_nonneg (12 * a + j)
    have hm := mdays_in (1980 + (a : Int)) ((j : Int) + 1)
    have hstep : spec_DateOf.l1 (k + 1) (D - S (12 * a + j)) (1980 + (a : Int)) ((j : Int) + 1) = (if D - S (12 * a + j) ≥ mdays (1980 + (a : Int)) ((j : Int) + 1) then spec_DateOf.l1 k (wrap64 (D - S (12 * a + j) - mdays (1980 + (a : Int)) ((j : Int) + 1))) (1980 + (a : Int)) (wrap64 ((j : Int) + 1 + 1)) else some (1980 + (a : Int), (j : Int) + 1, wrap64 (D - S (12 * a + j) + 1))) := by
      simp only [spec_DateOf.l1]
      rw [monthDays_s _ _ (by omega) (by omega), Option.bind_some, Option.bind_some]
    rw [hstep]
    clear hstep
    by_cases h : D < S (12 * a + j + 1)
    · refine ⟨12 * a + j, by omega, h1, h, ?_⟩
      rw [if_neg (by omega), w64 (by omega) (by omega), show (12 * a + j) / 12 = a by omega, show (12 * a + j) % 12 = j by omega]
    · rw [if_pos (by omega), show D - S (12 * a + j) - mdays (1980 + (a : Int)) ((j : Int) + 1) = D - S (12 * a + j + 1) by omega, w64 (by omega) (by omega), w64 (by omega) (by omega)]
      have := ih (j + 1) k (by omega) (by rw [show 12 * a + (j + 1) = 12 * a + j + 1 by omega]; omega) h2 (by omega)
      rw [show ((j + 1 : Nat) : Int) = (j : Int) + 1 by omega, show 12 * a + (j + 1) = 12 * a + j + 1 by omega] at this
      exact this
theorem dateOfs_y (D : Int) (n : Nat) : ∀ (a k : Nat), a + n = 120 → S (12 * a) ≤ D → D < S (12 * (a + n)) → n + 20 ≤ k →
    ∃ i, i < 1440 ∧ S i ≤ D ∧ D < S (i + 1) ∧ spec_DateOf.l0 k (D - S (12 * a)) (1980 + (a : Int)) = some ((1980 : Int) + ((i / 12 : Nat) : Int), ((i % 12 : Nat) : Int) + 1, D - S i + 1) := by
  induction n with
  | zero => intro a k ha h1 h2 hk; rw [Nat.add_zero] at h2; omega
  | succ n ih =>
    intro a k ha h1 h2 hk
    obtain ⟨k, rfl⟩ : ∃ n, k = n + 1 := ⟨k - 1, by omega⟩
    have e := S_year' a
    have b := S_le (12 * (a + (n + 1)))
    have b0 := S_nonneg (12 * a)
    have hq : 0 ≤ (if decide ((1980 + (a : Int)) % 4 = 0) = true then (1 : Int) else 0) ∧ (if decide ((1980 + (a : Int)) % 4 = 0) = true then (1 : Int) else 0) ≤ 1 := by split <;> omega
    have hstep : spec_DateOf.l0 (k + 1) (D - S (12 * a)) (1980 + (a : Int)) = (if D - S (12 * a) ≥ wrap64 (365 + if decide ((1980 + (a : Int)) % 4 = 0) = true then 1 else 0) then spec_DateOf.l0 k (wrap64 (wrap64 (D - S (12 * a) - 365) - if decide ((1980 + (a : Int)) % 4 = 0) = true then 1 else 0)) (wrap64 (1980 + (a : Int) + 1)) else spec_DateOf.l1 k (D - S (12 * a)) (1980 + (a : Int)) 1) := by
      simp only [spec_DateOf.l0]
      rw [leap_s _ (by omega), Option.bind_some, toInt_eq, Option.bind_some, Option.bind_some, toInt_eq, Option.bind_some]
    rw [hstep]
    clear hstep
    generalize (if decide ((1980 + (a : Int)) % 4 = 0) = true then (1 : Int) else 0) = q at *
    rw [w64 (x := 365 + q) (by omega) (by omega)]
    by_cases h : D < S (12 * (a + 1))
    · rw [if_neg (by omega)]
      have := dateOfs_m D a (by omega) 12 0 k (by omega) (by simpa using h1) h (by omega)
      simpa using this
    · rw [if_pos (by omega), w64 (x := D - S (12 * a) - 365) (by omega) (by omega), show D - S (12 * a) - 365 - q = D - S (12 * (a + 1)) by omega, w64 (by omega) (by omega), w64 (by omega) (by omega)]
      have := ih (a + 1) k (by omega) (by omega) (by rw [show a + 1 + n = a + (n + 1) by omega]; exact h2) (by omega)
      rw [show (1980 : Int) + ((a + 1 : Nat) : Int) = 1980 + (a : Int) + 1 by omega] at this
      exact this
theorem dateOf_s {k : Nat} (hk : 2000 ≤ k) {D y m d : Int} (h : okDate y m d) (hD : dayNo y m d = D) : spec_DateOf.f k D = some (y, m, d) := by
  have hS := S_all
  have hb := dayNo_in h
  obtain ⟨i, g1, g2, g3, g4⟩ := dateOfs_y D 120 0 k (by omega) (by simp [S]; omega) (by rw [show 12 * (0 + 120) = 1440 by rfl, hS]; omega) (by omega)
  obtain ⟨w1, w2⟩ := okDate_at i g1 D g2 g3
  obtain ⟨e1, e2, e3⟩ := dayNo_inj h w1 (hD.trans w2.symm)
  unfold spec_DateOf.f
  rw [inRange_eq, Option.bind_some, if_pos (by simp; omega)]
  rw [Nat.mul_zero] at g4
  simp only [S, Int.sub_zero] at g4
  rw [e1, e2, e3]
  exact g4
theorem fixAt_i {k : Nat} (hk : 2000 ≤ k) (t n : Int) (ht : 0 ≤ t ∧ t ≤ 3786479999) (hn : 0 ≤ n ∧ n ≤ 32) :
    ∃ y m d, impl_FixAt.f k t n = some (y, m, d, t % 86400, n) ∧ okDate y m d ∧ dayNo y m d = t / 86400 + 5 := by
  obtain ⟨y, m, d, e, h1, h2⟩ := dateOf_i hk (t / 86400 + 5) (by omega)
  refine ⟨y, m, d, ?_, h1, h2⟩
  unfold impl_FixAt.f impl_isTime.f
  rw [within_eq, Option.bind_some, Option.bind_some, if_pos (decide_eq_true ht), within_eq, Option.bind_some, if_pos (decide_eq_true hn), td ht.1, w64 (x := t / 86400) (by omega) (by omega), w64 (by omega) (by omega), e, Option.bind_some, tm ht.1]
theorem fixAt_out_i {k : Nat} (t n : Int) (h : ¬ ((0 ≤ t ∧ t ≤ 3786479999) ∧ 0 ≤ n ∧ n ≤ 32)) : impl_FixAt.f k t n = some (0, 0, 0, 0, 0) := by
  unfold impl_FixAt.f impl_isTime.f
  rw [within_eq, Option.bind_some, Option.bind_some]
  by_cases ht : 0 ≤ t ∧ t ≤ 3786479999
  · rw [if_pos (decide_eq_true ht), within_eq, Option.bind_some, if_neg (by simp only [decide_eq_true_eq]; exact fun g => h ⟨ht, g⟩)]
  · rw [if_neg (by simpa using ht)]
theorem fixAt_s {k : Nat} (hk : 2000 ≤ k) (t n : Int) (ht : 0 ≤ t ∧ t ≤ 3786479999) (hn : 0 ≤ n ∧ n ≤ 32) {y m d : Int} (h1 : okDate y m d) (h2 : dayNo y m d = t / 86400 + 5) :
    spec_FixAt.f k t n = some (y, m, d, t % 86400, n) := by
  unfold spec_FixAt.f spec_validTime.f
  rw [inRange_eq, Option.bind_some, Option.bind_some, if_pos (decide_eq_true ht), inRange_eq, Option.bind_some, if_pos (decide_eq_true hn), td ht.1, w64 (x := t / 86400) (by omega) (by omega), w64 (by omega) (by omega), dateOf_s hk h1 (by omega), Option.bind_some, tm ht.1]
theorem fixAt_out_s {k : Nat} (t n : Int) (h : ¬ ((0 ≤ t ∧ t ≤ 3786479999) ∧ 0 ≤ n ∧ n ≤ 32)) : spec_FixAt.f k t n = some (0, 0, 0, 0, 0) := by
  unfold spec_FixAt.f spec_validTime.f
  rw [inRange_eq, Option.bind_some, Option.bind_some]
  by_cases ht : 0 ≤ t ∧ t ≤ 3786479999
  · rw [if_pos (decide_eq_true ht), inRange_eq, Option.bind_some, if_neg (by simp only [decide_eq_true_eq]; exact fun g => h ⟨ht, g⟩)]
  · rw [if_neg (by simpa using ht)]
end KFnExactFixAt
open KFnExactFixAt
theorem FnExactFixAt (t n : Int) (_ : (Lit.int .i64 t).wf = true) (_ : (Lit.int .i64 n).wf = true) : ∃ k, laws_FnExactFixAt.f k t n = some true := by
  refine ⟨2000, ?_⟩
  unfold laws_FnExactFixAt.f laws_eqFix.f laws_eqDate.f
  by_cases h : (0 ≤ t ∧ t ≤ 3786479999) ∧ 0 ≤ n ∧ n ≤ 32
  · obtain ⟨y, m, d, e, h1, h2⟩ := fixAt_i (k := 2000) (by omega) t n h.1 h.2
    rw [fixAt_s (by omega) t n h.1 h.2 h1 h2, Option.bind_some, e, Option.bind_some]
    simp
  · rw [fixAt_out_s t n h, Option.bind_some, fixAt_out_i t n h, Option.bind_some]
    simp

end Go.Proofs.Ytleblmimoamdmaa.Pure
