/- Proved: FixAt the next second has the next second, or the first second of the next day, at every code (law FnFixAtNext); no condition beyond the statement's own. -/
import Derived.Test.YtleblmimoamdmaaPFnFixAtNextx
import Derived.Laws.BitsLemmas
import Derived.Test.YtleblmimoamdmaaWalkFnFixAtNext
namespace Go.Proofs.Ytleblmimoamdmaa.Pure
open Go Go.RowKit Go.Proofs.Ytleblmimoamdmaa.PFnFixAtNext Go.Proofs.YtleblmimoamdmaaW.PrintWords Go.Proofs.YtleblmimoamdmaaW.PrintLast Go.Proofs.YtleblmimoamdmaaW.PrintMore

namespace KFnFixAtNext
theorem w64 {x : Int} (h1 : -9223372036854775808 ≤ x) (h2 : x < 9223372036854775808) : wrap64 x = x := by unfold wrap64; omega
theorem i64wrap (x : Int) : IntKind.i64.wrap x = wrap64 x := by rw [IntKind.wrap_i64]; unfold wrap64; rfl
theorem tm {a b : Int} (h : 0 ≤ a) : Int.tmod a b = a % b := Int.tmod_eq_emod_of_nonneg h
theorem td {a b : Int} (h : 0 ≤ a) : Int.tdiv a b = a / b := Int.tdiv_eq_ediv_of_nonneg h
theorem sval {α : Type} {x : Option α} {a : α} (h : x = some a) {β : Type} (f : α → Option β) : x.bind f = f a := by rw [h]; rfl
theorem xor_nat (a b : Nat) (ha : a < 2 ^ 62) (hb : b < 2 ^ 62) : Go.bits .xor .i64 (a : Int) (b : Int) = ((a ^^^ b : Nat) : Int) := by
  have hx := Nat.xor_lt_two_pow ha hb
  have e : Go.bits .xor .i64 (a : Int) (b : Int) = wrap64 ((BitVec.ofInt 64 (a : Int) ^^^ BitVec.ofInt 64 (b : Int)).toNat : Int) := by rw [← i64wrap]; rfl
  rw [e, BitVec.ofInt_natCast, BitVec.ofInt_natCast, BitVec.toNat_xor, BitVec.toNat_ofNat, BitVec.toNat_ofNat, Nat.mod_eq_of_lt (by omega), Nat.mod_eq_of_lt (by omega)]
  exact w64 (by omega) (by omega)
theorem xor_ge (a b : Int) (h1 : 0 ≤ a) (h2 : a < 4611686018427387904) (h3 : 0 ≤ b) (h4 : b < 4611686018427387904) : 0 ≤ Go.bits .xor .i64 a b := by
  obtain ⟨x, rfl⟩ := Int.eq_ofNat_of_zero_le h1
  obtain ⟨y, rfl⟩ := Int.eq_ofNat_of_zero_le h3
  rw [xor_nat x y (by omega) (by omega)]
  exact Int.natCast_nonneg _
theorem rd_in {b : List Int} {lo hi : Int} (h : ∀ x ∈ b, lo ≤ x ∧ x ≤ hi) {i : Int} (h0 : 0 ≤ i) (h1 : i < b.length) : lo ≤ rd b i ∧ rd b i ≤ hi := by
  have hi' : i.toNat < b.length := by omega
  have e : rd b i = b[i.toNat] := by unfold rd; simp [List.getD_eq_getElem?_getD, List.getElem?_eq_getElem hi']
  rw [e]
  exact h _ (List.getElem_mem hi')
theorem rd_mem {b : List Int} {i : Int} (h0 : 0 ≤ i) (h1 : i < b.length) : rd b i ∈ b := by
  have hi' : i.toNat < b.length := by omega
  have e : rd b i = b[i.toNat] := by unfold rd; simp [List.getD_eq_getElem?_getD, List.getElem?_eq_getElem hi']
  rw [e]
  exact List.getElem_mem hi'
/-- What the reader holds: bytes, no more than two thousand. -/
def Bytes (b : List Int) : Prop := (∀ x ∈ b, 0 ≤ x ∧ x ≤ 255) ∧ b.length ≤ 2000
theorem pick_ok {k : Nat} (hk : 1 ≤ k) {b : List Int} {p : Int} (n : Int) (hb : Bytes b) (hp : 0 ≤ p) (hp2 : p ≤ 1000000000) :
    ∃ r, spec_reader_pick.f k b p n = some (r, p + 1) ∧ 0 ≤ r ∧ (1 ≤ n → r < n) := by
  obtain ⟨k, rfl⟩ : ∃ m, k = m + 1 := ⟨k - 1, by omega⟩
  obtain ⟨hb, hl⟩ := hb
  unfold spec_reader_pick.f
  rw [w64 (x := p + 1) (by omega) (by omega)]
  by_cases hn : n < 1
  · exact ⟨0, by rw [if_pos hn]; simp only [spec_reader_pick.j0, if_true], by omega, fun h => by omega⟩
  rw [if_neg hn]
  by_cases h0 : (b.length : Int) = 0
  · exact ⟨0, by rw [beq_iff_eq.2 h0]; simp only [spec_reader_pick.j0, if_true], by omega, fun h => by omega⟩
  rw [beq_eq_false_iff_ne.2 h0]
  simp only [spec_reader_pick.j0]
  rw [w64 (x := p + 1 - 1) (by omega) (by omega), show p + 1 - 1 = p by omega, if_neg (by simp)]
  by_cases h1 : p < (b.length : Int)
  · have hr := rd_in hb hp h1
    rw [if_pos h1, if_pos hp, if_neg (by omega), w64 (by omega) (by omega), tm hr.1]
    exact ⟨_, rfl, Int.emod_nonneg _ (by omega), fun _ => Int.emod_lt_of_pos _ (by omega)⟩
  · have hL : 0 < (b.length : Int) := by omega
    have m1 := Int.emod_nonneg p (b := b.length) (by omega)
    have m2 := Int.emod_lt_of_pos p hL
    have m3 := Int.emod_nonneg (p * 7 + 3) (b := b.length) (by omega)
    have m4 := Int.emod_lt_of_pos (p * 7 + 3) hL
    have d1 := Int.ediv_nonneg hp (b := b.length) (by omega)
    have d2 : p / (b.length : Int) ≤ p := Int.ediv_le_self _ hp
    have r1 := rd_in hb m1 m2
    have r2 := rd_in hb m3 m4
    rw [w64 (x := p * 7) (by omega) (by omega), w64 (x := p * 7 + 3) (by omega) (by omega), tm hp, tm (show 0 ≤ p * 7 + 3 by omega), td hp]
    rw [if_neg h1, if_neg h0, if_pos m1, if_pos m2, if_pos m3, if_pos m4, if_neg (by omega)]
    generalize rd b (p % (b.length : Int)) = A at r1 ⊢
    generalize rd b ((p * 7 + 3) % (b.length : Int)) = B at r2 ⊢
    generalize p / (b.length : Int) = q at d1 d2 ⊢
    rw [w64 (x := A) (by omega) (by omega), w64 (x := B) (by omega) (by omega), w64 (x := q) (by omega) (by omega), w64 (x := A * 131) (by omega) (by omega), w64 (x := B * 1117) (by omega) (by omega), w64 (x := p * 29) (by omega) (by omega), w64 (x := q * 53) (by omega) (by omega), w64 (x := A * 131 + B * 1117) (by omega) (by omega), w64 (x := A * 131 + B * 1117 + p * 29) (by omega) (by omega), w64 (x := A * 131 + B * 1117 + p * 29 + q * 53) (by omega) (by omega)]
    rw [td (show 0 ≤ A * 131 + B * 1117 + p * 29 + q * 53 by omega), w64 (x := (A * 131 + B * 1117 + p * 29 + q * 53) / 64) (by omega) (by omega)]
    have hx := xor_ge (A * 131 + B * 1117 + p * 29 + q * 53) ((A * 131 + B * 1117 + p * 29 + q * 53) / 64) (by omega) (by omega) (by omega) (by omega)
    rw [tm hx]
    exact ⟨_, rfl, Int.emod_nonneg _ (by omega), fun _ => Int.emod_lt_of_pos _ (by omega)⟩
theorem newReader_ok {l : List Int} (hb : ∀ x ∈ l, (Lit.int .u8 x).wf = true) : ∃ b, spec_newReader.f l = some (b, 0) ∧ Bytes b := by
  have hb' : ∀ x ∈ l, 0 ≤ x ∧ x ≤ 255 := fun x hx => by
    have := hb x hx
    simp [Lit.wf, IntKind.min, IntKind.max, IntKind.signed, IntKind.bits] at this
    omega
  unfold spec_newReader.f
  by_cases h : (l.length : Int) > 2000
  · exact ⟨l.take 2000, by rw [if_pos h, if_pos (by omega)], fun x hx => hb' x (List.mem_of_mem_take hx), by simp; omega⟩
  · exact ⟨l, by rw [if_neg h], hb', by omega⟩
theorem one_ok {k : Nat} (hk : 1 ≤ k) {b : List Int} {p : Int} (l : List Int) (hb : Bytes b) (hp : 0 ≤ p) (hp2 : p ≤ 1000000000) (hl : 1 ≤ (l.length : Int)) :
    ∃ r, spec_reader_one.f k b p l = some (r, p + 1) ∧ r ∈ l := by
  obtain ⟨r, e, h0, h1⟩ := pick_ok hk (l.length : Int) hb hp hp2
  unfold spec_reader_one.f
  rw [e]
  simp only [Option.bind_some]
  rw [if_pos h0, if_pos (h1 hl)]
  exact ⟨_, rfl, rd_mem h0 (h1 hl)⟩
theorem within_eq (n lo hi : Int) : impl_within.f n lo hi = some (decide (lo ≤ n ∧ n ≤ hi)) := by
  unfold impl_within.f
  by_cases h : lo ≤ n <;> simp [h]
theorem inRange_eq (n lo hi : Int) : spec_inRange.f n lo hi = some (decide (lo ≤ n ∧ n ≤ hi)) := by
  unfold spec_inRange.f
  by_cases h : lo ≤ n <;> simp [h]
/-- The days of a month of a year in 1980..2099. -/
def mdays (y m : Int) : Int :=
  if m = 2 then (if y % 4 = 0 then 29 else 28) else if m = 4 ∨ m = 6 ∨ m = 9 ∨ m = 11 then 30 else 31
theorem mdays_in (y m : Int) : 28 ≤ mdays y m ∧ mdays y m ≤ 31 := by unfold mdays; split <;> (try split) <;> omega
/-- The days before the month number i, counted from 0 for the first month of 1980. -/
def S : Nat → Int
  | 0 => 0
  | i + 1 => S i + mdays (1980 + (i / 12 : Nat)) ((i % 12 : Nat) + 1)
theorem S_succ (i : Nat) : S (i + 1) = S i + mdays (1980 + (i / 12 : Nat)) ((i % 12 : Nat) + 1) := rfl
theorem S_at (a j : Nat) (h : j < 12) : S (12 * a + j + 1) = S (12 * a + j) + mdays (1980 + (a : Int)) ((j : Int) + 1) := by
  rw [S_succ, show (12 * a + j) / 12 = a by omega, show (12 * a + j) % 12 = j by omega]
theorem S_lt (i : Nat) : S i + 28 ≤ S (i + 1) ∧ S (i + 1) ≤ S i + 31 := by
  have := mdays_in (1980 + (i / 12 : Nat)) ((i % 12 : Nat) + 1)
  rw [S_succ]
  omega
theorem S_mono {i j : Nat} (h : i ≤ j) : S i ≤ S j := by
  induction j with
  | zero => obtain rfl : i = 0 := by omega
            exact Int.le_refl _
  | succ j ih =>
    by_cases e : i = j + 1
    · subst e; exact Int.le_refl _
    · have := ih (by omega); have := S_lt j; omega
theorem S_same {i j : Nat} {D : Int} (h1 : S i ≤ D) (h2 : D < S (i + 1)) (h3 : S j ≤ D) (h4 : D < S (j + 1)) : i = j := by
  by_cases a : i < j
  · have := S_mono (show i + 1 ≤ j by omega); omega
  · by_cases b : j < i
    · have := S_mono (show j + 1 ≤ i by omega); omega
    · omega
theorem S_nonneg (i : Nat) : 0 ≤ S i := S_mono (i := 0) (Nat.zero_le i)
theorem S_year (a : Nat) : S (12 * (a + 1)) = S (12 * a) + (365 + if (1980 + (a : Int)) % 4 = 0 then 1 else 0) := by
  have e0 := S_at a 0 (by omega)
  have e1 := S_at a 1 (by omega)
  have e2 := S_at a 2 (by omega)
  have e3 := S_at a 3 (by omega)
  have e4 := S_at a 4 (by omega)
  have e5 := S_at a 5 (by omega)
  have e6 := S_at a 6 (by omega)
  have e7 := S_at a 7 (by omega)
  have e8 := S_at a 8 (by omega)
  have e9 := S_at a 9 (by omega)
  have e10 := S_at a 10 (by omega)
  have e11 := S_at a 11 (by omega)
  simp [mdays] at e0 e1 e2 e3 e4 e5 e6 e7 e8 e9 e10 e11
  rw [show 12 * (a + 1) = 12 * a + 11 + 1 by omega, e11, e10, e9, e8, e7, e6, e5, e4, e3, e2, e1, e0]
  split <;> omega
theorem S_years (a : Nat) : S (12 * a) = 365 * a + ((a : Int) + 3) / 4 := by
  induction a with
  | zero => rfl
  | succ a ih =>
    rw [S_year, ih]
    split <;> omega
theorem S_all : S 1440 = 43830 := S_years 120
/-- Each day of the span lies in one month. -/
theorem S_find (n : Nat) : ∀ D : Int, 0 ≤ D → D < S n → ∃ i, i < n ∧ S i ≤ D ∧ D < S (i + 1) := by
  induction n with
  | zero => intro D h0 h1; simp [S] at h1; omega
  | succ n ih =>
    intro D h0 h1
    by_cases h : D < S n
    · obtain ⟨i, a, b, c⟩ := ih D h0 h
      exact ⟨i, by omega, b, c⟩
    · exact ⟨n, by omega, by omega, h1⟩
theorem S_le (i : Nat) : S i ≤ 31 * i := by
  induction i with
  | zero => simp [S]
  | succ i ih => have := S_lt i; omega
theorem leap_i (y : Int) (h : 1980 ≤ y ∧ y ≤ 2099) : impl_IsLeapYear.f y = some (decide (y % 4 = 0)) := by
  unfold impl_IsLeapYear.f
  rw [within_eq, tm (show 0 ≤ y by omega), tm (show 0 ≤ y by omega), tm (show 0 ≤ y by omega)]
  simp only [Option.bind_some, decide_eq_true h, if_true]
  by_cases h4 : y % 4 = 0
  · rw [if_pos h4, decide_eq_true h4]
    by_cases h1 : y % 100 = 0
    · rw [if_pos h1, beq_iff_eq.2 (by omega)]
    · rw [if_neg h1]
  · rw [if_neg h4, decide_eq_false h4, beq_eq_false_iff_ne.2 (by omega)]
theorem monthDays_i {k : Nat} (hk : 1 ≤ k) (y m : Int) : impl_MonthDays.f k y m = some (if (1980 ≤ y ∧ y ≤ 2099) ∧ 1 ≤ m ∧ m ≤ 12 then mdays y m else -1) := by
  obtain ⟨k, rfl⟩ : ∃ n, k = n + 1 := ⟨k - 1, by omega⟩
  unfold impl_MonthDays.f
  rw [within_eq, within_eq]
  simp only [Option.bind_some, impl_MonthDays.j0, if_true]
  by_cases h1 : 1980 ≤ y ∧ y ≤ 2099
  · by_cases h2 : 1 ≤ m ∧ m ≤ 12
    · rw [if_pos (decide_eq_true h1), if_neg (by simp [h2]), if_pos (show (1980 ≤ y ∧ y ≤ 2099) ∧ 1 ≤ m ∧ m ≤ 12 from ⟨h1, h2⟩), leap_i y h1]
      unfold mdays
      by_cases e : m = 2
      · rw [if_pos e, if_pos e]
        by_cases e4 : y % 4 = 0
        · simp [e4]
        · simp [e4]
      · rw [if_neg e, if_neg e]
        by_cases e2 : m = 4
        · rw [if_pos e2, if_pos (by omega)]
        · rw [if_neg e2]
          by_cases e3 : m = 6
          · rw [if_pos e3, if_pos (by omega)]
          · rw [if_neg e3]
            by_cases e4 : m = 9
            · rw [if_pos e4, if_pos (by omega)]
            · rw [if_neg e4]
              by_cases e5 : m = 11
              · rw [if_pos e5, if_pos (by omega)]
              · rw [if_neg e5, if_neg (by omega)]
    · rw [if_pos (decide_eq_true h1), if_pos (by simp; omega), if_neg (by omega)]
  · rw [if_neg (by simp; omega), if_neg (by omega)]
/-- A date of the span. -/
def okDate (y m d : Int) : Prop := (1980 ≤ y ∧ y ≤ 2099) ∧ (1 ≤ m ∧ m ≤ 12) ∧ 1 ≤ d ∧ d ≤ mdays y m
instance (y m d : Int) : Decidable (okDate y m d) := by unfold okDate; infer_instance
/-- The number of a day. -/
def dayNo (y m d : Int) : Int := d - 1 + S (12 * (y - 1980).toNat + (m - 1).toNat)
theorem leap_s (y : Int) (h : 1980 ≤ y ∧ y ≤ 2099) : spec_leap.f y = some (decide (y % 4 = 0)) := by
  unfold spec_leap.f
  rw [tm (show 0 ≤ y by omega), tm (show 0 ≤ y by omega), tm (show 0 ≤ y by omega)]
  by_cases h4 : y % 4 = 0
  · rw [if_pos h4, decide_eq_true h4]
    by_cases h1 : y % 100 = 0
    · rw [if_pos h1, beq_iff_eq.2 (by omega)]
    · rw [if_neg h1]
  · rw [if_neg h4, decide_eq_false h4, beq_eq_false_iff_ne.2 (by omega)]
theorem monthDays_s (y m : Int) (h : 1980 ≤ y ∧ y ≤ 2099) (hm : 1 ≤ m ∧ m ≤ 12) : spec_monthDays.f y m = some (mdays y m) := by
  unfold spec_monthDays.f
  rw [w64 (by omega) (by omega), Option.bind_some, if_pos (by omega), if_pos (by simp; omega), leap_s y h, Option.bind_some]
  rcases (by omega : m = 1 ∨ m = 2 ∨ m = 3 ∨ m = 4 ∨ m = 5 ∨ m = 6 ∨ m = 7 ∨ m = 8 ∨ m = 9 ∨ m = 10 ∨ m = 11 ∨ m = 12) with rfl | rfl | rfl | rfl | rfl | rfl | rfl | rfl | rfl | rfl | rfl | rfl
  · rfl
  · by_cases h4 : y % 4 = 0
    · simp only [h4, decide_true, if_true, mdays]; decide +kernel
    · simp only [h4, decide_false, mdays, if_false, Bool.false_eq_true, if_true]; rfl
  all_goals rfl
theorem dayOf_year (c : Int) (hc : 0 ≤ c ∧ c ≤ 31) (Y M D : Int) (hY : Y ≤ 2099) (a : Nat) (ha : 1980 + (a : Int) < Y) (n : Nat) : ∀ (j k : Nat), j + n = 12 → n + 2 ≤ k →
    impl_DayOf.l1 k (c + S (12 * a + j)) (1980 + (a : Int)) ((j : Int) + 1) Y M D = impl_DayOf.l0 (k - (n + 1)) (c + S (12 * (a + 1))) (1980 + ((a + 1 : Nat) : Int)) Y M D := by
  induction n with
  | zero =>
    intro j k hj hk
    obtain ⟨k, rfl⟩ : ∃ n, k = n + 1 := ⟨k - 1, by omega⟩
    obtain rfl : j = 12 := by omega
    simp only [impl_DayOf.l1]
    rw [if_neg (by omega), w64 (by omega) (by omega), show 12 * a + 12 = 12 * (a + 1) by omega]
    congr 1
  | succ n ih =>
    intro j k hj hk
    obtain ⟨k, rfl⟩ : ∃ n, k = n + 1 := ⟨k - 1, by omega⟩
    have e := S_at a j (by omega)
    have b := S_le (12 * a + j + 1)
    have b0 := S_nonneg (12 * a + j + 1)
    simp only [impl_DayOf.l1]
    rw [if_pos (by omega), if_pos ha, monthDays_i (by omega), if_pos (by omega)]
    simp only [Option.bind_some]
    rw [show c + S (12 * a + j) + mdays (1980 + (a : Int)) ((j : Int) + 1) = c + S (12 * a + (j + 1)) by rw [show 12 * a + (j + 1) = 12 * a + j + 1 by omega, e]; omega]
    rw [show 12 * a + (j + 1) = 12 * a + j + 1 by omega, w64 (by omega) (by omega), w64 (by omega) (by omega)]
    have := ih (j + 1) k (by omega) (by omega)
    rw [show ((j + 1 : Nat) : Int) = (j : Int) + 1 by omega, show 12 * a + (j + 1) = 12 * a + j + 1 by omega] at this
    rw [this, show k + 1 - (n + 1 + 1) = k - (n + 1) by omega]
theorem dayOf_last (c : Int) (hc : 0 ≤ c ∧ c ≤ 31) (D : Int) (a : Nat) (ha : a < 120) (m : Nat) (hm : m < 12) (n : Nat) : ∀ (j k : Nat), j + n = m → n + 3 ≤ k →
    impl_DayOf.l1 k (c + S (12 * a + j)) (1980 + (a : Int)) ((j : Int) + 1) (1980 + (a : Int)) ((m : Int) + 1) D = some (c + S (12 * a + m)) := by
  induction n with
  | zero =>
    intro j k hj hk
    obtain ⟨k, rfl⟩ : ∃ n, k = n + 2 := ⟨k - 2, by omega⟩
    obtain rfl : j = m := by omega
    simp only [impl_DayOf.l1]
    rw [if_pos (by omega), if_neg (by omega), if_neg (by omega), w64 (by omega) (by omega)]
    simp only [impl_DayOf.l0]
    rw [if_neg (by omega)]
  | succ n ih =>
    intro j k hj hk
    obtain ⟨k, rfl⟩ : ∃ n, k = n + 1 := ⟨k - 1, by omega⟩
    have e := S_at a j (by omega)
    have b := S_le (12 * a + j + 1)
    have b0 := S_nonneg (12 * a + j + 1)
    simp only [impl_DayOf.l1]
    rw [if_pos (by omega), if_neg (by omega), if_pos (by omega), monthDays_i (by omega), if_pos (by omega)]
    simp only [Option.bind_some]
    rw [show c + S (12 * a + j) + mdays (1980 + (a : Int)) ((j : Int) + 1) = c + S (12 * a + j + 1) by rw [e]; omega]
    rw [w64 (by omega) (by omega), w64 (by omega) (by omega)]
    have := ih (j + 1) k (by omega) (by omega)
    rw [show ((j + 1 : Nat) : Int) = (j : Int) + 1 by omega, show 12 * a + (j + 1) = 12 * a + j + 1 by omega] at this
    exact this
theorem dayOf_years (c : Int) (hc : 0 ≤ c ∧ c ≤ 31) (D : Int) (b : Nat) (hb : b < 120) (m : Nat) (hm : m < 12) (n : Nat) : ∀ (a k : Nat), a + n = b → 14 * n + 20 ≤ k →
    impl_DayOf.l0 k (c + S (12 * a)) (1980 + (a : Int)) (1980 + (b : Int)) ((m : Int) + 1) D = some (c + S (12 * b + m)) := by
  induction n with
  | zero =>
    intro a k ha hk
    obtain ⟨k, rfl⟩ : ∃ n, k = n + 1 := ⟨k - 1, by omega⟩
    obtain rfl : a = b := by omega
    simp only [impl_DayOf.l0]
    rw [if_pos (by omega)]
    exact dayOf_last c hc D a hb m hm m 0 k (by omega) (by omega)
  | succ n ih =>
    intro a k ha hk
    obtain ⟨k, rfl⟩ : ∃ n, k = n + 1 := ⟨k - 1, by omega⟩
    simp only [impl_DayOf.l0]
    rw [if_pos (by omega)]
    have := dayOf_year c hc (1980 + (b : Int)) ((m : Int) + 1) D (by omega) a (by omega) 12 0 k (by omega) (by omega)
    rw [Nat.add_zero, show ((0 : Nat) : Int) + 1 = 1 by rfl] at this
    rw [this]
    exact ih (a + 1) (k - (12 + 1)) (by omega) (by omega)
theorem dayOf_i {k : Nat} (hk : 2000 ≤ k) (y m d : Int) : impl_DayOf.f k y m d = some (if okDate y m d then dayNo y m d else -1) := by
  unfold impl_DayOf.f
  rw [monthDays_i (by omega)]
  simp only [Option.bind_some, within_eq]
  by_cases h0 : (1980 ≤ y ∧ y ≤ 2099) ∧ 1 ≤ m ∧ m ≤ 12
  · have hm := mdays_in y m
    rw [if_pos h0]
    by_cases h1 : 1 ≤ d ∧ d ≤ mdays y m
    · have h : okDate y m d := ⟨h0.1, h0.2, h1⟩
      rw [if_pos (decide_eq_true h1), if_pos h, w64 (by omega) (by omega)]
      have := dayOf_years (d - 1) (by omega) d (y - 1980).toNat (by omega) (m - 1).toNat (by omega) (y - 1980).toNat 0 k (by omega) (by omega)
      rw [show (1980 : Int) + ((y - 1980).toNat : Int) = y by omega, show ((m - 1).toNat : Int) + 1 = m by omega] at this
      simpa [S, dayNo] using this
    · rw [if_neg (by simpa using h1), if_neg (fun h => h1 h.2.2)]
  · rw [if_neg h0, if_neg (by simp; omega), if_neg (fun h => h0 ⟨h.1, h.2.1⟩)]
theorem dayNo_in {y m d : Int} (h : okDate y m d) : 0 ≤ dayNo y m d ∧ dayNo y m d ≤ 43829 ∧ ∃ i, i < 1440 ∧ y = 1980 + (i / 12 : Nat) ∧ m = (i % 12 : Nat) + 1 ∧ d = dayNo y m d - S i + 1 ∧ S i ≤ dayNo y m d ∧ dayNo y m d < S (i + 1) := by
  unfold okDate at h
  have e := S_succ (12 * (y - 1980).toNat + (m - 1).toNat)
  rw [show (1980 : Int) + ((12 * (y - 1980).toNat + (m - 1).toNat) / 12 : Nat) = y by omega, show (((12 * (y - 1980).toNat + (m - 1).toNat) % 12 : Nat) : Int) + 1 = m by omega] at e
  have hd : dayNo y m d = d - 1 + S (12 * (y - 1980).toNat + (m - 1).toNat) := rfl
  have b := S_mono (show 12 * (y - 1980).toNat + (m - 1).toNat + 1 ≤ 1440 by omega)
  have b0 := S_nonneg (12 * (y - 1980).toNat + (m - 1).toNat)
  rw [S_all] at b
  exact ⟨by omega, by omega, 12 * (y - 1980).toNat + (m - 1).toNat, by omega, by omega, by omega, by omega, by omega, by omega⟩
/-- A day has one date. -/
theorem dayNo_inj {y m d y' m' d' : Int} (h : okDate y m d) (h' : okDate y' m' d') (e : dayNo y m d = dayNo y' m' d') : y = y' ∧ m = m' ∧ d = d' := by
  obtain ⟨_, _, i, _, a1, a2, a3, a4, a5⟩ := dayNo_in h
  obtain ⟨_, _, j, _, b1, b2, b3, b4, b5⟩ := dayNo_in h'
  have : i = j := S_same a4 a5 (e ▸ b4) (e ▸ b5)
  subst this
  omega
/-- A fix that is valid. -/
def okFix (y m d s n : Int) : Prop := okDate y m d ∧ (0 ≤ s ∧ s ≤ 86400) ∧ 0 ≤ n ∧ n ≤ 32
instance (y m d s n : Int) : Decidable (okFix y m d s n) := by unfold okFix; infer_instance
theorem validFix_i {k : Nat} (hk : 2000 ≤ k) (y m d s n : Int) : impl_ValidFix.f k y m d s n = some (decide (okFix y m d s n)) := by
  unfold impl_ValidFix.f
  rw [dayOf_i hk, Option.bind_some, within_eq, within_eq, Option.bind_some, Option.bind_some]
  by_cases h1 : okDate y m d
  · have := (dayNo_in h1).1
    rw [if_pos h1, if_pos this]
    by_cases h2 : 0 ≤ s ∧ s ≤ 86400
    · rw [if_pos (decide_eq_true h2)]
      exact congrArg some (by simp only [okFix, h1, h2, true_and])
    · rw [if_neg (by simpa using h2), decide_eq_false (fun h => h2 h.2.1)]
  · rw [if_neg h1, if_neg (by omega), decide_eq_false (fun h => h1 h.1)]
theorem okDate_at (i : Nat) (hi : i < 1440) (D : Int) (h1 : S i ≤ D) (h2 : D < S (i + 1)) : okDate (1980 + (i / 12 : Nat)) ((i % 12 : Nat) + 1) (D - S i + 1) ∧ dayNo (1980 + (i / 12 : Nat)) ((i % 12 : Nat) + 1) (D - S i + 1) = D := by
  have e := S_succ i
  constructor
  · exact ⟨by omega, by omega, by omega, by omega⟩
  · unfold dayNo
    rw [show 12 * ((1980 : Int) + (i / 12 : Nat) - 1980).toNat + (((i % 12 : Nat) : Int) + 1 - 1).toNat = i by omega]
    omega
theorem dateOf_l (D : Int) (_h0 : 0 ≤ D) (n : Nat) : ∀ (i k : Nat), i + n ≤ 1440 → S i ≤ D → D < S (i + n) → n + 2 ≤ k →
    ∃ j, j < 1440 ∧ S j ≤ D ∧ D < S (j + 1) ∧ impl_DateOf.l0 k (D - S i) (1980 + (i / 12 : Nat)) ((i % 12 : Nat) + 1) 0 = some ((1980 : Int) + ((j / 12 : Nat) : Int), ((j % 12 : Nat) : Int) + 1, D - S j + 1) := by
  induction n with
  | zero => intro i k hi h1 h2 hk; rw [Nat.add_zero] at h2; omega
  | succ n ih =>
    intro i k hi h1 h2 hk
    obtain ⟨k, rfl⟩ : ∃ n, k = n + 1 := ⟨k - 1, by omega⟩
    have e := S_succ i
    have b := S_le i
    have b0 := S_nonneg i
    have hm := mdays_in (1980 + (i / 12 : Nat)) ((i % 12 : Nat) + 1)
    have bD : D < 100000 := by have := S_le (i + (n + 1)); omega
    have hstep : impl_DateOf.l0 (k + 1) (D - S i) (1980 + (i / 12 : Nat)) ((i % 12 : Nat) + 1) 0 = (if D - S i ≥ mdays (1980 + (i / 12 : Nat)) ((i % 12 : Nat) + 1) then (if (wrap64 (((i % 12 : Nat) : Int) + 1 + 1)) > 12 then (impl_DateOf.l0 k (wrap64 (D - S i - mdays (1980 + (i / 12 : Nat)) ((i % 12 : Nat) + 1))) (wrap64 (1980 + (i / 12 : Nat) + 1)) 1 0) else (impl_DateOf.l0 k (wrap64 (D - S i - mdays (1980 + (i / 12 : Nat)) ((i % 12 : Nat) + 1))) (1980 + (i / 12 : Nat)) (wrap64 (((i % 12 : Nat) : Int) + 1 + 1)) 0)) else some (1980 + ((i / 12 : Nat) : Int), ((i % 12 : Nat) : Int) + 1, wrap64 (D - S i + 1))) := by
      simp only [impl_DateOf.l0]
      rw [monthDays_i (by omega), if_pos (by omega), Option.bind_some, Option.bind_some]
    rw [hstep]
    clear hstep
    by_cases h : D < S (i + 1)
    · refine ⟨i, by omega, h1, h, ?_⟩
      rw [if_neg (by omega), w64 (by omega) (by omega)]
    · rw [if_pos (by omega)]
      have he : D - S i - mdays (1980 + (i / 12 : Nat)) ((i % 12 : Nat) + 1) = D - S (i + 1) := by omega
      rw [he, w64 (x := D - S (i + 1)) (by omega) (by omega)]
      obtain ⟨j, g1, g2, g3, g4⟩ := ih (i + 1) k (by omega) (by omega) (by rw [show i + 1 + n = i + (n + 1) by omega]; exact h2) (by omega)
      refine ⟨j, g1, g2, g3, ?_⟩
      rw [← g4]
      by_cases h12 : i % 12 = 11
      · rw [w64 (x := ((i % 12 : Nat) : Int) + 1 + 1) (by omega) (by omega), if_pos (by omega), w64 (by omega) (by omega), show (1980 : Int) + (i / 12 : Nat) + 1 = 1980 + ((i + 1) / 12 : Nat) by omega, show (((i + 1) % 12 : Nat) : Int) + 1 = 1 by omega]
      · rw [w64 (x := ((i % 12 : Nat) : Int) + 1 + 1) (by omega) (by omega), if_neg (by omega), show (((i + 1) % 12 : Nat) : Int) = ((i % 12 : Nat) : Int) + 1 by omega, show ((i + 1) / 12 : Nat) = i / 12 by omega]
theorem dateOf_i {k : Nat} (hk : 2000 ≤ k) (D : Int) (h : 0 ≤ D ∧ D ≤ 43829) : ∃ y m d, impl_DateOf.f k D = some (y, m, d) ∧ okDate y m d ∧ dayNo y m d = D := by
  have hS := S_all
  obtain ⟨j, g1, g2, g3, g4⟩ := dateOf_l D h.1 1440 0 k (by omega) (by simpa [S] using h.1) (by rw [Nat.zero_add, hS]; omega) (by omega)
  have := okDate_at j g1 D g2 g3
  refine ⟨_, _, _, ?_, this⟩
  unfold impl_DateOf.f
  rw [within_eq]
  simp only [Option.bind_some]
  rw [if_pos (decide_eq_true h), ← g4]
  simp [S]
theorem dateOf_out_i {k : Nat} (D : Int) (h : ¬ (0 ≤ D ∧ D ≤ 43829)) : impl_DateOf.f k D = some (0, 0, 0) := by
  unfold impl_DateOf.f
  rw [within_eq]
  simp only [Option.bind_some]
  rw [if_neg (by simpa using h)]
theorem toInt_eq (b : Bool) : spec_toInt.f b = some (if b = true then 1 else 0) := by unfold spec_toInt.f; split <;> rfl
theorem S_year' (a : Nat) : S (12 * (a + 1)) = S (12 * a) + 365 + (if decide ((1980 + (a : Int)) % 4 = 0) = true then 1 else 0) := by
  rw [S_year]
  by_cases h : (1980 + (a : Int)) % 4 = 0
  · rw [if_pos h, if_pos (decide_eq_true h)]; omega
  · rw [if_neg h, if_neg (by simpa using h)]; omega
theorem dateOfs_m (D : Int) (a : Nat) (ha : a < 120) (n : Nat) : ∀ (j k : Nat), j + n = 12 → S (12 * a + j) ≤ D → D < S (12 * (a + 1)) → n + 1 ≤ k →
    ∃ i, i < 1440 ∧ S i ≤ D ∧ D < S (i + 1) ∧ spec_DateOf.l1 k (D - S (12 * a + j)) (1980 + (a : Int)) ((j : Int) + 1) = some ((1980 : Int) + ((i / 12 : Nat) : Int), ((i % 12 : Nat) : Int) + 1, D - S i + 1) := by
  induction n with
  | zero =>
    intro j k hj h1 h2 hk
    obtain rfl : j = 12 := by omega
    rw [show 12 * a + 12 = 12 * (a + 1) by omega] at h1
    omega
  | succ n ih =>
    intro j k hj h1 h2 hk
    obtain ⟨k, rfl⟩ : ∃ n, k = n + 1 := ⟨k - 1, by omega⟩
    have e := S_at a j (by omega)
    have b := S_le (12 * (a + 1))
    have b0 := S_nonneg (12 * a + j)
    have hm := mdays_in (1980 + (a : Int)) ((j : Int) + 1)
    have hstep : spec_DateOf.l1 (k + 1) (D - S (12 * a + j)) (1980 + (a : Int)) ((j : Int) + 1) = (if D - S (12 * a + j) ≥ mdays (1980 + (a : Int)) ((j : Int) + 1) then spec_DateOf.l1 k (wrap64 (D - S (12 * a + j) - mdays (1980 + (a : Int)) ((j : Int) + 1))) (1980 + (a : Int)) (wrap64 ((j : Int) + 1 + 1)) else some (1980 + (a : Int), (j : Int) + 1, wrap64 (D - S (12 * a + j) + 1))) := by
      simp only [spec_DateOf.l1]
      rw [monthDays_s _ _ (by omega) (by omega), Option.bind_some, Option.bind_some]
    rw [hstep]
    clear hstep
    by_cases h : D < S (12 * a + j + 1)
    · refine ⟨12 * a + j, by omega, h1, h, ?_⟩
      rw [if_neg (by omega), w64 (by omega) (by omega), show (12 * a + j) / 12 = a by omega, show (12 * a + j) % 12 = j by omega]
    · rw [if_pos (by omega), show D - S (12 * a + j) - mdays (1980 + (a : Int)) ((j : Int) + 1) = D - S (12 * a + j + 1) by omega, w64 (by omega) (by omega), w64 (by omega) (by omega)]
      have := ih (j + 1) k (by omega) (by rw [show 12 * a + (j + 1) = 12 * a + j + 1 by omega]; omega) h2 (by omega)
      rw [show ((j + 1 : Nat) : Int) = (j : Int) + 1 by omega, show 12 * a + (j + 1) = 12 * a + j + 1 by omega] at this
      exact this
theorem dateOfs_y (D : Int) (n : Nat) : ∀ (a k : Nat), a + n = 120 → S (12 * a) ≤ D → D < S (12 * (a + n)) → n + 20 ≤ k →
    ∃ i, i < 1440 ∧ S i ≤ D ∧ D < S (i + 1) ∧ spec_DateOf.l0 k (D - S (12 * a)) (1980 + (a : Int)) = some ((1980 : Int) + ((i / 12 : Nat) : Int), ((i % 12 : Nat) : Int) + 1, D - S i + 1) := by
  induction n with
  | zero => intro a k ha h1 h2 hk; rw [Nat.add_zero] at h2; omega
  | succ n ih =>
    intro a k ha h1 h2 hk
    obtain ⟨k, rfl⟩ : ∃ n, k = n + 1 := ⟨k - 1, by omega⟩
    have e := S_year' a
    have b := S_le (12 * (a + (n + 1)))
    have b0 := S_nonneg (12 * a)
    have hq : 0 ≤ (if decide ((1980 + (a : Int)) % 4 = 0) = true then (1 : Int) else 0) ∧ (if decide ((1980 + (a : Int)) % 4 = 0) = true then (1 : Int) else 0) ≤ 1 := by split <;> omega
    have hstep : spec_DateOf.l0 (k + 1) (D - S (12 * a)) (1980 + (a : Int)) = (if D - S (12 * a) ≥ wrap64 (365 + if decide ((1980 + (a : Int)) % 4 = 0) = true then 1 else 0) then spec_DateOf.l0 k (wrap64 (wrap64 (D - S (12 * a) - 365) - if decide ((1980 + (a : Int)) % 4 = 0) = true then 1 else 0)) (wrap64 (1980 + (a : Int) + 1)) else spec_DateOf.l1 k (D - S (12 * a)) (1980 + (a : Int)) 1) := by
      simp only [spec_DateOf.l0]
      rw [leap_s _ (by omega), Option.bind_some, toInt_eq, Option.bind_some, Option.bind_some, toInt_eq, Option.bind_some]
    rw [hstep]
    clear hstep
    generalize (if decide ((1980 + (a : Int)) % 4 = 0) = true then (1 : Int) else 0) = q at *
    rw [w64 (x := 365 + q) (by omega) (by omega)]
    by_cases h : D < S (12 * (a + 1))
    · rw [if_neg (by omega)]
      have := dateOfs_m D a (by omega) 12 0 k (by omega) (by simpa using h1) h (by omega)
      simpa using this
    · rw [if_pos (by omega), w64 (x := D - S (12 * a) - 365) (by omega) (by omega), show D - S (12 * a) - 365 - q = D - S (12 * (a + 1)) by omega, w64 (by omega) (by omega), w64 (by omega) (by omega)]
      have := ih (a + 1) k (by omega) (by omega) (by rw [show a + 1 + n = a + (n + 1) by omega]; exact h2) (by omega)
      rw [show (1980 : Int) + ((a + 1 : Nat) : Int) = 1980 + (a : Int) + 1 by omega] at this
      exact this
theorem dateOf_s {k : Nat} (hk : 2000 ≤ k) {D y m d : Int} (h : okDate y m d) (hD : dayNo y m d = D) : spec_DateOf.f k D = some (y, m, d) := by
  have hS := S_all
  have hb := dayNo_in h
  obtain ⟨i, g1, g2, g3, g4⟩ := dateOfs_y D 120 0 k (by omega) (by simp [S]; omega) (by rw [show 12 * (0 + 120) = 1440 by rfl, hS]; omega) (by omega)
  obtain ⟨w1, w2⟩ := okDate_at i g1 D g2 g3
  obtain ⟨e1, e2, e3⟩ := dayNo_inj h w1 (hD.trans w2.symm)
  unfold spec_DateOf.f
  rw [inRange_eq, Option.bind_some, if_pos (by simp; omega)]
  rw [Nat.mul_zero] at g4
  simp only [S, Int.sub_zero] at g4
  rw [e1, e2, e3]
  exact g4
theorem fixAt_i {k : Nat} (hk : 2000 ≤ k) (t n : Int) (ht : 0 ≤ t ∧ t ≤ 3786479999) (hn : 0 ≤ n ∧ n ≤ 32) :
    ∃ y m d, impl_FixAt.f k t n = some (y, m, d, t % 86400, n) ∧ okDate y m d ∧ dayNo y m d = t / 86400 + 5 := by
  obtain ⟨y, m, d, e, h1, h2⟩ := dateOf_i hk (t / 86400 + 5) (by omega)
  refine ⟨y, m, d, ?_, h1, h2⟩
  unfold impl_FixAt.f impl_isTime.f
  rw [within_eq, Option.bind_some, Option.bind_some, if_pos (decide_eq_true ht), within_eq, Option.bind_some, if_pos (decide_eq_true hn), td ht.1, w64 (x := t / 86400) (by omega) (by omega), w64 (by omega) (by omega), e, Option.bind_some, tm ht.1]
theorem fixAt_out_i {k : Nat} (t n : Int) (h : ¬ ((0 ≤ t ∧ t ≤ 3786479999) ∧ 0 ≤ n ∧ n ≤ 32)) : impl_FixAt.f k t n = some (0, 0, 0, 0, 0) := by
  unfold impl_FixAt.f impl_isTime.f
  rw [within_eq, Option.bind_some, Option.bind_some]
  by_cases ht : 0 ≤ t ∧ t ≤ 3786479999
  · rw [if_pos (decide_eq_true ht), within_eq, Option.bind_some, if_neg (by simp only [decide_eq_true_eq]; exact fun g => h ⟨ht, g⟩)]
  · rw [if_neg (by simpa using ht)]
theorem fixAt_s {k : Nat} (hk : 2000 ≤ k) (t n : Int) (ht : 0 ≤ t ∧ t ≤ 3786479999) (hn : 0 ≤ n ∧ n ≤ 32) {y m d : Int} (h1 : okDate y m d) (h2 : dayNo y m d = t / 86400 + 5) :
    spec_FixAt.f k t n = some (y, m, d, t % 86400, n) := by
  unfold spec_FixAt.f spec_validTime.f
  rw [inRange_eq, Option.bind_some, Option.bind_some, if_pos (decide_eq_true ht), inRange_eq, Option.bind_some, if_pos (decide_eq_true hn), td ht.1, w64 (x := t / 86400) (by omega) (by omega), w64 (by omega) (by omega), dateOf_s hk h1 (by omega), Option.bind_some, tm ht.1]
theorem fixAt_out_s {k : Nat} (t n : Int) (h : ¬ ((0 ≤ t ∧ t ≤ 3786479999) ∧ 0 ≤ n ∧ n ≤ 32)) : spec_FixAt.f k t n = some (0, 0, 0, 0, 0) := by
  unfold spec_FixAt.f spec_validTime.f
  rw [inRange_eq, Option.bind_some, Option.bind_some]
  by_cases ht : 0 ≤ t ∧ t ≤ 3786479999
  · rw [if_pos (decide_eq_true ht), inRange_eq, Option.bind_some, if_neg (by simp only [decide_eq_true_eq]; exact fun g => h ⟨ht, g⟩)]
  · rw [if_neg (by simpa using ht)]
/-- FixAt of the program and of the reference are the same fix: a valid one, or the zero value. -/
theorem fixAt_both {k : Nat} (hk : 2000 ≤ k) (t n : Int) : ∃ y m d s v, impl_FixAt.f k t n = some (y, m, d, s, v) ∧ spec_FixAt.f k t n = some (y, m, d, s, v) ∧
    (okFix y m d s v → (0 ≤ t ∧ t ≤ 3786479999) ∧ (0 ≤ n ∧ n ≤ 32) ∧ dayNo y m d = t / 86400 + 5 ∧ s = t % 86400 ∧ v = n) := by
  by_cases h : (0 ≤ t ∧ t ≤ 3786479999) ∧ 0 ≤ n ∧ n ≤ 32
  · obtain ⟨y, m, d, e, h1, h2⟩ := fixAt_i hk t n h.1 h.2
    exact ⟨y, m, d, _, _, e, fixAt_s hk t n h.1 h.2 h1 h2, fun _ => ⟨h.1, h.2, h2, rfl, rfl⟩⟩
  · refine ⟨0, 0, 0, 0, 0, fixAt_out_i t n h, fixAt_out_s t n h, fun g => ?_⟩
    have := g.1.1.1
    omega
/-- The same with a round less. -/
theorem fixAt_both' {k : Nat} (hk : 2000 ≤ k) (t n : Int) : ∃ y m d s v, impl_FixAt.f (k + 1) t n = some (y, m, d, s, v) ∧ spec_FixAt.f (k + 1) t n = some (y, m, d, s, v) ∧
    (okFix y m d s v → (0 ≤ t ∧ t ≤ 3786479999) ∧ (0 ≤ n ∧ n ≤ 32) ∧ dayNo y m d = t / 86400 + 5 ∧ s = t % 86400 ∧ v = n) ∧ spec_FixAt.f k t n = some (y, m, d, s, v) := by
  by_cases h : (0 ≤ t ∧ t ≤ 3786479999) ∧ 0 ≤ n ∧ n ≤ 32
  · obtain ⟨y, m, d, e, h1, h2⟩ := fixAt_i (k := k + 1) (by omega) t n h.1 h.2
    exact ⟨y, m, d, _, _, e, fixAt_s (by omega) t n h.1 h.2 h1 h2, fun _ => ⟨h.1, h.2, h2, rfl, rfl⟩, fixAt_s hk t n h.1 h.2 h1 h2⟩
  · refine ⟨0, 0, 0, 0, 0, fixAt_out_i t n h, fixAt_out_s t n h, fun g => ?_, fixAt_out_s t n h⟩
    have := g.1.1.1
    omega
theorem someTime_ok {k : Nat} (hk : 1 ≤ k) {b : List Int} {p : Int} (hb : Bytes b) (hp : 0 ≤ p) (hp2 : p ≤ 999999000) :
    ∃ x q, spec_someTime.f k b p = some (x, q) ∧ 0 ≤ q ∧ q ≤ p + 3 ∧ 0 ≤ x ∧ x ≤ 100000000000 := by
  obtain ⟨r1, e1, l1, u1⟩ := pick_ok hk (p := p) 6 hb (by omega) (by omega)
  obtain ⟨r2, e2, l2⟩ := one_ok hk (p := p + 1) [0, 1, 604799, 604800, 619315199, 619315200, 3786479999] hb (by omega) (by omega) (by simp)
  obtain ⟨r3, e3, l3, u3⟩ := pick_ok hk (p := p + 1) 250 hb (by omega) (by omega)
  obtain ⟨r4, e4, l4, u4⟩ := pick_ok hk (p := p + 1) 200 hb (by omega) (by omega)
  obtain ⟨r5, e5, l5, u5⟩ := pick_ok hk (p := p + 1 + 1) 250 hb (by omega) (by omega)
  have := u1 (by omega); have := u3 (by omega); have := u4 (by omega); have := u5 (by omega)
  unfold spec_someTime.f
  rw [e1, Option.bind_some]
  by_cases h0 : r1 = 0
  · rw [if_pos h0, e2, Option.bind_some]
    simp at l2
    exact ⟨_, _, rfl, by omega, by omega, by omega, by omega⟩
  · rw [if_neg h0]
    by_cases h1 : r1 = 1
    · rw [if_pos h1, e3, Option.bind_some, w64 (by omega) (by omega)]
      exact ⟨_, _, rfl, by omega, by omega, by omega, by omega⟩
    · rw [if_neg h1, e4, Option.bind_some, e5, Option.bind_some, w64 (x := 604800 * r4) (by omega) (by omega), w64 (x := 604800 * r4 * 10) (by omega) (by omega), w64 (x := 2419 * r5) (by omega) (by omega), w64 (by omega) (by omega)]
      exact ⟨_, _, rfl, by omega, by omega, by omega, by omega⟩
theorem anyTime_ok {k : Nat} (hk : 1 ≤ k) {b : List Int} {p : Int} (hb : Bytes b) (hp : 0 ≤ p) (hp2 : p ≤ 999998000) :
    ∃ x q, spec_anyTime.f k b p = some (x, q) ∧ 0 ≤ q ∧ q ≤ p + 4 ∧ -1 ≤ x ∧ x ≤ 100000000000 := by
  obtain ⟨r1, e1, l1, u1⟩ := pick_ok hk (p := p) 12 hb (by omega) (by omega)
  obtain ⟨r2, e2, l2⟩ := one_ok hk (p := p + 1) [-1, 3786480000] hb (by omega) (by omega) (by simp)
  obtain ⟨x, q, e3, h3⟩ := someTime_ok hk (p := p + 1) hb (by omega) (by omega)
  unfold spec_anyTime.f
  rw [e1, Option.bind_some]
  by_cases h0 : r1 = 0
  · rw [if_pos h0, e2, Option.bind_some]
    simp at l2
    exact ⟨_, _, rfl, by omega, by omega, by omega, by omega⟩
  · rw [if_neg h0, e3, Option.bind_some]
    exact ⟨_, _, rfl, by omega, by omega, by omega, by omega⟩
theorem drawFixAt_ok {k : Nat} (hk : 1 ≤ k) {l : List Int} (hb : ∀ x ∈ l, (Lit.int .u8 x).wf = true) : ∃ t n, spec_DrawFixAt.f k l = some (t, n) ∧ (-1 ≤ t ∧ t ≤ 100000000000) ∧ -1 ≤ n ∧ n ≤ 33 := by
  obtain ⟨b, eb, hB⟩ := newReader_ok hb
  obtain ⟨t, q, et, g1, g2, g3, g4⟩ := anyTime_ok hk hB (p := 0) (by omega) (by omega)
  obtain ⟨r, er, hr⟩ := one_ok hk (p := q) [0, 4, 32, 33, -1, 9] hB (by omega) (by omega) (by simp)
  simp at hr
  refine ⟨t, r, ?_, ⟨g3, g4⟩, by omega, by omega⟩
  unfold spec_DrawFixAt.f
  rw [eb, Option.bind_some, et, Option.bind_some, er, Option.bind_some]
end KFnFixAtNext
open KFnFixAtNext
theorem FnFixAtNext_calls (k : Nat) (A0 : Option Addr) (c0 : Nat) (l0 : List Int) (r : Bool) (w : World) (hr0 : Kd.C (Kd.int .u8) w A0 l0.length l0) (hc0 : l0.length ≤ c0) (h : 2000 ≤ k ∧ r = true ∧ laws_FnFixAtNext.f k l0 = some r) :
    Calls Try.prog 8 #[.slice A0 l0.length c0] w fun e w' => e = .returned (.bool r) ∧ Below w.heap.size w w' :=
  laws_FnFixAtNext.calls k A0 c0 l0 r w hr0 hc0 ⟨fun t n r r' h1 h2 => by
    obtain ⟨y, m, d, s, v, e1, e2, _⟩ := fixAt_both h.1 t n
    exact (Option.some.inj (h1.symm.trans e1)).trans (Option.some.inj (e2.symm.trans h2))⟩ h.2.1 h.2.2
theorem FnFixAtNext (l : List Int) (_hl : l.length ≤ maxLen) (_hs : l.length * 1 ≤ 140737488351232) (hb : ∀ x ∈ l, (Lit.int .u8 x).wf = true) : ∃ k, 2000 ≤ k ∧ true = true ∧ laws_FnFixAtNext.f k l = some true := by
  refine ⟨2001, by omega, rfl, ?_⟩
  unfold laws_FnFixAtNext.f
  by_cases h0 : (l.length : Int) > 1048576
  · rw [if_pos h0]
  obtain ⟨t, n, ed, ht, hn⟩ := drawFixAt_ok (k := 2001) (by omega) hb
  obtain ⟨y, m, d, s, v, e1, e2, h, e2'⟩ := fixAt_both' (k := 2000) (by omega) t n
  have hj : ∀ b, b = true → laws_FnFixAtNext.j0 2001 t n b y m d s v = some true := fun b e => by
    subst e
    simp only [laws_FnFixAtNext.j0]
    rw [if_pos trivial, e2', Option.bind_some]
    simp
  rw [if_neg h0, ed, Option.bind_some, e1, Option.bind_some, e2, Option.bind_some, if_neg (by simp), validFix_i (by omega), Option.bind_some]
  by_cases hf : okFix y m d s v
  · obtain ⟨g1, g2, g3, g4, g5⟩ := h hf
    rw [if_pos (by simp [hf])]
    by_cases hm : t = 3786479999
    · exact hj _ (beq_iff_eq.2 hm)
    · rw [show ((t, n).1 == 3786479999) = false from beq_eq_false_iff_ne.2 hm]
      obtain ⟨y2, m2, d2, e3, h3, h4⟩ := fixAt_i (k := 2000) (by omega) (t + 1) n (by omega) g2
      simp only [laws_FnFixAtNext.j0]
      rw [if_neg (by simp), w64 (x := t + 1) (by omega) (by omega), e3, Option.bind_some]
      dsimp only
      by_cases hd : t % 86400 = 86399
      · have ne : ¬ (y2 == y && (m2 == m && (d2 == d))) = true := by
          intro g
          simp only [Bool.and_eq_true, beq_iff_eq] at g
          obtain ⟨rfl, rfl, rfl⟩ := g
          omega
        have b1 := dayNo_in hf.1
        rw [if_neg ne, if_pos (by omega), if_pos (by omega), dayOf_i (by omega), if_pos h3, Option.bind_some, dayOf_i (by omega), if_pos hf.1, Option.bind_some, w64 (by omega) (by omega)]
        exact congrArg some (beq_iff_eq.2 (by omega))
      · obtain ⟨a1, a2, a3⟩ := dayNo_inj h3 hf.1 (by omega)
        rw [if_pos (by simp [a1, a2, a3]), w64 (by omega) (by omega), if_pos (by omega)]
  · rw [if_neg (by simp [hf])]
    exact hj _ rfl

end Go.Proofs.Ytleblmimoamdmaa.Pure
