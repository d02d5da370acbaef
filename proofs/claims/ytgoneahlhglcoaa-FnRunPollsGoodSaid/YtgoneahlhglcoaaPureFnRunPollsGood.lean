/- Proved: RunPolls with offsets of 0 does not end with a smaller power, at every code (law FnRunPollsGood); no condition beyond the statement's own. -/
import Derived.Test.YtgoneahlhglcoaaPFnRunPollsx
import Derived.Laws.BitsLemmas
import Derived.Laws.Bits64
import Derived.Test.YtgoneahlhglcoaaWalkFnRunPollsGood
namespace Go.Proofs.Ytgoneahlhglcoaa.Pure
open Go Go.RowKit Go.Proofs.Ytgoneahlhglcoaa.PFnRunPolls Go.Proofs.YtgoneahlhglcoaaW.PrintWords Go.Proofs.YtgoneahlhglcoaaW.PrintLast Go.Proofs.YtgoneahlhglcoaaW.PrintMore

namespace KFnRunPollsGood
theorem w64 {x : Int} (h1 : -9223372036854775808 ≤ x) (h2 : x < 9223372036854775808) : wrap64 x = x := by unfold wrap64; omega
theorem i64wrap (x : Int) : IntKind.i64.wrap x = wrap64 x := by rw [IntKind.wrap_i64]; unfold wrap64; rfl
theorem tm {a b : Int} (h : 0 ≤ a) : Int.tmod a b = a % b := Int.tmod_eq_emod_of_nonneg h
theorem td {a b : Int} (h : 0 ≤ a) : Int.tdiv a b = a / b := Int.tdiv_eq_ediv_of_nonneg h
theorem sval {α : Type} {x : Option α} {a : α} (h : x = some a) {β : Type} (f : α → Option β) : x.bind f = f a := by rw [h]; rfl
theorem xor_nat (a b : Nat) (ha : a < 2 ^ 62) (hb : b < 2 ^ 62) : Go.bits .xor .i64 (a : Int) (b : Int) = ((a ^^^ b : Nat) : Int) := by
  have hx := Nat.xor_lt_two_pow ha hb
  have e : Go.bits .xor .i64 (a : Int) (b : Int) = wrap64 ((BitVec.ofInt 64 (a : Int) ^^^ BitVec.ofInt 64 (b : Int)).toNat : Int) := by rw [← i64wrap]; rfl
  rw [e, BitVec.ofInt_natCast, BitVec.ofInt_natCast, BitVec.toNat_xor, BitVec.toNat_ofNat, BitVec.toNat_ofNat, Nat.mod_eq_of_lt (by omega), Nat.mod_eq_of_lt (by omega)]
  exact w64 (by omega) (by omega)
theorem xor_ge (a b : Int) (h1 : 0 ≤ a) (h2 : a < 4611686018427387904) (h3 : 0 ≤ b) (h4 : b < 4611686018427387904) : 0 ≤ Go.bits .xor .i64 a b := by
  obtain ⟨x, rfl⟩ := Int.eq_ofNat_of_zero_le h1
  obtain ⟨y, rfl⟩ := Int.eq_ofNat_of_zero_le h3
  rw [xor_nat x y (by omega) (by omega)]
  exact Int.natCast_nonneg _
theorem rd_in {b : List Int} {lo hi : Int} (h : ∀ x ∈ b, lo ≤ x ∧ x ≤ hi) {i : Int} (h0 : 0 ≤ i) (h1 : i < b.length) : lo ≤ rd b i ∧ rd b i ≤ hi := by
  have hi' : i.toNat < b.length := by omega
  have e : rd b i = b[i.toNat] := by unfold rd; simp [List.getD_eq_getElem?_getD, List.getElem?_eq_getElem hi']
  rw [e]
  exact h _ (List.getElem_mem hi')
theorem rd_mem {b : List Int} {i : Int} (h0 : 0 ≤ i) (h1 : i < b.length) : rd b i ∈ b := by
  have hi' : i.toNat < b.length := by omega
  have e : rd b i = b[i.toNat] := by unfold rd; simp [List.getD_eq_getElem?_getD, List.getElem?_eq_getElem hi']
  rw [e]
  exact List.getElem_mem hi'
/-- What the reader holds: bytes, no more than two thousand. -/
def Bytes (b : List Int) : Prop := (∀ x ∈ b, 0 ≤ x ∧ x ≤ 255) ∧ b.length ≤ 2000
theorem pick_ok {k : Nat} (hk : 1 ≤ k) {b : List Int} {p : Int} (n : Int) (hb : Bytes b) (hp : 0 ≤ p) (hp2 : p ≤ 1000000000) :
    ∃ r, spec_reader_pick.f k b p n = some (r, p + 1) ∧ 0 ≤ r ∧ (1 ≤ n → r < n) := by
  obtain ⟨k, rfl⟩ : ∃ m, k = m + 1 := ⟨k - 1, by omega⟩
  obtain ⟨hb, hl⟩ := hb
  unfold spec_reader_pick.f
  rw [w64 (x := p + 1) (by omega) (by omega)]
  by_cases hn : n < 1
  · exact ⟨0, by rw [if_pos hn]; simp only [spec_reader_pick.j0, if_true], by omega, fun h => by omega⟩
  rw [if_neg hn]
  by_cases h0 : (b.length : Int) = 0
  · exact ⟨0, by rw [beq_iff_eq.2 h0]; simp only [spec_reader_pick.j0, if_true], by omega, fun h => by omega⟩
  rw [beq_eq_false_iff_ne.2 h0]
  simp only [spec_reader_pick.j0]
  rw [w64 (x := p + 1 - 1) (by omega) (by omega), show p + 1 - 1 = p by omega, if_neg (by simp)]
  by_cases h1 : p < (b.length : Int)
  · have hr := rd_in hb hp h1
    rw [if_pos h1, if_pos hp, if_neg (by omega), w64 (by omega) (by omega), tm hr.1]
    exact ⟨_, rfl, Int.emod_nonneg _ (by omega), fun _ => Int.emod_lt_of_pos _ (by omega)⟩
  · have hL : 0 < (b.length : Int) := by omega
    have m1 := Int.emod_nonneg p (b := b.length) (by omega)
    have m2 := Int.emod_lt_of_pos p hL
    have m3 := Int.emod_nonneg (p * 7 + 3) (b := b.length) (by omega)
    have m4 := Int.emod_lt_of_pos (p * 7 + 3) hL
    have d1 := Int.ediv_nonneg hp (b := b.length) (by omega)
    have d2 : p / (b.length : Int) ≤ p := Int.ediv_le_self _ hp
    have r1 := rd_in hb m1 m2
    have r2 := rd_in hb m3 m4
    rw [w64 (x := p * 7) (by omega) (by omega), w64 (x := p * 7 + 3) (by omega) (by omega), tm hp, tm (show 0 ≤ p * 7 + 3 by omega), td hp]
    rw [if_neg h1, if_neg h0, if_pos m1, if_pos m2, if_pos m3, if_pos m4, if_neg (by omega)]
    generalize rd b (p % (b.length : Int)) = A at r1 ⊢
    generalize rd b ((p * 7 + 3) % (b.length : Int)) = B at r2 ⊢
    generalize p / (b.length : Int) = q at d1 d2 ⊢
    rw [w64 (x := A) (by omega) (by omega), w64 (x := B) (by omega) (by omega), w64 (x := q) (by omega) (by omega), w64 (x := A * 131) (by omega) (by omega), w64 (x := B * 1117) (by omega) (by omega), w64 (x := p * 29) (by omega) (by omega), w64 (x := q * 53) (by omega) (by omega), w64 (x := A * 131 + B * 1117) (by omega) (by omega), w64 (x := A * 131 + B * 1117 + p * 29) (by omega) (by omega), w64 (x := A * 131 + B * 1117 + p * 29 + q * 53) (by omega) (by omega)]
    rw [td (show 0 ≤ A * 131 + B * 1117 + p * 29 + q * 53 by omega), w64 (x := (A * 131 + B * 1117 + p * 29 + q * 53) / 64) (by omega) (by omega)]
    have hx := xor_ge (A * 131 + B * 1117 + p * 29 + q * 53) ((A * 131 + B * 1117 + p * 29 + q * 53) / 64) (by omega) (by omega) (by omega) (by omega)
    rw [tm hx]
    exact ⟨_, rfl, Int.emod_nonneg _ (by omega), fun _ => Int.emod_lt_of_pos _ (by omega)⟩
theorem newReader_ok {l : List Int} (hb : ∀ x ∈ l, (Lit.int .u8 x).wf = true) : ∃ b, spec_newReader.f l = some (b, 0) ∧ Bytes b := by
  have hb' : ∀ x ∈ l, 0 ≤ x ∧ x ≤ 255 := fun x hx => by
    have := hb x hx
    simp [Lit.wf, IntKind.min, IntKind.max, IntKind.signed, IntKind.bits] at this
    omega
  unfold spec_newReader.f
  by_cases h : (l.length : Int) > 2000
  · exact ⟨l.take 2000, by rw [if_pos h, if_pos (by omega)], fun x hx => hb' x (List.mem_of_mem_take hx), by simp; omega⟩
  · exact ⟨l, by rw [if_neg h], hb', by omega⟩
theorem one_ok {k : Nat} (hk : 1 ≤ k) {b : List Int} {p : Int} (l : List Int) (hb : Bytes b) (hp : 0 ≤ p) (hp2 : p ≤ 1000000000) (hl : 1 ≤ (l.length : Int)) :
    ∃ r, spec_reader_one.f k b p l = some (r, p + 1) ∧ r ∈ l := by
  obtain ⟨r, e, h0, h1⟩ := pick_ok hk (l.length : Int) hb hp hp2
  unfold spec_reader_one.f
  rw [e]
  simp only [Option.bind_some]
  rw [if_pos h0, if_pos (h1 hl)]
  exact ⟨_, rfl, rd_mem h0 (h1 hl)⟩
def inPoll (p c : Int) : Bool := decide (4 ≤ p ∧ p ≤ 10 ∧ -30 ≤ c ∧ c ≤ 30)
theorem inPoll_iff (p c : Int) : inPoll p c = true ↔ 4 ≤ p ∧ p ≤ 10 ∧ -30 ≤ c ∧ c ≤ 30 := by simp [inPoll]
theorem within_eq (n lo hi : Int) : impl_within.f n lo hi = some (decide (lo ≤ n ∧ n ≤ hi)) := by
  unfold impl_within.f
  by_cases h : lo ≤ n <;> simp [h]
theorem validPoll_i (p c : Int) : impl_ValidPoll.f p c = some (inPoll p c) := by
  unfold impl_ValidPoll.f inPoll
  rw [within_eq, within_eq]
  by_cases h : 4 ≤ p ∧ p ≤ 10 <;> simp [h] <;> omega
theorem inRange_eq (n lo hi : Int) : spec_inRange.f n lo hi = some (decide (lo ≤ n ∧ n ≤ hi)) := by
  unfold spec_inRange.f
  by_cases h : lo ≤ n <;> simp [h]
theorem validPoll_s (p c : Int) : spec_validPoll.f p c = some (inPoll p c) := by
  unfold spec_validPoll.f inPoll
  rw [inRange_eq, inRange_eq]
  by_cases h : 4 ≤ p ∧ p ≤ 10 <;> simp [h] <;> omega
/-- Two to the power of a valid state. -/
def secs (p c : Int) : Int := if inPoll p c = true then shl .i64 1 p else -1
theorem shl_at (p : Int) (h : 4 ≤ p ∧ p ≤ 10) : 16 ≤ shl .i64 1 p ∧ shl .i64 1 p ≤ 1024 ∧ (p ≤ 9 → shl .i64 1 (p + 1) = 2 * shl .i64 1 p) := by
  rcases (by omega : p = 4 ∨ p = 5 ∨ p = 6 ∨ p = 7 ∨ p = 8 ∨ p = 9 ∨ p = 10) with rfl | rfl | rfl | rfl | rfl | rfl | rfl <;> decide
theorem secs_i (p c : Int) : impl_PollSeconds.f p c = some (secs p c) := by
  unfold impl_PollSeconds.f secs
  rw [validPoll_i]
  simp only [Option.bind_some]
  by_cases h : inPoll p c = true
  · have h' := (inPoll_iff p c).1 h
    have e : IntKind.u64.wrap p = p := by rw [IntKind.wrap_u64]; omega
    rw [if_pos h, if_pos h, e, if_pos (by omega)]
  · rw [if_neg h, if_neg h]
theorem secs_s (p c : Int) : spec_PollSeconds.f p c = some (secs p c) := by
  unfold spec_PollSeconds.f secs
  rw [validPoll_s]
  simp only [Option.bind_some]
  by_cases h : inPoll p c = true
  · have h' := (inPoll_iff p c).1 h
    rw [if_pos h, if_pos h, if_pos (by omega)]
  · rw [if_neg h, if_neg h]
/-- What a poll makes of a state. -/
def nxt (p c o j : Int) : Int × Int × Bool :=
  if inPoll p c = true ∧ (-1000000 ≤ o ∧ o ≤ 1000000) ∧ 0 ≤ j ∧ j ≤ 1000000 then
    if mx o (-o) ≤ 4 * j then (if c + p ≥ 30 then (mn (p + 1) 10, 0, true) else (p, c + p, true))
    else (if c - 2 * p ≤ -30 then (mx (p - 1) 4, 0, true) else (p, c - 2 * p, true))
  else (0, 0, false)
theorem next_i {k : Nat} (hk : 1 ≤ k) (p c o j : Int) : impl_NextPoll.f k p c o j = some (nxt p c o j) := by
  obtain ⟨k, rfl⟩ : ∃ m, k = m + 1 := ⟨k - 1, by omega⟩
  unfold impl_NextPoll.f nxt impl_isOffset.f
  simp only [validPoll_i, within_eq, Option.bind_some]
  by_cases h1 : inPoll p c = true
  · have h' := (inPoll_iff p c).1 h1
    by_cases h2 : -1000000 ≤ o ∧ o ≤ 1000000
    · by_cases h3 : 0 ≤ j ∧ j ≤ 1000000
      · rw [if_pos h1, if_pos (by simp [h2]), if_pos ⟨h1, h2, h3⟩]
        simp only [impl_NextPoll.j0]
        rw [if_neg (by simp [h3])]
        unfold impl_apart.f
        simp only [Option.bind_some]
        rw [w64 (x := o - 0) (by omega) (by omega), w64 (x := 0 - o) (by omega) (by omega), w64 (x := 4 * j) (by omega) (by omega), w64 (x := c + p) (by omega) (by omega), w64 (x := p + 1) (by omega) (by omega), w64 (x := 2 * p) (by omega) (by omega), w64 (x := c - 2 * p) (by omega) (by omega), w64 (x := p - 1) (by omega) (by omega), show o - 0 = o by omega, show 0 - o = -o by omega]
        split <;> split <;> rfl
      · rw [if_pos h1, if_pos (by simp [h2]), if_neg (by omega)]
        simp only [impl_NextPoll.j0]
        rw [if_pos (by simp; omega)]
    · rw [if_pos h1, if_neg (by simp; omega), if_neg (by omega)]
      simp only [impl_NextPoll.j0, if_true]
  · rw [if_neg h1, if_neg (fun h => h1 h.1)]
    simp only [impl_NextPoll.j0, if_true]
theorem next_s {k : Nat} (hk : 1 ≤ k) (p c o j : Int) : spec_NextPoll.f k p c o j = some (nxt p c o j) := by
  obtain ⟨k, rfl⟩ : ∃ m, k = m + 1 := ⟨k - 1, by omega⟩
  unfold spec_NextPoll.f nxt
  simp only [validPoll_s, inRange_eq, Option.bind_some]
  by_cases h1 : inPoll p c = true
  · have h' := (inPoll_iff p c).1 h1
    by_cases h2 : -1000000 ≤ o ∧ o ≤ 1000000
    · by_cases h3 : 0 ≤ j ∧ j ≤ 1000000
      · rw [if_pos h1, if_pos (by simp [h2]), if_pos ⟨h1, h2, h3⟩]
        simp only [spec_NextPoll.j0]
        rw [if_neg (by simp [h3])]
        unfold spec_size.f
        simp only [Option.bind_some]
        rw [w64 (x := -o) (by omega) (by omega), w64 (x := 4 * j) (by omega) (by omega), w64 (x := c + p) (by omega) (by omega), w64 (x := p + 1) (by omega) (by omega), w64 (x := 2 * p) (by omega) (by omega), w64 (x := c - 2 * p) (by omega) (by omega), w64 (x := p - 1) (by omega) (by omega)]
        split <;> split <;> rfl
      · rw [if_pos h1, if_pos (by simp [h2]), if_neg (by omega)]
        simp only [spec_NextPoll.j0]
        rw [if_pos (by simp; omega)]
    · rw [if_pos h1, if_neg (by simp; omega), if_neg (by omega)]
      simp only [spec_NextPoll.j0, if_true]
  · rw [if_neg h1, if_neg (fun h => h1 h.1)]
    simp only [spec_NextPoll.j0, if_true]
/-- What is told is a valid state, no more than one power away. -/
theorem nxt_good {p c o j : Int} (h : (nxt p c o j).2.2 = true) :
    inPoll p c = true ∧ inPoll (nxt p c o j).1 (nxt p c o j).2.1 = true ∧ p - 1 ≤ (nxt p c o j).1 ∧ (nxt p c o j).1 ≤ p + 1 ∧ ((nxt p c o j).1 = p ∨ (nxt p c o j).2.1 = 0) ∧ (o = 0 → p ≤ (nxt p c o j).1) ∧ (o = 900000 → j = 0 → (nxt p c o j).1 ≤ p) := by
  unfold nxt at h ⊢
  by_cases h1 : inPoll p c = true ∧ (-1000000 ≤ o ∧ o ≤ 1000000) ∧ 0 ≤ j ∧ j ≤ 1000000
  · rw [if_pos h1] at h ⊢
    have h' := (inPoll_iff p c).1 h1.1
    refine ⟨h1.1, ?_⟩
    have hz : o = 0 → mx o (-o) ≤ 4 * j := fun e => by subst e; unfold mx; split <;> omega
    have hb : o = 900000 → j = 0 → ¬ mx o (-o) ≤ 4 * j := fun e e' => by subst e; subst e'; decide
    have m1 : mn (p + 1) 10 ≤ 10 ∧ mn (p + 1) 10 ≤ p + 1 ∧ p ≤ mn (p + 1) 10 := by unfold mn; split <;> omega
    have m2 : 4 ≤ mx (p - 1) 4 ∧ p - 1 ≤ mx (p - 1) 4 ∧ mx (p - 1) 4 ≤ p := by unfold mx; split <;> omega
    generalize mn (p + 1) 10 = u at *
    generalize mx (p - 1) 4 = v at *
    clear h
    by_cases a1 : mx o (-o) ≤ 4 * j
    · rw [if_pos a1]
      by_cases a2 : c + p ≥ 30
      · rw [if_pos a2]
        simp only [inPoll_iff]
        exact ⟨by omega, by omega, by omega, .inr trivial, by omega, fun e e' => absurd a1 (hb e e')⟩
      · rw [if_neg a2]
        simp only [inPoll_iff]
        exact ⟨by omega, by omega, by omega, .inl trivial, by omega, by omega⟩
    · rw [if_neg a1]
      by_cases a2 : c - 2 * p ≤ -30
      · rw [if_pos a2]
        simp only [inPoll_iff]
        exact ⟨by omega, by omega, by omega, .inr trivial, fun e => absurd (hz e) a1, by omega⟩
      · rw [if_neg a2]
        simp only [inPoll_iff]
        exact ⟨by omega, by omega, by omega, .inl trivial, by omega, by omega⟩
  · rw [if_neg h1] at h
    exact absurd h (by simp)
theorem nxt_told (p c o j : Int) : (nxt p c o j).2.2 = true ↔ inPoll p c = true ∧ (-1000000 ≤ o ∧ o ≤ 1000000) ∧ 0 ≤ j ∧ j ≤ 1000000 := by
  unfold nxt
  split
  · rename_i h
    split <;> split <;> simp [h]
  · rename_i h
    simp only [Bool.false_eq_true, false_iff]
    exact h
theorem nxt_neg (p c o j : Int) : nxt p c (-o) j = nxt p c o j := by
  have e : mx (-o) (- -o) = mx o (-o) := by unfold mx; split <;> split <;> omega
  unfold nxt
  rw [e]
  by_cases h : inPoll p c = true ∧ (-1000000 ≤ o ∧ o ≤ 1000000) ∧ 0 ≤ j ∧ j ≤ 1000000
  · rw [if_pos h, if_pos ⟨h.1, by omega, h.2.2⟩]
  · rw [if_neg h, if_neg (fun g => h ⟨g.1, by omega, g.2.2⟩)]
theorem anyPoll_ok {k : Nat} (hk : 1 ≤ k) {b : List Int} {p : Int} (hb : Bytes b) (hp : 0 ≤ p) (hp2 : p ≤ 999999000) :
    ∃ x y q, spec_anyPoll.f k b p = some (x, y, q) ∧ 0 ≤ q ∧ q ≤ p + 5 ∧ -100 ≤ x ∧ x ≤ 100 ∧ -100 ≤ y ∧ y ≤ 100 := by
  obtain ⟨r1, e1, l1, u1⟩ := pick_ok hk (p := p) 7 hb (by omega) (by omega)
  obtain ⟨r2, e2, l2, u2⟩ := pick_ok hk (p := p + 1) 61 hb (by omega) (by omega)
  obtain ⟨r3, e3, l3, u3⟩ := pick_ok hk (p := p + 1 + 1) 12 hb (by omega) (by omega)
  obtain ⟨r4, e4, l4⟩ := one_ok hk (p := p + 1 + 1 + 1) [3, 11, 6] hb (by omega) (by omega) (by simp)
  obtain ⟨r5, e5, l5⟩ := one_ok hk (p := p + 1 + 1 + 1 + 1) [31, -31, 0] hb (by omega) (by omega) (by simp)
  have := u1 (by omega); have := u2 (by omega)
  unfold spec_anyPoll.f
  simp only [e1, e2, e3, Option.bind_some]
  by_cases h : r3 = 0
  · rw [if_pos h]
    simp only [e4, e5, Option.bind_some]
    simp at l4 l5
    exact ⟨_, _, _, rfl, by omega, by omega, by omega, by omega, by omega, by omega⟩
  · rw [if_neg h, w64 (by omega) (by omega), w64 (by omega) (by omega)]
    exact ⟨_, _, _, rfl, by omega, by omega, by omega, by omega, by omega, by omega⟩
theorem someOffset_ok {k : Nat} (hk : 1 ≤ k) {b : List Int} {p : Int} (hb : Bytes b) (hp : 0 ≤ p) (hp2 : p ≤ 999999000) :
    ∃ x q, spec_someOffset.f k b p = some (x, q) ∧ 0 ≤ q ∧ q ≤ p + 2 ∧ -1000000 ≤ x ∧ x ≤ 1000000 := by
  obtain ⟨r1, e1, l1, u1⟩ := pick_ok hk (p := p) 250 hb (by omega) (by omega)
  have := u1 (by omega)
  unfold spec_someOffset.f
  simp only [e1, Option.bind_some]
  rw [w64 (x := r1 - 125) (by omega) (by omega), w64 (x := 40 * (r1 - 125)) (by omega) (by omega)]
  obtain ⟨r2, e2, l2⟩ := one_ok hk (p := p + 1) [0, 1, -1, 100, -250, 5000, 128000, 128001, -128000, 1000000, -1000000, 40 * (r1 - 125)] hb (by omega) (by omega) (by simp)
  simp only [e2, Option.bind_some]
  simp at l2
  exact ⟨_, _, rfl, by omega, by omega, by omega, by omega⟩
theorem fill_step {α : Type} (l : List α) (z v : α) (i : Nat) (h : i < l.length) (hv : v = l[i]) : (l.take i ++ List.replicate (l.length - i) z).set i v = l.take (i + 1) ++ List.replicate (l.length - (i + 1)) z := by
  have e : l.length - i = (l.length - (i + 1)) + 1 := by omega
  have ht : (l.take i).length = i := by rw [List.length_take]; omega
  rw [List.set_append_right i v (by omega), ht, Nat.sub_self, e, List.replicate_succ, List.set_cons_zero, hv, show List.take (i + 1) l = List.take i l ++ [l[i]] from List.take_succ_eq_append_getElem h, List.append_assoc]
  rfl
theorem fill_end {α : Type} (l : List α) (z : α) : l.take l.length ++ List.replicate (l.length - l.length) z = l := by simp
theorem rd_at (l : List Int) (i : Nat) (h : i < l.length) : rd l (i : Int) = l[i] := by unfold rd; simp [List.getD_eq_getElem?_getD, h]
theorem copyInts_ok (l : List Int) (hl : l.length ≤ 1048576) : spec_copyInts.f l = some l := by
  unfold spec_copyInts.f
  simp only [Option.bind_some, List.length_nil, List.nil_append]
  rw [if_pos (by omega)]
theorem spoil_ok {k : Nat} (hk : 1 ≤ k) {b : List Int} {p : Int} (l : List Int) (v : Int) (hb : Bytes b) (hp : 0 ≤ p) (hp2 : p ≤ 999999000) (hl : l.length ≤ 1048575) :
    ∃ m q, spec_reader_spoil.f k b p l v = some (m, q) ∧ 0 ≤ q ∧ q ≤ p + 3 ∧ m.length ≤ l.length + 1 ∧ ∀ x ∈ m, x ∈ l ∨ x = v ∨ x = -1 ∨ x = 0 ∨ x = 1 := by
  obtain ⟨r1, e1, l1, u1⟩ := pick_ok hk (p := p) 20 hb (by omega) (by omega)
  obtain ⟨r2, e2, l2, u2⟩ := pick_ok hk (p := p + 1) (l.length : Int) hb (by omega) (by omega)
  obtain ⟨r3, e3, l3⟩ := one_ok hk (p := p + 1 + 1) [-1, v, 0, 1] hb (by omega) (by omega) (by simp)
  unfold spec_reader_spoil.f
  rw [copyInts_ok l (by omega)]
  simp only [e1, Option.bind_some]
  by_cases h0 : r1 = 0
  · rw [if_pos h0, if_pos (by omega)]
    exact ⟨_, _, rfl, by omega, by omega, by simp, fun x hx => by
      rcases List.mem_append.1 hx with h | h
      · exact .inl h
      · simp at h; exact .inr (.inl h)⟩
  rw [if_neg h0]
  by_cases h1 : r1 = 1
  · rw [if_pos h1]
    by_cases hz : (l.length : Int) > 0
    · rw [if_pos hz, if_pos (by omega)]
      exact ⟨_, _, rfl, by omega, by omega, by simp; omega, fun x hx => .inl (List.mem_of_mem_drop hx)⟩
    · rw [if_neg hz]
      exact ⟨_, _, rfl, by omega, by omega, by omega, fun x hx => .inl hx⟩
  rw [if_neg h1]
  by_cases h2 : r1 = 2
  · rw [if_pos h2]
    by_cases hz : (l.length : Int) > 0
    · rw [if_pos hz]
      simp only [e2, e3, Option.bind_some]
      rw [if_pos l2, if_pos (u2 (by omega))]
      refine ⟨_, _, rfl, by omega, by omega, by simp, fun x hx => ?_⟩
      rcases List.mem_or_eq_of_mem_set hx with h | h
      · exact .inl h
      · subst h; simp at l3; omega
    · rw [if_neg hz]
      exact ⟨_, _, rfl, by omega, by omega, by omega, fun x hx => .inl hx⟩
  · rw [if_neg h2]
    exact ⟨_, _, rfl, by omega, by omega, by omega, fun x hx => .inl hx⟩
theorem drawRun_l {b : List Int} (hb : Bytes b) (p c : Int) (d : Nat) : ∀ (k : Nat) (x : List Int) (q : Int), d + 1 < k → 0 ≤ q → q ≤ 1000 + 3 * x.length → x.length + d ≤ 40 →
    ∃ l j, spec_DrawRunPolls.l0 k x (d : Int) b q p c = some (p, c, l, j) ∧ l.length ≤ 50 := by
  induction d with
  | zero =>
    intro k x q hk h0 h1 h2
    obtain ⟨k, rfl⟩ : ∃ m, k = m + 1 := ⟨k - 1, by omega⟩
    obtain ⟨m, q1, e1, f1, f2, f3, _⟩ := spoil_ok (k := k) (by omega) (p := q) x 1000001 hb (by omega) (by omega) (by omega)
    obtain ⟨r, e2, _⟩ := one_ok (k := k) (by omega) (p := q1) [0, 25, 100, 1250, -1] hb (by omega) (by omega) (by simp)
    simp only [spec_DrawRunPolls.l0]
    rw [if_neg (by omega), e1]
    simp only [Option.bind_some, e2]
    exact ⟨_, _, rfl, by omega⟩
  | succ d ih =>
    intro k x q hk h0 h1 h2
    obtain ⟨k, rfl⟩ : ∃ m, k = m + 1 := ⟨k - 1, by omega⟩
    obtain ⟨v, q1, e1, f1, f2, _⟩ := someOffset_ok (k := k) (by omega) (p := q) hb (by omega) (by omega)
    simp only [spec_DrawRunPolls.l0]
    rw [if_pos (by omega), e1]
    simp only [Option.bind_some]
    rw [if_pos (by omega), w64 (by omega) (by omega), show ((d + 1 : Nat) : Int) - 1 = (d : Int) by omega]
    exact ih k (x ++ [v]) q1 (by omega) (by omega) (by simp; omega) (by simp; omega)
theorem drawRun_ok {k : Nat} (hk : 40 ≤ k) {l : List Int} (hb : ∀ x ∈ l, (Lit.int .u8 x).wf = true) :
    ∃ p c m j, spec_DrawRunPolls.f k l = some (p, c, m, j) ∧ m.length ≤ 50 := by
  obtain ⟨b, eb, hB⟩ := newReader_ok hb
  obtain ⟨x, y, q, ep, g1, g2, g3, g4, _⟩ := anyPoll_ok (k := k) (by omega) hB (p := 0) (by omega) (by omega)
  obtain ⟨r, er, hr⟩ := one_ok (k := k) (by omega) (p := q) [5, 8, 12, 3, 0, 30, 31] hB (by omega) (by omega) (by simp)
  simp at hr
  obtain ⟨d, rfl⟩ : ∃ d : Nat, r = d := ⟨r.toNat, by omega⟩
  obtain ⟨m, j, e, hm⟩ := drawRun_l hB x y d k [] (q + 1) (by omega) (by omega) (by simp; omega) (by simp; omega)
  refine ⟨x, y, m, j, ?_, hm⟩
  unfold spec_DrawRunPolls.f
  simp only [eb, ep, er, Option.bind_some]
  exact e
/-- Polls one by one. -/
def run (j : Int) : List Int → Int → Int → Int → Int × Int × Int × Bool
  | [], p, c, n => (p, c, n, true)
  | o :: os, p, c, n => if (nxt p c o j).2.2 = true then run j os (nxt p c o j).1 (nxt p c o j).2.1 (n + secs p c) else (0, 0, 0, false)
theorem secs_in (p c : Int) : -1 ≤ secs p c ∧ secs p c ≤ 1024 := by
  unfold secs
  split
  · rename_i h
    have h' := (inPoll_iff p c).1 h
    have := shl_at p (by omega)
    omega
  · omega
theorem drop_at (l : List Int) (i : Nat) (h : i < l.length) : l.drop i = rd l (i : Int) :: l.drop (i + 1) := by
  rw [rd_at l i h, List.drop_eq_getElem_cons h]
theorem run_i (l : List Int) (hl : l.length ≤ 30) (j : Int) (d : Nat) : ∀ (i k : Nat) (p c n : Int), i + d = l.length → d + 1 < k → -(i : Int) ≤ n → n ≤ 1024 * i →
    impl_RunPolls.l0 k j n l (l.length : Int) (i : Int) p c = some (run j (l.drop i) p c n) := by
  induction d with
  | zero =>
    intro i k p c n h hk h1 h2
    obtain ⟨k, rfl⟩ : ∃ m, k = m + 1 := ⟨k - 1, by omega⟩
    simp only [impl_RunPolls.l0]
    rw [if_neg (by omega), List.drop_eq_nil_of_le (by omega)]
    rfl
  | succ d ih =>
    intro i k p c n h hk h1 h2
    obtain ⟨k, rfl⟩ : ∃ m, k = m + 1 := ⟨k - 1, by omega⟩
    simp only [impl_RunPolls.l0]
    have hs := secs_in p c
    rw [if_pos (by omega), if_pos (by omega), if_pos (by omega), secs_i, next_i (by omega), drop_at l i (by omega)]
    simp only [Option.bind_some, run]
    split
    · rw [w64 (by omega) (by omega), w64 (by omega) (by omega)]
      exact ih (i + 1) k _ _ _ (by omega) (by omega) (by omega) (by omega)
    · rfl
theorem run_s (l : List Int) (hl : l.length ≤ 30) (j : Int) (d : Nat) : ∀ (i k : Nat) (p c n : Int), i + d = l.length → d + 1 < k → -(i : Int) ≤ n → n ≤ 1024 * i →
    spec_RunPolls.l0 k l j n (i : Int) p c = some (run j (l.drop i) p c n) := by
  induction d with
  | zero =>
    intro i k p c n h hk h1 h2
    obtain ⟨k, rfl⟩ : ∃ m, k = m + 1 := ⟨k - 1, by omega⟩
    simp only [spec_RunPolls.l0]
    rw [if_neg (by omega), List.drop_eq_nil_of_le (by omega)]
    rfl
  | succ d ih =>
    intro i k p c n h hk h1 h2
    obtain ⟨k, rfl⟩ : ∃ m, k = m + 1 := ⟨k - 1, by omega⟩
    simp only [spec_RunPolls.l0]
    have hs := secs_in p c
    rw [if_pos (by omega), secs_s, Option.bind_some, if_pos (by omega), next_s (by omega), drop_at l i (by omega)]
    simp only [Option.bind_some, run]
    split
    · rw [w64 (by omega) (by omega), w64 (by omega) (by omega)]
      exact ih (i + 1) k _ _ _ (by omega) (by omega) (by omega) (by omega)
    · rfl
/-- RunPolls, whole. -/
def runs (p c : Int) (l : List Int) (j : Int) : Int × Int × Int × Bool :=
  if inPoll p c = true ∧ l.length ≤ 30 ∧ 0 ≤ j ∧ j ≤ 1000000 then run j l p c 0 else (0, 0, 0, false)
theorem runs_i {k : Nat} (hk : 34 ≤ k) (p c : Int) (l : List Int) (j : Int) : impl_RunPolls.f k p c l j = some (runs p c l j) := by
  obtain ⟨k, rfl⟩ : ∃ m, k = m + 1 := ⟨k - 1, by omega⟩
  unfold impl_RunPolls.f runs
  simp only [validPoll_i, within_eq, Option.bind_some, impl_RunPolls.j0, if_true]
  by_cases h1 : inPoll p c = true
  · rw [if_pos h1]
    by_cases h2 : (l.length : Int) > 30
    · rw [if_pos h2, if_neg (by omega)]
    · rw [if_neg h2]
      by_cases h3 : 0 ≤ j ∧ j ≤ 1000000
      · rw [if_neg (by simp [h3]), if_pos ⟨h1, by omega, h3⟩]
        exact run_i l (by omega) j l.length 0 k p c 0 (by omega) (by omega) (by omega) (by omega)
      · rw [if_pos (by simp; omega), if_neg (fun g => h3 g.2.2)]
  · rw [if_neg h1, if_neg (fun g => h1 g.1)]
theorem runs_s {k : Nat} (hk : 34 ≤ k) (p c : Int) (l : List Int) (j : Int) : spec_RunPolls.f k p c l j = some (runs p c l j) := by
  obtain ⟨k, rfl⟩ : ∃ m, k = m + 1 := ⟨k - 1, by omega⟩
  unfold spec_RunPolls.f runs
  simp only [validPoll_s, inRange_eq, Option.bind_some, spec_RunPolls.j0, if_true]
  by_cases h1 : inPoll p c = true
  · rw [if_pos h1]
    by_cases h2 : (l.length : Int) > 30
    · rw [if_pos h2, if_neg (by omega)]
    · rw [if_neg h2]
      by_cases h3 : 0 ≤ j ∧ j ≤ 1000000
      · rw [if_neg (by simp [h3]), if_pos ⟨h1, by omega, h3⟩]
        exact run_s l (by omega) j l.length 0 k p c 0 (by omega) (by omega) (by omega) (by omega)
      · rw [if_pos (by simp; omega), if_neg (fun g => h3 g.2.2)]
  · rw [if_neg h1, if_neg (fun g => h1 g.1)]
theorem nxt_ok_in {p c o j : Int} (h : (nxt p c o j).2.2 = true) : inPoll p c = true ∧ inPoll (nxt p c o j).1 (nxt p c o j).2.1 = true := ⟨(nxt_good h).1, (nxt_good h).2.1⟩
theorem secs_ok {p c : Int} (h : inPoll p c = true) : 16 ≤ secs p c ∧ secs p c ≤ 1024 := by
  have h' := (inPoll_iff p c).1 h
  have := shl_at p (by omega)
  unfold secs
  rw [if_pos h]
  omega
theorem run_bounds (j : Int) (l : List Int) : ∀ p c n, inPoll p c = true → (run j l p c n).2.2.2 = true →
    inPoll (run j l p c n).1 (run j l p c n).2.1 = true ∧ n + 16 * l.length ≤ (run j l p c n).2.2.1 ∧ (run j l p c n).2.2.1 ≤ n + 1024 * l.length := by
  induction l with
  | nil => intro p c n h _; exact ⟨h, by simp [run], by simp [run]⟩
  | cons o os ih =>
    intro p c n h hok
    simp only [run] at hok ⊢
    split at hok
    · rename_i hn
      rw [if_pos hn]
      obtain ⟨g1, g2, g3⟩ := ih _ _ _ (nxt_ok_in hn).2 hok
      have hs := secs_ok h
      simp only [List.length_cons]
      exact ⟨g1, by omega, by omega⟩
    · cases hok
theorem run_shift (j : Int) (l : List Int) : ∀ p c n m, (run j l p c n).2.2.2 = true → run j l p c (n + m) = ((run j l p c n).1, (run j l p c n).2.1, (run j l p c n).2.2.1 + m, true) := by
  induction l with
  | nil => intro p c n m _; rfl
  | cons o os ih =>
    intro p c n m hok
    simp only [run] at hok ⊢
    split at hok
    · rename_i hn
      rw [if_pos hn, if_pos hn, show n + m + secs p c = n + secs p c + m by omega]
      exact ih _ _ _ _ hok
    · cases hok
theorem run_append (j : Int) (l m : List Int) : ∀ p c n, (run j (l ++ m) p c n).2.2.2 = true →
    (run j l p c n).2.2.2 = true ∧ run j (l ++ m) p c n = run j m (run j l p c n).1 (run j l p c n).2.1 (run j l p c n).2.2.1 := by
  induction l with
  | nil => intro p c n _; exact ⟨rfl, rfl⟩
  | cons o os ih =>
    intro p c n hok
    simp only [run, List.cons_append] at hok ⊢
    split at hok
    · rename_i hn
      rw [if_pos hn, if_pos hn]
      exact ih _ _ _ hok
    · cases hok
theorem run_good (j : Int) (l : List Int) (hl : ∀ x ∈ l, x = 0) : ∀ p c n, (run j l p c n).2.2.2 = true → p ≤ (run j l p c n).1 := by
  induction l with
  | nil => intro p c n _; simp [run]
  | cons o os ih =>
    intro p c n hok
    simp only [run] at hok ⊢
    split at hok
    · rename_i hn
      rw [if_pos hn]
      have h1 := (nxt_good hn).2.2.2.2.2.1 (hl o (by simp))
      have h2 := ih (fun x hx => hl x (by simp [hx])) _ _ _ hok
      omega
    · cases hok
theorem runs_bounds {p c j : Int} {l : List Int} (h : (runs p c l j).2.2.2 = true) :
    (inPoll p c = true ∧ l.length ≤ 30 ∧ 0 ≤ j ∧ j ≤ 1000000) ∧ inPoll (runs p c l j).1 (runs p c l j).2.1 = true ∧ 16 * (l.length : Int) ≤ (runs p c l j).2.2.1 ∧ (runs p c l j).2.2.1 ≤ 1024 * l.length := by
  unfold runs at h ⊢
  split at h
  · rename_i hc
    rw [if_pos hc]
    have := run_bounds j l p c 0 hc.1 h
    exact ⟨hc, this.1, by omega, by omega⟩
  · cases h
theorem runs_good {p c j : Int} {l : List Int} (hl : ∀ x ∈ l, x = 0) (h : (runs p c l j).2.2.2 = true) : p ≤ (runs p c l j).1 := by
  unfold runs at h ⊢
  split at h
  · rename_i hc
    rw [if_pos hc]
    exact run_good j l hl p c 0 h
  · cases h
theorem runs_parts {p c j : Int} {l m : List Int} (h : (runs p c (l ++ m) j).2.2.2 = true) :
    (runs p c l j).2.2.2 = true ∧ runs (runs p c l j).1 (runs p c l j).2.1 m j = ((runs p c (l ++ m) j).1, (runs p c (l ++ m) j).2.1, (runs p c (l ++ m) j).2.2.1 - (runs p c l j).2.2.1, true) := by
  unfold runs at h
  split at h
  · rename_i hc
    have hlen : l.length ≤ 30 ∧ m.length ≤ 30 := by have := hc.2.1; simp at this; omega
    obtain ⟨h1, h2⟩ := run_append j l m p c 0 h
    have e1 : runs p c l j = run j l p c 0 := by unfold runs; rw [if_pos ⟨hc.1, hlen.1, hc.2.2⟩]
    have e2 : runs p c (l ++ m) j = run j (l ++ m) p c 0 := by unfold runs; rw [if_pos hc]
    have hb := run_bounds j l p c 0 hc.1 h1
    rw [e1, e2]
    refine ⟨h1, ?_⟩
    have e3 : runs (run j l p c 0).1 (run j l p c 0).2.1 m j = run j m (run j l p c 0).1 (run j l p c 0).2.1 0 := by unfold runs; rw [if_pos ⟨hb.1, hlen.2, hc.2.2⟩]
    rw [e3, h2]
    have h3 : (run j m (run j l p c 0).1 (run j l p c 0).2.1 (run j l p c 0).2.2.1).2.2.2 = true := by rw [← h2]; exact h
    have := run_shift j m (run j l p c 0).1 (run j l p c 0).2.1 (run j l p c 0).2.2.1 (-(run j l p c 0).2.2.1) h3
    rw [show (run j l p c 0).2.2.1 + -(run j l p c 0).2.2.1 = 0 by omega] at this
    rw [this, Int.sub_eq_add_neg]
  · cases h
end KFnRunPollsGood
open KFnRunPollsGood
theorem FnRunPollsGood_calls (k : Nat) (A0 : Option Addr) (c0 : Nat) (l0 : List Int) (r : Bool) (w : World) (hr0 : Kd.C (Kd.int .u8) w A0 l0.length l0) (hc0 : l0.length ≤ c0) (h : 40 ≤ k ∧ r = true ∧ laws_FnRunPollsGood.f k l0 = some r) :
    Calls Try.prog 14 #[.slice A0 l0.length c0] w fun e w' => e = .returned (.bool r) ∧ Below w.heap.size w w' :=
  laws_FnRunPollsGood.calls k A0 c0 l0 r w hr0 hc0 ⟨fun p c l j r r' h1 h2 => by
    rw [runs_i (by omega)] at h1
    rw [runs_s (by omega)] at h2
    exact Option.some.inj (h1.symm.trans h2)⟩ h.2.1 h.2.2
theorem FnRunPollsGood (l : List Int) (_hl : l.length ≤ maxLen) (_hs : l.length * 1 ≤ 140737488351232) (hb : ∀ x ∈ l, (Lit.int .u8 x).wf = true) : ∃ k, 40 ≤ k ∧ true = true ∧ laws_FnRunPollsGood.f k l = some true := by
  refine ⟨40, Nat.le_refl _, rfl, ?_⟩
  unfold laws_FnRunPollsGood.f
  by_cases h0 : (l.length : Int) > 1048576
  · rw [if_pos h0]
  rw [if_neg h0]
  obtain ⟨p, c, m, j, ed, hm⟩ := drawRun_ok (k := 40) (by omega) hb
  simp only [ed, Option.bind_some, runs_i (k := 40) (by omega), runs_s (k := 40) (by omega)]
  simp only [beq_self_eq_true, Bool.not_true, Bool.or_self, Bool.false_eq_true, if_false, bne_self_eq_false, if_true, Bool.and_self]
  cases h : (runs p c m j).2.2.2 with
  | false => simp
  | true =>
    rw [if_pos rfl, if_pos (by omega), if_pos (by omega)]
    show _ = some true
    cases h2 : (runs p c (List.replicate (m.length : Int).toNat 0) (mx j 0)).2.2.2 with
    | false => rfl
    | true =>
      have hg := runs_good (fun x hx => (List.mem_replicate.1 hx).2) h2
      rw [if_pos rfl]
      exact congrArg some (decide_eq_true hg)

end Go.Proofs.Ytgoneahlhglcoaa.Pure
