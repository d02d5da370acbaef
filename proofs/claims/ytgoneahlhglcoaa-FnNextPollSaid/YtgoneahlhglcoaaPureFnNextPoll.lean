/- Proved: the power of a state of polls changes by at most 1, at every code (law FnNextPoll); no condition beyond the statement's own. -/
import Derived.Test.YtgoneahlhglcoaaPFnNextPollx4
import Derived.Laws.BitsLemmas
import Derived.Laws.Bits64
namespace Go.Proofs.Ytgoneahlhglcoaa.Pure
open Go Go.RowKit Go.Proofs.Ytgoneahlhglcoaa.PFnNextPoll Go.Proofs.YtgoneahlhglcoaaW.PrintWords Go.Proofs.YtgoneahlhglcoaaW.PrintLast Go.Proofs.YtgoneahlhglcoaaW.PrintMore

namespace KFnNextPoll
theorem w64 {x : Int} (h1 : -9223372036854775808 ≤ x) (h2 : x < 9223372036854775808) : wrap64 x = x := by unfold wrap64; omega
theorem i64wrap (x : Int) : IntKind.i64.wrap x = wrap64 x := by rw [IntKind.wrap_i64]; unfold wrap64; rfl
theorem tm {a b : Int} (h : 0 ≤ a) : Int.tmod a b = a % b := Int.tmod_eq_emod_of_nonneg h
theorem td {a b : Int} (h : 0 ≤ a) : Int.tdiv a b = a / b := Int.tdiv_eq_ediv_of_nonneg h
theorem sval {α : Type} {x : Option α} {a : α} (h : x = some a) {β : Type} (f : α → Option β) : x.bind f = f a := by rw [h]; rfl
theorem xor_nat (a b : Nat) (ha : a < 2 ^ 62) (hb : b < 2 ^ 62) : Go.bits .xor .i64 (a : Int) (b : Int) = ((a ^^^ b : Nat) : Int) := by
  have hx := Nat.xor_lt_two_pow ha hb
  have e : Go.bits .xor .i64 (a : Int) (b : Int) = wrap64 ((BitVec.ofInt 64 (a : Int) ^^^ BitVec.ofInt 64 (b : Int)).toNat : Int) := by rw [← i64wrap]; rfl
  rw [e, BitVec.ofInt_natCast, BitVec.ofInt_natCast, BitVec.toNat_xor, BitVec.toNat_ofNat, BitVec.toNat_ofNat, Nat.mod_eq_of_lt (by omega), Nat.mod_eq_of_lt (by omega)]
  exact w64 (by omega) (by omega)
theorem xor_ge (a b : Int) (h1 : 0 ≤ a) (h2 : a < 4611686018427387904) (h3 : 0 ≤ b) (h4 : b < 4611686018427387904) : 0 ≤ Go.bits .xor .i64 a b := by
  obtain ⟨x, rfl⟩ := Int.eq_ofNat_of_zero_le h1
  obtain ⟨y, rfl⟩ := Int.eq_ofNat_of_zero_le h3
  rw [xor_nat x y (by omega) (by omega)]
  exact Int.natCast_nonneg _
theorem rd_in {b : List Int} {lo hi : Int} (h : ∀ x ∈ b, lo ≤ x ∧ x ≤ hi) {i : Int} (h0 : 0 ≤ i) (h1 : i < b.length) : lo ≤ rd b i ∧ rd b i ≤ hi := by
  have hi' : i.toNat < b.length := by omega
  have e : rd b i = b[i.toNat] := by unfold rd; simp [List.getD_eq_getElem?_getD, List.getElem?_eq_getElem hi']
  rw [e]
  exact h _ (List.getElem_mem hi')
theorem rd_mem {b : List Int} {i : Int} (h0 : 0 ≤ i) (h1 : i < b.length) : rd b i ∈ b := by
  have hi' : i.toNat < b.length := by omega
  have e : rd b i = b[i.toNat] := by unfold rd; simp [List.getD_eq_getElem?_getD, List.getElem?_eq_getElem hi']
  rw [e]
  exact List.getElem_mem hi'
/-- What the reader holds: bytes, no more than two thousand. -/
def Bytes (b : List Int) : Prop := (∀ x ∈ b, 0 ≤ x ∧ x ≤ 255) ∧ b.length ≤ 2000
theorem pick_ok {k : Nat} (hk : 1 ≤ k) {b : List Int} {p : Int} (n : Int) (hb : Bytes b) (hp : 0 ≤ p) (hp2 : p ≤ 1000000000) :
    ∃ r, spec_reader_pick.f k b p n = some (r, p + 1) ∧ 0 ≤ r ∧ (1 ≤ n → r < n) := by
  obtain ⟨k, rfl⟩ : ∃ m, k = m + 1 := ⟨k - 1, by omega⟩
  obtain ⟨hb, hl⟩ := hb
  unfold spec_reader_pick.f
  rw [w64 (x := p + 1) (by omega) (by omega)]
  by_cases hn : n < 1
  · exact ⟨0, by rw [if_pos hn]; simp only [spec_reader_pick.j0, if_true], by omega, fun h => by omega⟩
  rw [if_neg hn]
  by_cases h0 : (b.length : Int) = 0
  · exact ⟨0, by rw [beq_iff_eq.2 h0]; simp only [spec_reader_pick.j0, if_true], by omega, fun h => by omega⟩
  rw [beq_eq_false_iff_ne.2 h0]
  simp only [spec_reader_pick.j0]
  rw [w64 (x := p + 1 - 1) (by omega) (by omega), show p + 1 - 1 = p by omega, if_neg (by simp)]
  by_cases h1 : p < (b.length : Int)
  · have hr := rd_in hb hp h1
    rw [if_pos h1, if_pos hp, if_neg (by omega), w64 (by omega) (by omega), tm hr.1]
    exact ⟨_, rfl, Int.emod_nonneg _ (by omega), fun _ => Int.emod_lt_of_pos _ (by omega)⟩
  · have hL : 0 < (b.length : Int) := by omega
    have m1 := Int.emod_nonneg p (b := b.length) (by omega)
    have m2 := Int.emod_lt_of_pos p hL
    have m3 := Int.emod_nonneg (p * 7 + 3) (b := b.length) (by omega)
    have m4 := Int.emod_lt_of_pos (p * 7 + 3) hL
    have d1 := Int.ediv_nonneg hp (b := b.length) (by omega)
    have d2 : p / (b.length : Int) ≤ p := Int.ediv_le_self _ hp
    have r1 := rd_in hb m1 m2
    have r2 := rd_in hb m3 m4
    rw [w64 (x := p * 7) (by omega) (by omega), w64 (x := p * 7 + 3) (by omega) (by omega), tm hp, tm (show 0 ≤ p * 7 + 3 by omega), td hp]
    rw [if_neg h1, if_neg h0, if_pos m1, if_pos m2, if_pos m3, if_pos m4, if_neg (by omega)]
    generalize rd b (p % (b.length : Int)) = A at r1 ⊢
    generalize rd b ((p * 7 + 3) % (b.length : Int)) = B at r2 ⊢
    generalize p / (b.length : Int) = q at d1 d2 ⊢
    rw [w64 (x := A) (by omega) (by omega), w64 (x := B) (by omega) (by omega), w64 (x := q) (by omega) (by omega), w64 (x := A * 131) (by omega) (by omega), w64 (x := B * 1117) (by omega) (by omega), w64 (x := p * 29) (by omega) (by omega), w64 (x := q * 53) (by omega) (by omega), w64 (x := A * 131 + B * 1117) (by omega) (by omega), w64 (x := A * 131 + B * 1117 + p * 29) (by omega) (by omega), w64 (x := A * 131 + B * 1117 + p * 29 + q * 53) (by omega) (by omega)]
    rw [td (show 0 ≤ A * 131 + B * 1117 + p * 29 + q * 53 by omega), w64 (x := (A * 131 + B * 1117 + p * 29 + q * 53) / 64) (by omega) (by omega)]
    have hx := xor_ge (A * 131 + B * 1117 + p * 29 + q * 53) ((A * 131 + B * 1117 + p * 29 + q * 53) / 64) (by omega) (by omega) (by omega) (by omega)
    rw [tm hx]
    exact ⟨_, rfl, Int.emod_nonneg _ (by omega), fun _ => Int.emod_lt_of_pos _ (by omega)⟩
theorem newReader_ok {l : List Int} (hb : ∀ x ∈ l, (Lit.int .u8 x).wf = true) : ∃ b, spec_newReader.f l = some (b, 0) ∧ Bytes b := by
  have hb' : ∀ x ∈ l, 0 ≤ x ∧ x ≤ 255 := fun x hx => by
    have := hb x hx
    simp [Lit.wf, IntKind.min, IntKind.max, IntKind.signed, IntKind.bits] at this
    omega
  unfold spec_newReader.f
  by_cases h : (l.length : Int) > 2000
  · exact ⟨l.take 2000, by rw [if_pos h, if_pos (by omega)], fun x hx => hb' x (List.mem_of_mem_take hx), by simp; omega⟩
  · exact ⟨l, by rw [if_neg h], hb', by omega⟩
theorem one_ok {k : Nat} (hk : 1 ≤ k) {b : List Int} {p : Int} (l : List Int) (hb : Bytes b) (hp : 0 ≤ p) (hp2 : p ≤ 1000000000) (hl : 1 ≤ (l.length : Int)) :
    ∃ r, spec_reader_one.f k b p l = some (r, p + 1) ∧ r ∈ l := by
  obtain ⟨r, e, h0, h1⟩ := pick_ok hk (l.length : Int) hb hp hp2
  unfold spec_reader_one.f
  rw [e]
  simp only [Option.bind_some]
  rw [if_pos h0, if_pos (h1 hl)]
  exact ⟨_, rfl, rd_mem h0 (h1 hl)⟩
def inPoll (p c : Int) : Bool := decide (4 ≤ p ∧ p ≤ 10 ∧ -30 ≤ c ∧ c ≤ 30)
theorem inPoll_iff (p c : Int) : inPoll p c = true ↔ 4 ≤ p ∧ p ≤ 10 ∧ -30 ≤ c ∧ c ≤ 30 := by simp [inPoll]
theorem within_eq (n lo hi : Int) : impl_within.f n lo hi = some (decide (lo ≤ n ∧ n ≤ hi)) := by
  unfold impl_within.f
  by_cases h : lo ≤ n <;> simp [h]
theorem validPoll_i (p c : Int) : impl_ValidPoll.f p c = some (inPoll p c) := by
  unfold impl_ValidPoll.f inPoll
  rw [within_eq, within_eq]
  by_cases h : 4 ≤ p ∧ p ≤ 10 <;> simp [h] <;> omega
theorem inRange_eq (n lo hi : Int) : spec_inRange.f n lo hi = some (decide (lo ≤ n ∧ n ≤ hi)) := by
  unfold spec_inRange.f
  by_cases h : lo ≤ n <;> simp [h]
theorem validPoll_s (p c : Int) : spec_validPoll.f p c = some (inPoll p c) := by
  unfold spec_validPoll.f inPoll
  rw [inRange_eq, inRange_eq]
  by_cases h : 4 ≤ p ∧ p ≤ 10 <;> simp [h] <;> omega
/-- What a poll makes of a state. -/
def nxt (p c o j : Int) : Int × Int × Bool :=
  if inPoll p c = true ∧ (-1000000 ≤ o ∧ o ≤ 1000000) ∧ 0 ≤ j ∧ j ≤ 1000000 then
    if mx o (-o) ≤ 4 * j then (if c + p ≥ 30 then (mn (p + 1) 10, 0, true) else (p, c + p, true))
    else (if c - 2 * p ≤ -30 then (mx (p - 1) 4, 0, true) else (p, c - 2 * p, true))
  else (0, 0, false)
theorem next_i {k : Nat} (hk : 1 ≤ k) (p c o j : Int) : impl_NextPoll.f k p c o j = some (nxt p c o j) := by
  obtain ⟨k, rfl⟩ : ∃ m, k = m + 1 := ⟨k - 1, by omega⟩
  unfold impl_NextPoll.f nxt impl_isOffset.f
  simp only [validPoll_i, within_eq, Option.bind_some]
  by_cases h1 : inPoll p c = true
  · have h' := (inPoll_iff p c).1 h1
    by_cases h2 : -1000000 ≤ o ∧ o ≤ 1000000
    · by_cases h3 : 0 ≤ j ∧ j ≤ 1000000
      · rw [if_pos h1, if_pos (by simp [h2]), if_pos ⟨h1, h2, h3⟩]
        simp only [impl_NextPoll.j0]
        rw [if_neg (by simp [h3])]
        unfold impl_apart.f
        simp only [Option.bind_some]
        rw [w64 (x := o - 0) (by omega) (by omega), w64 (x := 0 - o) (by omega) (by omega), w64 (x := 4 * j) (by omega) (by omega), w64 (x := c + p) (by omega) (by omega), w64 (x := p + 1) (by omega) (by omega), w64 (x := 2 * p) (by omega) (by omega), w64 (x := c - 2 * p) (by omega) (by omega), w64 (x := p - 1) (by omega) (by omega), show o - 0 = o by omega, show 0 - o = -o by omega]
        split <;> split <;> rfl
      · rw [if_pos h1, if_pos (by simp [h2]), if_neg (by omega)]
        simp only [impl_NextPoll.j0]
        rw [if_pos (by simp; omega)]
    · rw [if_pos h1, if_neg (by simp; omega), if_neg (by omega)]
      simp only [impl_NextPoll.j0, if_true]
  · rw [if_neg h1, if_neg (fun h => h1 h.1)]
    simp only [impl_NextPoll.j0, if_true]
theorem next_s {k : Nat} (hk : 1 ≤ k) (p c o j : Int) : spec_NextPoll.f k p c o j = some (nxt p c o j) := by
  obtain ⟨k, rfl⟩ : ∃ m, k = m + 1 := ⟨k - 1, by omega⟩
  unfold spec_NextPoll.f nxt
  simp only [validPoll_s, inRange_eq, Option.bind_some]
  by_cases h1 : inPoll p c = true
  · have h' := (inPoll_iff p c).1 h1
    by_cases h2 : -1000000 ≤ o ∧ o ≤ 1000000
    · by_cases h3 : 0 ≤ j ∧ j ≤ 1000000
      · rw [if_pos h1, if_pos (by simp [h2]), if_pos ⟨h1, h2, h3⟩]
        simp only [spec_NextPoll.j0]
        rw [if_neg (by simp [h3])]
        unfold spec_size.f
        simp only [Option.bind_some]
        rw [w64 (x := -o) (by omega) (by omega), w64 (x := 4 * j) (by omega) (by omega), w64 (x := c + p) (by omega) (by omega), w64 (x := p + 1) (by omega) (by omega), w64 (x := 2 * p) (by omega) (by omega), w64 (x := c - 2 * p) (by omega) (by omega), w64 (x := p - 1) (by omega) (by omega)]
        split <;> split <;> rfl
      · rw [if_pos h1, if_pos (by simp [h2]), if_neg (by omega)]
        simp only [spec_NextPoll.j0]
        rw [if_pos (by simp; omega)]
    · rw [if_pos h1, if_neg (by simp; omega), if_neg (by omega)]
      simp only [spec_NextPoll.j0, if_true]
  · rw [if_neg h1, if_neg (fun h => h1 h.1)]
    simp only [spec_NextPoll.j0, if_true]
/-- What is told is a valid state, no more than one power away. -/
theorem nxt_good {p c o j : Int} (h : (nxt p c o j).2.2 = true) :
    inPoll p c = true ∧ inPoll (nxt p c o j).1 (nxt p c o j).2.1 = true ∧ p - 1 ≤ (nxt p c o j).1 ∧ (nxt p c o j).1 ≤ p + 1 ∧ ((nxt p c o j).1 = p ∨ (nxt p c o j).2.1 = 0) ∧ (o = 0 → p ≤ (nxt p c o j).1) ∧ (o = 900000 → j = 0 → (nxt p c o j).1 ≤ p) := by
  unfold nxt at h ⊢
  by_cases h1 : inPoll p c = true ∧ (-1000000 ≤ o ∧ o ≤ 1000000) ∧ 0 ≤ j ∧ j ≤ 1000000
  · rw [if_pos h1] at h ⊢
    have h' := (inPoll_iff p c).1 h1.1
    refine ⟨h1.1, ?_⟩
    have hz : o = 0 → mx o (-o) ≤ 4 * j := fun e => by subst e; unfold mx; split <;> omega
    have hb : o = 900000 → j = 0 → ¬ mx o (-o) ≤ 4 * j := fun e e' => by subst e; subst e'; decide
    have m1 : mn (p + 1) 10 ≤ 10 ∧ mn (p + 1) 10 ≤ p + 1 ∧ p ≤ mn (p + 1) 10 := by unfold mn; split <;> omega
    have m2 : 4 ≤ mx (p - 1) 4 ∧ p - 1 ≤ mx (p - 1) 4 ∧ mx (p - 1) 4 ≤ p := by unfold mx; split <;> omega
    generalize mn (p + 1) 10 = u at *
    generalize mx (p - 1) 4 = v at *
    clear h
    by_cases a1 : mx o (-o) ≤ 4 * j
    · rw [if_pos a1]
      by_cases a2 : c + p ≥ 30
      · rw [if_pos a2]
        simp only [inPoll_iff]
        exact ⟨by omega, by omega, by omega, .inr trivial, by omega, fun e e' => absurd a1 (hb e e')⟩
      · rw [if_neg a2]
        simp only [inPoll_iff]
        exact ⟨by omega, by omega, by omega, .inl trivial, by omega, by omega⟩
    · rw [if_neg a1]
      by_cases a2 : c - 2 * p ≤ -30
      · rw [if_pos a2]
        simp only [inPoll_iff]
        exact ⟨by omega, by omega, by omega, .inr trivial, fun e => absurd (hz e) a1, by omega⟩
      · rw [if_neg a2]
        simp only [inPoll_iff]
        exact ⟨by omega, by omega, by omega, .inl trivial, by omega, by omega⟩
  · rw [if_neg h1] at h
    exact absurd h (by simp)
theorem nxt_told (p c o j : Int) : (nxt p c o j).2.2 = true ↔ inPoll p c = true ∧ (-1000000 ≤ o ∧ o ≤ 1000000) ∧ 0 ≤ j ∧ j ≤ 1000000 := by
  unfold nxt
  split
  · rename_i h
    split <;> split <;> simp [h]
  · rename_i h
    simp only [Bool.false_eq_true, false_iff]
    exact h
theorem nxt_neg (p c o j : Int) : nxt p c (-o) j = nxt p c o j := by
  have e : mx (-o) (- -o) = mx o (-o) := by unfold mx; split <;> split <;> omega
  unfold nxt
  rw [e]
  by_cases h : inPoll p c = true ∧ (-1000000 ≤ o ∧ o ≤ 1000000) ∧ 0 ≤ j ∧ j ≤ 1000000
  · rw [if_pos h, if_pos ⟨h.1, by omega, h.2.2⟩]
  · rw [if_neg h, if_neg (fun g => h ⟨g.1, by omega, g.2.2⟩)]
theorem anyPoll_ok {k : Nat} (hk : 1 ≤ k) {b : List Int} {p : Int} (hb : Bytes b) (hp : 0 ≤ p) (hp2 : p ≤ 999999000) :
    ∃ x y q, spec_anyPoll.f k b p = some (x, y, q) ∧ 0 ≤ q ∧ q ≤ p + 5 ∧ -100 ≤ x ∧ x ≤ 100 ∧ -100 ≤ y ∧ y ≤ 100 := by
  obtain ⟨r1, e1, l1, u1⟩ := pick_ok hk (p := p) 7 hb (by omega) (by omega)
  obtain ⟨r2, e2, l2, u2⟩ := pick_ok hk (p := p + 1) 61 hb (by omega) (by omega)
  obtain ⟨r3, e3, l3, u3⟩ := pick_ok hk (p := p + 1 + 1) 12 hb (by omega) (by omega)
  obtain ⟨r4, e4, l4⟩ := one_ok hk (p := p + 1 + 1 + 1) [3, 11, 6] hb (by omega) (by omega) (by simp)
  obtain ⟨r5, e5, l5⟩ := one_ok hk (p := p + 1 + 1 + 1 + 1) [31, -31, 0] hb (by omega) (by omega) (by simp)
  have := u1 (by omega); have := u2 (by omega)
  unfold spec_anyPoll.f
  simp only [e1, e2, e3, Option.bind_some]
  by_cases h : r3 = 0
  · rw [if_pos h]
    simp only [e4, e5, Option.bind_some]
    simp at l4 l5
    exact ⟨_, _, _, rfl, by omega, by omega, by omega, by omega, by omega, by omega⟩
  · rw [if_neg h, w64 (by omega) (by omega), w64 (by omega) (by omega)]
    exact ⟨_, _, _, rfl, by omega, by omega, by omega, by omega, by omega, by omega⟩
theorem someOffset_ok {k : Nat} (hk : 1 ≤ k) {b : List Int} {p : Int} (hb : Bytes b) (hp : 0 ≤ p) (hp2 : p ≤ 999999000) :
    ∃ x q, spec_someOffset.f k b p = some (x, q) ∧ 0 ≤ q ∧ q ≤ p + 2 ∧ -1000000 ≤ x ∧ x ≤ 1000000 := by
  obtain ⟨r1, e1, l1, u1⟩ := pick_ok hk (p := p) 250 hb (by omega) (by omega)
  have := u1 (by omega)
  unfold spec_someOffset.f
  simp only [e1, Option.bind_some]
  rw [w64 (x := r1 - 125) (by omega) (by omega), w64 (x := 40 * (r1 - 125)) (by omega) (by omega)]
  obtain ⟨r2, e2, l2⟩ := one_ok hk (p := p + 1) [0, 1, -1, 100, -250, 5000, 128000, 128001, -128000, 1000000, -1000000, 40 * (r1 - 125)] hb (by omega) (by omega) (by simp)
  simp only [e2, Option.bind_some]
  simp at l2
  exact ⟨_, _, rfl, by omega, by omega, by omega, by omega⟩
theorem anyOffset_ok {k : Nat} (hk : 1 ≤ k) {b : List Int} {p : Int} (hb : Bytes b) (hp : 0 ≤ p) (hp2 : p ≤ 999998000) :
    ∃ x q, spec_anyOffset.f k b p = some (x, q) ∧ 0 ≤ q ∧ q ≤ p + 3 ∧ -1000001 ≤ x ∧ x ≤ 1000001 := by
  obtain ⟨r1, e1, l1, u1⟩ := pick_ok hk (p := p) 14 hb (by omega) (by omega)
  obtain ⟨r2, e2, l2⟩ := one_ok hk (p := p + 1) [1000001, -1000001] hb (by omega) (by omega) (by simp)
  obtain ⟨x, q, e3, h3⟩ := someOffset_ok hk (p := p + 1) hb (by omega) (by omega)
  unfold spec_anyOffset.f
  simp only [e1, Option.bind_some]
  by_cases h : r1 = 0
  · rw [if_pos h]
    simp only [e2, Option.bind_some]
    simp at l2
    exact ⟨_, _, rfl, by omega, by omega, by omega, by omega⟩
  · rw [if_neg h]
    simp only [e3, Option.bind_some]
    exact ⟨_, _, rfl, by omega, by omega, by omega, by omega⟩
theorem drawNext_ok {k : Nat} (hk : 1 ≤ k) {l : List Int} (hb : ∀ x ∈ l, (Lit.int .u8 x).wf = true) :
    ∃ p c o j, spec_DrawNextPoll.f k l = some (p, c, o, j) ∧ -100 ≤ p ∧ p ≤ 100 ∧ -1000001 ≤ o ∧ o ≤ 1000001 := by
  obtain ⟨b, eb, hB⟩ := newReader_ok hb
  obtain ⟨x, y, q, ep, g1, g2, g3, g4, _⟩ := anyPoll_ok hk hB (p := 0) (by omega) (by omega)
  obtain ⟨o, q2, eo, f1, f2, f3, f4⟩ := anyOffset_ok hk hB (p := q) (by omega) (by omega)
  obtain ⟨r, er, _⟩ := one_ok hk (p := q2) [0, 25, 100, 1250, 1000000, 1000001, -1] hB (by omega) (by omega) (by simp)
  refine ⟨x, y, o, r, ?_, g3, g4, f3, f4⟩
  unfold spec_DrawNextPoll.f
  simp only [eb, ep, eo, er, Option.bind_some]
end KFnNextPoll
open KFnNextPoll
theorem FnNextPoll : laws_FnNextPoll.Pure := by
  intro l hl hs hb
  refine ⟨2, ?_⟩
  unfold laws_FnNextPoll.f
  by_cases h0 : (l.length : Int) > 1048576
  · rw [if_pos h0]
  rw [if_neg h0]
  obtain ⟨p, c, o, j, ed, hp1, hp2, ho1, ho2⟩ := drawNext_ok (k := 2) (by omega) hb
  simp only [ed, Option.bind_some, next_i (k := 2) (by omega), next_s (k := 2) (by omega)]
  simp only [beq_self_eq_true, Bool.not_true, Bool.or_self, Bool.false_eq_true, if_false, bne_self_eq_false, laws_FnNextPoll.j0]
  cases h : (nxt p c o j).2.2 with
  | false => simp
  | true =>
    obtain ⟨h1, h2, h3, h4, h5, _⟩ := nxt_good h
    have hd : nxt p c o j = ((nxt p c o j).1, (nxt p c o j).2.1, (nxt p c o j).2.2) := rfl
    generalize (nxt p c o j).1 = x at *
    generalize (nxt p c o j).2.1 = y at *
    rw [if_neg (by simp), validPoll_i]
    simp only [Option.bind_some, h2, if_true]
    unfold laws_size.f
    have hs : mx (x - p) (wrap64 (-(x - p))) ≤ 1 := by rw [w64 (by omega) (by omega)]; unfold mx; split <;> omega
    rw [w64 (x := x - p) (by omega) (by omega)]
    simp only [Option.bind_some]
    rw [if_pos hs]
    by_cases hx : x = p
    · rw [if_pos hx]
    · rw [if_neg hx]
      have : y = 0 := by omega
      simp [this]

end Go.Proofs.Ytgoneahlhglcoaa.Pure
