/- Proved: the seconds of a state with a power 1 greater are twice as many, at every code (law FnPollSeconds); no condition beyond the statement's own. -/
import Derived.Test.YtgoneahlhglcoaaPFnPollSecondsx2
import Derived.Laws.BitsLemmas
import Derived.Laws.Bits64
namespace Go.Proofs.Ytgoneahlhglcoaa.Pure
open Go Go.RowKit Go.Proofs.Ytgoneahlhglcoaa.PFnPollSeconds Go.Proofs.YtgoneahlhglcoaaW.PrintWords Go.Proofs.YtgoneahlhglcoaaW.PrintLast Go.Proofs.YtgoneahlhglcoaaW.PrintMore

namespace KFnPollSeconds
theorem w64 {x : Int} (h1 : -9223372036854775808 ≤ x) (h2 : x < 9223372036854775808) : wrap64 x = x := by unfold wrap64; omega
theorem i64wrap (x : Int) : IntKind.i64.wrap x = wrap64 x := by rw [IntKind.wrap_i64]; unfold wrap64; rfl
theorem tm {a b : Int} (h : 0 ≤ a) : Int.tmod a b = a % b := Int.tmod_eq_emod_of_nonneg h
theorem td {a b : Int} (h : 0 ≤ a) : Int.tdiv a b = a / b := Int.tdiv_eq_ediv_of_nonneg h
theorem sval {α : Type} {x : Option α} {a : α} (h : x = some a) {β : Type} (f : α → Option β) : x.bind f = f a := by rw [h]; rfl
theorem xor_nat (a b : Nat) (ha : a < 2 ^ 62) (hb : b < 2 ^ 62) : Go.bits .xor .i64 (a : Int) (b : Int) = ((a ^^^ b : Nat) : Int) := by
  have hx := Nat.xor_lt_two_pow ha hb
  have e : Go.bits .xor .i64 (a : Int) (b : Int) = wrap64 ((BitVec.ofInt 64 (a : Int) ^^^ BitVec.ofInt 64 (b : Int)).toNat : Int) := by rw [← i64wrap]; rfl
  rw [e, BitVec.ofInt_natCast, BitVec.ofInt_natCast, BitVec.toNat_xor, BitVec.toNat_ofNat, BitVec.toNat_ofNat, Nat.mod_eq_of_lt (by omega), Nat.mod_eq_of_lt (by omega)]
  exact w64 (by omega) (by omega)
theorem xor_ge (a b : Int) (h1 : 0 ≤ a) (h2 : a < 4611686018427387904) (h3 : 0 ≤ b) (h4 : b < 4611686018427387904) : 0 ≤ Go.bits .xor .i64 a b := by
  obtain ⟨x, rfl⟩ := Int.eq_ofNat_of_zero_le h1
  obtain ⟨y, rfl⟩ := Int.eq_ofNat_of_zero_le h3
  rw [xor_nat x y (by omega) (by omega)]
  exact Int.natCast_nonneg _
theorem rd_in {b : List Int} {lo hi : Int} (h : ∀ x ∈ b, lo ≤ x ∧ x ≤ hi) {i : Int} (h0 : 0 ≤ i) (h1 : i < b.length) : lo ≤ rd b i ∧ rd b i ≤ hi := by
  have hi' : i.toNat < b.length := by omega
  have e : rd b i = b[i.toNat] := by unfold rd; simp [List.getD_eq_getElem?_getD, List.getElem?_eq_getElem hi']
  rw [e]
  exact h _ (List.getElem_mem hi')
theorem rd_mem {b : List Int} {i : Int} (h0 : 0 ≤ i) (h1 : i < b.length) : rd b i ∈ b := by
  have hi' : i.toNat < b.length := by omega
  have e : rd b i = b[i.toNat] := by unfold rd; simp [List.getD_eq_getElem?_getD, List.getElem?_eq_getElem hi']
  rw [e]
  exact List.getElem_mem hi'
/-- What the reader holds: bytes, no more than two thousand. -/
def Bytes (b : List Int) : Prop := (∀ x ∈ b, 0 ≤ x ∧ x ≤ 255) ∧ b.length ≤ 2000
theorem pick_ok {k : Nat} (hk : 1 ≤ k) {b : List Int} {p : Int} (n : Int) (hb : Bytes b) (hp : 0 ≤ p) (hp2 : p ≤ 1000000000) :
    ∃ r, spec_reader_pick.f k b p n = some (r, p + 1) ∧ 0 ≤ r ∧ (1 ≤ n → r < n) := by
  obtain ⟨k, rfl⟩ : ∃ m, k = m + 1 := ⟨k - 1, by omega⟩
  obtain ⟨hb, hl⟩ := hb
  unfold spec_reader_pick.f
  rw [w64 (x := p + 1) (by omega) (by omega)]
  by_cases hn : n < 1
  · exact ⟨0, by rw [if_pos hn]; simp only [spec_reader_pick.j0, if_true], by omega, fun h => by omega⟩
  rw [if_neg hn]
  by_cases h0 : (b.length : Int) = 0
  · exact ⟨0, by rw [beq_iff_eq.2 h0]; simp only [spec_reader_pick.j0, if_true], by omega, fun h => by omega⟩
  rw [beq_eq_false_iff_ne.2 h0]
  simp only [spec_reader_pick.j0]
  rw [w64 (x := p + 1 - 1) (by omega) (by omega), show p + 1 - 1 = p by omega, if_neg (by simp)]
  by_cases h1 : p < (b.length : Int)
  · have hr := rd_in hb hp h1
    rw [if_pos h1, if_pos hp, if_neg (by omega), w64 (by omega) (by omega), tm hr.1]
    exact ⟨_, rfl, Int.emod_nonneg _ (by omega), fun _ => Int.emod_lt_of_pos _ (by omega)⟩
  · have hL : 0 < (b.length : Int) := by omega
    have m1 := Int.emod_nonneg p (b := b.length) (by omega)
    have m2 := Int.emod_lt_of_pos p hL
    have m3 := Int.emod_nonneg (p * 7 + 3) (b := b.length) (by omega)
    have m4 := Int.emod_lt_of_pos (p * 7 + 3) hL
    have d1 := Int.ediv_nonneg hp (b := b.length) (by omega)
    have d2 : p / (b.length : Int) ≤ p := Int.ediv_le_self _ hp
    have r1 := rd_in hb m1 m2
    have r2 := rd_in hb m3 m4
    rw [w64 (x := p * 7) (by omega) (by omega), w64 (x := p * 7 + 3) (by omega) (by omega), tm hp, tm (show 0 ≤ p * 7 + 3 by omega), td hp]
    rw [if_neg h1, if_neg h0, if_pos m1, if_pos m2, if_pos m3, if_pos m4, if_neg (by omega)]
    generalize rd b (p % (b.length : Int)) = A at r1 ⊢
    generalize rd b ((p * 7 + 3) % (b.length : Int)) = B at r2 ⊢
    generalize p / (b.length : Int) = q at d1 d2 ⊢
    rw [w64 (x := A) (by omega) (by omega), w64 (x := B) (by omega) (by omega), w64 (x := q) (by omega) (by omega), w64 (x := A * 131) (by omega) (by omega), w64 (x := B * 1117) (by omega) (by omega), w64 (x := p * 29) (by omega) (by omega), w64 (x := q * 53) (by omega) (by omega), w64 (x := A * 131 + B * 1117) (by omega) (by omega), w64 (x := A * 131 + B * 1117 + p * 29) (by omega) (by omega), w64 (x := A * 131 + B * 1117 + p * 29 + q * 53) (by omega) (by omega)]
    rw [td (show 0 ≤ A * 131 + B * 1117 + p * 29 + q * 53 by omega), w64 (x := (A * 131 + B * 1117 + p * 29 + q * 53) / 64) (by omega) (by omega)]
    have hx := xor_ge (A * 131 + B * 1117 + p * 29 + q * 53) ((A * 131 + B * 1117 + p * 29 + q * 53) / 64) (by omega) (by omega) (by omega) (by omega)
    rw [tm hx]
    exact ⟨_, rfl, Int.emod_nonneg _ (by omega), fun _ => Int.emod_lt_of_pos _ (by omega)⟩
theorem newReader_ok {l : List Int} (hb : ∀ x ∈ l, (Lit.int .u8 x).wf = true) : ∃ b, spec_newReader.f l = some (b, 0) ∧ Bytes b := by
  have hb' : ∀ x ∈ l, 0 ≤ x ∧ x ≤ 255 := fun x hx => by
    have := hb x hx
    simp [Lit.wf, IntKind.min, IntKind.max, IntKind.signed, IntKind.bits] at this
    omega
  unfold spec_newReader.f
  by_cases h : (l.length : Int) > 2000
  · exact ⟨l.take 2000, by rw [if_pos h, if_pos (by omega)], fun x hx => hb' x (List.mem_of_mem_take hx), by simp; omega⟩
  · exact ⟨l, by rw [if_neg h], hb', by omega⟩
theorem one_ok {k : Nat} (hk : 1 ≤ k) {b : List Int} {p : Int} (l : List Int) (hb : Bytes b) (hp : 0 ≤ p) (hp2 : p ≤ 1000000000) (hl : 1 ≤ (l.length : Int)) :
    ∃ r, spec_reader_one.f k b p l = some (r, p + 1) ∧ r ∈ l := by
  obtain ⟨r, e, h0, h1⟩ := pick_ok hk (l.length : Int) hb hp hp2
  unfold spec_reader_one.f
  rw [e]
  simp only [Option.bind_some]
  rw [if_pos h0, if_pos (h1 hl)]
  exact ⟨_, rfl, rd_mem h0 (h1 hl)⟩
def inPoll (p c : Int) : Bool := decide (4 ≤ p ∧ p ≤ 10 ∧ -30 ≤ c ∧ c ≤ 30)
theorem inPoll_iff (p c : Int) : inPoll p c = true ↔ 4 ≤ p ∧ p ≤ 10 ∧ -30 ≤ c ∧ c ≤ 30 := by simp [inPoll]
theorem within_eq (n lo hi : Int) : impl_within.f n lo hi = some (decide (lo ≤ n ∧ n ≤ hi)) := by
  unfold impl_within.f
  by_cases h : lo ≤ n <;> simp [h]
theorem validPoll_i (p c : Int) : impl_ValidPoll.f p c = some (inPoll p c) := by
  unfold impl_ValidPoll.f inPoll
  rw [within_eq, within_eq]
  by_cases h : 4 ≤ p ∧ p ≤ 10 <;> simp [h] <;> omega
theorem inRange_eq (n lo hi : Int) : spec_inRange.f n lo hi = some (decide (lo ≤ n ∧ n ≤ hi)) := by
  unfold spec_inRange.f
  by_cases h : lo ≤ n <;> simp [h]
theorem validPoll_s (p c : Int) : spec_validPoll.f p c = some (inPoll p c) := by
  unfold spec_validPoll.f inPoll
  rw [inRange_eq, inRange_eq]
  by_cases h : 4 ≤ p ∧ p ≤ 10 <;> simp [h] <;> omega
/-- Two to the power of a valid state. -/
def secs (p c : Int) : Int := if inPoll p c = true then shl .i64 1 p else -1
theorem shl_at (p : Int) (h : 4 ≤ p ∧ p ≤ 10) : 16 ≤ shl .i64 1 p ∧ shl .i64 1 p ≤ 1024 ∧ (p ≤ 9 → shl .i64 1 (p + 1) = 2 * shl .i64 1 p) := by
  rcases (by omega : p = 4 ∨ p = 5 ∨ p = 6 ∨ p = 7 ∨ p = 8 ∨ p = 9 ∨ p = 10) with rfl | rfl | rfl | rfl | rfl | rfl | rfl <;> decide
theorem secs_i (p c : Int) : impl_PollSeconds.f p c = some (secs p c) := by
  unfold impl_PollSeconds.f secs
  rw [validPoll_i]
  simp only [Option.bind_some]
  by_cases h : inPoll p c = true
  · have h' := (inPoll_iff p c).1 h
    have e : IntKind.u64.wrap p = p := by rw [IntKind.wrap_u64]; omega
    rw [if_pos h, if_pos h, e, if_pos (by omega)]
  · rw [if_neg h, if_neg h]
theorem secs_s (p c : Int) : spec_PollSeconds.f p c = some (secs p c) := by
  unfold spec_PollSeconds.f secs
  rw [validPoll_s]
  simp only [Option.bind_some]
  by_cases h : inPoll p c = true
  · have h' := (inPoll_iff p c).1 h
    rw [if_pos h, if_pos h, if_pos (by omega)]
  · rw [if_neg h, if_neg h]
theorem anyPoll_ok {k : Nat} (hk : 1 ≤ k) {b : List Int} {p : Int} (hb : Bytes b) (hp : 0 ≤ p) (hp2 : p ≤ 999999000) :
    ∃ x y q, spec_anyPoll.f k b p = some (x, y, q) ∧ 0 ≤ q ∧ q ≤ p + 5 ∧ -100 ≤ x ∧ x ≤ 100 ∧ -100 ≤ y ∧ y ≤ 100 := by
  obtain ⟨r1, e1, l1, u1⟩ := pick_ok hk (p := p) 7 hb (by omega) (by omega)
  obtain ⟨r2, e2, l2, u2⟩ := pick_ok hk (p := p + 1) 61 hb (by omega) (by omega)
  obtain ⟨r3, e3, l3, u3⟩ := pick_ok hk (p := p + 1 + 1) 12 hb (by omega) (by omega)
  obtain ⟨r4, e4, l4⟩ := one_ok hk (p := p + 1 + 1 + 1) [3, 11, 6] hb (by omega) (by omega) (by simp)
  obtain ⟨r5, e5, l5⟩ := one_ok hk (p := p + 1 + 1 + 1 + 1) [31, -31, 0] hb (by omega) (by omega) (by simp)
  have := u1 (by omega); have := u2 (by omega)
  unfold spec_anyPoll.f
  simp only [e1, e2, e3, Option.bind_some]
  by_cases h : r3 = 0
  · rw [if_pos h]
    simp only [e4, e5, Option.bind_some]
    simp at l4 l5
    exact ⟨_, _, _, rfl, by omega, by omega, by omega, by omega, by omega, by omega⟩
  · rw [if_neg h, w64 (by omega) (by omega), w64 (by omega) (by omega)]
    exact ⟨_, _, _, rfl, by omega, by omega, by omega, by omega, by omega, by omega⟩
end KFnPollSeconds
open KFnPollSeconds
theorem FnPollSeconds : laws_FnPollSeconds.Pure := by
  intro l hl hs hb
  refine ⟨1, ?_⟩
  unfold laws_FnPollSeconds.f
  by_cases h0 : (l.length : Int) > 1048576
  · rw [if_pos h0]
  rw [if_neg h0]
  obtain ⟨b, eb, hB⟩ := newReader_ok hb
  obtain ⟨x, y, q, ep, _, _, hx1, hx2, _⟩ := anyPoll_ok (k := 1) (Nat.le_refl 1) hB (p := 0) (by omega) (by omega)
  unfold spec_DrawPollSeconds.f
  simp only [eb, ep, Option.bind_some, secs_i, secs_s]
  simp only [if_true, laws_FnPollSeconds.j0]
  by_cases h : inPoll x y = true
  · have h' := (inPoll_iff x y).1 h
    have hs := shl_at x (by omega)
    have e : secs x y = shl .i64 1 x := by unfold secs; rw [if_pos h]
    rw [e, if_neg (by simp; omega), secs_i]
    simp only [Option.bind_some]
    rw [if_pos (by omega), if_pos (by omega)]
    by_cases h10 : x = 10
    · rw [if_pos h10]
    · have h'' : inPoll (x + 1) 0 = true := (inPoll_iff _ _).2 (by omega)
      rw [if_neg h10, w64 (x := x + 1) (by omega) (by omega), w64 (by omega) (by omega)]
      unfold secs
      rw [if_pos h'', hs.2.2 (by omega)]
      simp
  · have e : secs x y = -1 := by unfold secs; rw [if_neg h]
    rw [e]
    simp [secs_s, e]

end Go.Proofs.Ytgoneahlhglcoaa.Pure
