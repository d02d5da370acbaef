/- Proved: CleanPulses of pulses that are all 7 microseconds later are the same, 7 microseconds later, at every code (law FnCleanPulsesLater); no condition beyond the statement's own. -/
import Derived.Test.YtpkpbcfehllehaaPFnCleanPulsesLaterx4
import Derived.Laws.BitsLemmas
namespace Go.Proofs.Ytpkpbcfehllehaa.Pure
open Go Go.RowKit Go.Proofs.Ytpkpbcfehllehaa.PFnCleanPulsesLater Go.Proofs.YtpkpbcfehllehaaW.PrintWords Go.Proofs.YtpkpbcfehllehaaW.PrintLast Go.Proofs.YtpkpbcfehllehaaW.PrintMore

namespace KFnCleanPulsesLater
theorem w64 {x : Int} (h1 : -9223372036854775808 ≤ x) (h2 : x < 9223372036854775808) : wrap64 x = x := by unfold wrap64; omega
theorem i64wrap (x : Int) : IntKind.i64.wrap x = wrap64 x := by rw [IntKind.wrap_i64]; unfold wrap64; rfl
theorem tm {a b : Int} (h : 0 ≤ a) : Int.tmod a b = a % b := Int.tmod_eq_emod_of_nonneg h
theorem td {a b : Int} (h : 0 ≤ a) : Int.tdiv a b = a / b := Int.tdiv_eq_ediv_of_nonneg h
theorem sval {α : Type} {x : Option α} {a : α} (h : x = some a) {β : Type} (f : α → Option β) : x.bind f = f a := by rw [h]; rfl
theorem xor_nat (a b : Nat) (ha : a < 2 ^ 62) (hb : b < 2 ^ 62) : Go.bits .xor .i64 (a : Int) (b : Int) = ((a ^^^ b : Nat) : Int) := by
  have hx := Nat.xor_lt_two_pow ha hb
  have e : Go.bits .xor .i64 (a : Int) (b : Int) = wrap64 ((BitVec.ofInt 64 (a : Int) ^^^ BitVec.ofInt 64 (b : Int)).toNat : Int) := by rw [← i64wrap]; rfl
  rw [e, BitVec.ofInt_natCast, BitVec.ofInt_natCast, BitVec.toNat_xor, BitVec.toNat_ofNat, BitVec.toNat_ofNat, Nat.mod_eq_of_lt (by omega), Nat.mod_eq_of_lt (by omega)]
  exact w64 (by omega) (by omega)
theorem xor_ge (a b : Int) (h1 : 0 ≤ a) (h2 : a < 4611686018427387904) (h3 : 0 ≤ b) (h4 : b < 4611686018427387904) : 0 ≤ Go.bits .xor .i64 a b := by
  obtain ⟨x, rfl⟩ := Int.eq_ofNat_of_zero_le h1
  obtain ⟨y, rfl⟩ := Int.eq_ofNat_of_zero_le h3
  rw [xor_nat x y (by omega) (by omega)]
  exact Int.natCast_nonneg _
theorem rd_in {b : List Int} {lo hi : Int} (h : ∀ x ∈ b, lo ≤ x ∧ x ≤ hi) {i : Int} (h0 : 0 ≤ i) (h1 : i < b.length) : lo ≤ rd b i ∧ rd b i ≤ hi := by
  have hi' : i.toNat < b.length := by omega
  have e : rd b i = b[i.toNat] := by unfold rd; simp [List.getD_eq_getElem?_getD, List.getElem?_eq_getElem hi']
  rw [e]
  exact h _ (List.getElem_mem hi')
theorem rd_mem {b : List Int} {i : Int} (h0 : 0 ≤ i) (h1 : i < b.length) : rd b i ∈ b := by
  have hi' : i.toNat < b.length := by omega
  have e : rd b i = b[i.toNat] := by unfold rd; simp [List.getD_eq_getElem?_getD, List.getElem?_eq_getElem hi']
  rw [e]
  exact List.getElem_mem hi'
/-- What the reader holds: bytes, no more than two thousand. -/
def Bytes (b : List Int) : Prop := (∀ x ∈ b, 0 ≤ x ∧ x ≤ 255) ∧ b.length ≤ 2000
theorem pick_ok {k : Nat} (hk : 1 ≤ k) {b : List Int} {p : Int} (n : Int) (hb : Bytes b) (hp : 0 ≤ p) (hp2 : p ≤ 1000000000) :
    ∃ r, spec_reader_pick.f k b p n = some (r, p + 1) ∧ 0 ≤ r ∧ (1 ≤ n → r < n) := by
  obtain ⟨k, rfl⟩ : ∃ m, k = m + 1 := ⟨k - 1, by omega⟩
  obtain ⟨hb, hl⟩ := hb
  unfold spec_reader_pick.f
  rw [w64 (x := p + 1) (by omega) (by omega)]
  by_cases hn : n < 1
  · exact ⟨0, by rw [if_pos hn]; simp only [spec_reader_pick.j0, if_true], by omega, fun h => by omega⟩
  rw [if_neg hn]
  by_cases h0 : (b.length : Int) = 0
  · exact ⟨0, by rw [beq_iff_eq.2 h0]; simp only [spec_reader_pick.j0, if_true], by omega, fun h => by omega⟩
  rw [beq_eq_false_iff_ne.2 h0]
  simp only [spec_reader_pick.j0]
  rw [w64 (x := p + 1 - 1) (by omega) (by omega), show p + 1 - 1 = p by omega, if_neg (by simp)]
  by_cases h1 : p < (b.length : Int)
  · have hr := rd_in hb hp h1
    rw [if_pos h1, if_pos hp, if_neg (by omega), w64 (by omega) (by omega), tm hr.1]
    exact ⟨_, rfl, Int.emod_nonneg _ (by omega), fun _ => Int.emod_lt_of_pos _ (by omega)⟩
  · have hL : 0 < (b.length : Int) := by omega
    have m1 := Int.emod_nonneg p (b := b.length) (by omega)
    have m2 := Int.emod_lt_of_pos p hL
    have m3 := Int.emod_nonneg (p * 7 + 3) (b := b.length) (by omega)
    have m4 := Int.emod_lt_of_pos (p * 7 + 3) hL
    have d1 := Int.ediv_nonneg hp (b := b.length) (by omega)
    have d2 : p / (b.length : Int) ≤ p := Int.ediv_le_self _ hp
    have r1 := rd_in hb m1 m2
    have r2 := rd_in hb m3 m4
    rw [w64 (x := p * 7) (by omega) (by omega), w64 (x := p * 7 + 3) (by omega) (by omega), tm hp, tm (show 0 ≤ p * 7 + 3 by omega), td hp]
    rw [if_neg h1, if_neg h0, if_pos m1, if_pos m2, if_pos m3, if_pos m4, if_neg (by omega)]
    generalize rd b (p % (b.length : Int)) = A at r1 ⊢
    generalize rd b ((p * 7 + 3) % (b.length : Int)) = B at r2 ⊢
    generalize p / (b.length : Int) = q at d1 d2 ⊢
    rw [w64 (x := A) (by omega) (by omega), w64 (x := B) (by omega) (by omega), w64 (x := q) (by omega) (by omega), w64 (x := A * 131) (by omega) (by omega), w64 (x := B * 1117) (by omega) (by omega), w64 (x := p * 29) (by omega) (by omega), w64 (x := q * 53) (by omega) (by omega), w64 (x := A * 131 + B * 1117) (by omega) (by omega), w64 (x := A * 131 + B * 1117 + p * 29) (by omega) (by omega), w64 (x := A * 131 + B * 1117 + p * 29 + q * 53) (by omega) (by omega)]
    rw [td (show 0 ≤ A * 131 + B * 1117 + p * 29 + q * 53 by omega), w64 (x := (A * 131 + B * 1117 + p * 29 + q * 53) / 64) (by omega) (by omega)]
    have hx := xor_ge (A * 131 + B * 1117 + p * 29 + q * 53) ((A * 131 + B * 1117 + p * 29 + q * 53) / 64) (by omega) (by omega) (by omega) (by omega)
    rw [tm hx]
    exact ⟨_, rfl, Int.emod_nonneg _ (by omega), fun _ => Int.emod_lt_of_pos _ (by omega)⟩
theorem newReader_ok {l : List Int} (hb : ∀ x ∈ l, (Lit.int .u8 x).wf = true) : ∃ b, spec_newReader.f l = some (b, 0) ∧ Bytes b := by
  have hb' : ∀ x ∈ l, 0 ≤ x ∧ x ≤ 255 := fun x hx => by
    have := hb x hx
    simp [Lit.wf, IntKind.min, IntKind.max, IntKind.signed, IntKind.bits] at this
    omega
  unfold spec_newReader.f
  by_cases h : (l.length : Int) > 2000
  · exact ⟨l.take 2000, by rw [if_pos h, if_pos (by omega)], fun x hx => hb' x (List.mem_of_mem_take hx), by simp; omega⟩
  · exact ⟨l, by rw [if_neg h], hb', by omega⟩
theorem one_ok {k : Nat} (hk : 1 ≤ k) {b : List Int} {p : Int} (l : List Int) (hb : Bytes b) (hp : 0 ≤ p) (hp2 : p ≤ 1000000000) (hl : 1 ≤ (l.length : Int)) :
    ∃ r, spec_reader_one.f k b p l = some (r, p + 1) ∧ r ∈ l := by
  obtain ⟨r, e, h0, h1⟩ := pick_ok hk (l.length : Int) hb hp hp2
  unfold spec_reader_one.f
  rw [e]
  simp only [Option.bind_some]
  rw [if_pos h0, if_pos (h1 hl)]
  exact ⟨_, rfl, rd_mem h0 (h1 hl)⟩
theorem within_eq (n lo hi : Int) : impl_within.f n lo hi = some (decide (lo ≤ n ∧ n ≤ hi)) := by
  unfold impl_within.f
  by_cases h : lo ≤ n <;> simp [h]
theorem inRange_eq (n lo hi : Int) : spec_inRange.f n lo hi = some (decide (lo ≤ n ∧ n ≤ hi)) := by
  unfold spec_inRange.f
  by_cases h : lo ≤ n <;> simp [h]
theorem rd_at (l : List Int) (i : Nat) (h : i < l.length) : rd l (i : Int) = l[i] := by unfold rd; simp [List.getD_eq_getElem?_getD, h]
theorem copyInts_ok (l : List Int) (hl : l.length ≤ 1048576) : spec_copyInts.f l = some l := by
  unfold spec_copyInts.f
  simp only [Option.bind_some, List.length_nil, List.nil_append]
  rw [if_pos (by omega)]
theorem spoil_ok {k : Nat} (hk : 1 ≤ k) {b : List Int} {p : Int} (l : List Int) (v : Int) (hb : Bytes b) (hp : 0 ≤ p) (hp2 : p ≤ 999999000) (hl : l.length ≤ 1048575) :
    ∃ m q, spec_reader_spoil.f k b p l v = some (m, q) ∧ 0 ≤ q ∧ q ≤ p + 3 ∧ m.length ≤ l.length + 1 ∧ ∀ x ∈ m, x ∈ l ∨ x = v ∨ x = -1 ∨ x = 0 ∨ x = 1 := by
  obtain ⟨r1, e1, l1, u1⟩ := pick_ok hk (p := p) 20 hb (by omega) (by omega)
  obtain ⟨r2, e2, l2, u2⟩ := pick_ok hk (p := p + 1) (l.length : Int) hb (by omega) (by omega)
  obtain ⟨r3, e3, l3⟩ := one_ok hk (p := p + 1 + 1) [-1, v, 0, 1] hb (by omega) (by omega) (by simp)
  unfold spec_reader_spoil.f
  rw [copyInts_ok l (by omega)]
  simp only [e1, Option.bind_some]
  by_cases h0 : r1 = 0
  · rw [if_pos h0, if_pos (by omega)]
    exact ⟨_, _, rfl, by omega, by omega, by simp, fun x hx => by
      rcases List.mem_append.1 hx with h | h
      · exact .inl h
      · simp at h; exact .inr (.inl h)⟩
  rw [if_neg h0]
  by_cases h1 : r1 = 1
  · rw [if_pos h1]
    by_cases hz : (l.length : Int) > 0
    · rw [if_pos hz, if_pos (by omega)]
      exact ⟨_, _, rfl, by omega, by omega, by simp; omega, fun x hx => .inl (List.mem_of_mem_drop hx)⟩
    · rw [if_neg hz]
      exact ⟨_, _, rfl, by omega, by omega, by omega, fun x hx => .inl hx⟩
  rw [if_neg h1]
  by_cases h2 : r1 = 2
  · rw [if_pos h2]
    by_cases hz : (l.length : Int) > 0
    · rw [if_pos hz]
      simp only [e2, e3, Option.bind_some]
      rw [if_pos l2, if_pos (u2 (by omega))]
      refine ⟨_, _, rfl, by omega, by omega, by simp, fun x hx => ?_⟩
      rcases List.mem_or_eq_of_mem_set hx with h | h
      · exact .inl h
      · subst h; simp at l3; omega
    · rw [if_neg hz]
      exact ⟨_, _, rfl, by omega, by omega, by omega, fun x hx => .inl hx⟩
  · rw [if_neg h2]
    exact ⟨_, _, rfl, by omega, by omega, by omega, fun x hx => .inl hx⟩
theorem anyPulses_l {b : List Int} (hb : Bytes b) (d : Nat) : ∀ (k : Nat) (x : List Int) (at_ q : Int), d + 1 < k → 0 ≤ q → q ≤ 1000 + 3 * x.length → x.length + d ≤ 40 →
    ∃ l p, spec_anyPulses.l0 k x at_ (d : Int) b q = some (l, p) ∧ l.length ≤ 50 ∧ 0 ≤ p ∧ p ≤ 100000 := by
  induction d with
  | zero =>
    intro k x at_ q hk h0 h1 h2
    obtain ⟨k, rfl⟩ : ∃ m, k = m + 1 := ⟨k - 1, by omega⟩
    obtain ⟨m, q1, e1, f1, f2, f3, _⟩ := spoil_ok (k := k) (by omega) (p := q) x 100000001 hb (by omega) (by omega) (by omega)
    simp only [spec_anyPulses.l0]
    rw [if_neg (by omega), e1, Option.bind_some]
    exact ⟨m, q1, rfl, by omega, by omega, by omega⟩
  | succ d ih =>
    intro k x at_ q hk h0 h1 h2
    obtain ⟨k, rfl⟩ : ∃ m, k = m + 1 := ⟨k - 1, by omega⟩
    obtain ⟨v, e1, _⟩ := one_ok (k := k) (by omega) (p := q) [1000000, 1000003, 999990, 2000000, 1002000, 1002001, 998000, 500000, 5] hb (by omega) (by omega) (by simp)
    simp only [spec_anyPulses.l0]
    rw [if_pos (by omega), if_pos (by omega), e1, Option.bind_some, w64 (x := ((d + 1 : Nat) : Int) - 1) (by omega) (by omega), show ((d + 1 : Nat) : Int) - 1 = (d : Int) by omega]
    exact ih k (x ++ [at_]) _ (q + 1) (by omega) (by omega) (by simp; omega) (by simp; omega)
theorem anyPulses_ok {k : Nat} (hk : 40 ≤ k) {b : List Int} (hb : Bytes b) : ∃ l p, spec_anyPulses.f k b 0 = some (l, p) ∧ l.length ≤ 50 ∧ 0 ≤ p ∧ p ≤ 100000 := by
  obtain ⟨r1, e1, l1, u1⟩ := pick_ok (k := k) (by omega) (p := 0) 250 hb (by omega) (by omega)
  obtain ⟨r2, e2, l2⟩ := one_ok (k := k) (by omega) (p := 0 + 1) [4, 6, 3, 8, 1, 0, 16, 17] hb (by omega) (by omega) (by simp)
  simp at l2
  obtain ⟨d, rfl⟩ : ∃ d : Nat, r2 = d := ⟨r2.toNat, by omega⟩
  obtain ⟨l, p, e, h⟩ := anyPulses_l hb d k [] (wrap64 (1000 * r1)) (0 + 1 + 1) (by omega) (by omega) (by simp) (by simp; omega)
  refine ⟨l, p, ?_, h⟩
  unfold spec_anyPulses.f
  rw [e1, Option.bind_some, e2, Option.bind_some]
  exact e
/-- Pulses in their range that ascend, behind one that may stand ahead of them. -/
def good : Option Int → List Int → Bool
  | _, [] => true
  | none, x :: xs => decide (0 ≤ x ∧ x ≤ 100000000) && good (some x) xs
  | some p, x :: xs => decide (0 ≤ x ∧ x ≤ 100000000) && (decide (p < x) && good (some x) xs)
def prev (l : List Int) (i : Nat) : Option Int := if i = 0 then none else some (rd l ((i : Int) - 1))
theorem prev_succ (l : List Int) (i : Nat) : prev l (i + 1) = some (rd l (i : Int)) := by unfold prev; rw [if_neg (by omega)]; congr 2; omega
def okP (l : List Int) : Bool := good none l && decide (l.length ≤ 16)
theorem drop_at (l : List Int) (i : Nat) (h : i < l.length) : l.drop i = rd l (i : Int) :: l.drop (i + 1) := by
  rw [rd_at l i h, List.drop_eq_getElem_cons h]
theorem validP_il (l : List Int) (hl : l.length ≤ 1048576) (n : Nat) : ∀ (i k : Nat), i + n = l.length → n < k → impl_ValidPulses.l0 k l l (l.length : Int) (i : Int) = some (good (prev l i) (l.drop i) && decide (l.length ≤ 16)) := by
  induction n with
  | zero =>
    intro i k h hk
    obtain ⟨k, rfl⟩ : ∃ m, k = m + 1 := ⟨k - 1, by omega⟩
    simp only [impl_ValidPulses.l0]
    rw [if_neg (by omega), List.drop_eq_nil_of_le (by omega)]
    unfold prev
    split <;> (simp only [good, Bool.true_and]; exact congrArg some (decide_eq_decide.2 (by omega)))
  | succ n ih =>
    intro i k h hk
    obtain ⟨k, rfl⟩ : ∃ m, k = m + 1 := ⟨k - 1, by omega⟩
    have IH := ih (i + 1) k (by omega) (by omega)
    rw [prev_succ, show ((i + 1 : Nat) : Int) = (i : Int) + 1 by omega] at IH
    simp only [impl_ValidPulses.l0]
    rw [if_pos (by omega), if_pos (by omega), if_pos (by omega), within_eq, Option.bind_some, drop_at l i (by omega), w64 (x := (i : Int) + 1) (by omega) (by omega), IH]
    by_cases h1 : 0 ≤ rd l (i : Int) ∧ rd l (i : Int) ≤ 100000000
    · rw [if_pos (decide_eq_true h1)]
      by_cases h0 : i = 0
      · subst h0
        rw [if_neg (by omega)]
        simp only [prev, if_true, good, decide_eq_true h1, Bool.true_and]
      · rw [if_pos (by omega), w64 (by omega) (by omega), if_pos (by omega), if_pos (by omega)]
        unfold prev
        rw [if_neg h0]
        simp only [good, decide_eq_true h1, Bool.true_and]
        by_cases h2 : rd l ((i : Int) - 1) < rd l (i : Int)
        · rw [if_neg (by omega), decide_eq_true h2, Bool.true_and]
        · rw [if_pos (by omega), decide_eq_false h2, Bool.false_and, Bool.false_and]
    · rw [if_neg (by simpa using h1)]
      unfold prev
      split <;> simp only [good, decide_eq_false h1, Bool.false_and]
theorem validP_i {k : Nat} (l : List Int) (hl : l.length ≤ 1048576) (hk : l.length < k) : impl_ValidPulses.f k l = some (okP l) := by
  have := validP_il l hl l.length 0 k (by omega) hk
  simpa [impl_ValidPulses.f, okP, prev] using this
theorem validP_sl (l : List Int) (hl : l.length ≤ 1048576) (n : Nat) : ∀ (i k : Nat), i + n = l.length → n < k → spec_validPulses.l0 k l (i : Int) = some (good (prev l i) (l.drop i) && decide (l.length ≤ 16)) := by
  induction n with
  | zero =>
    intro i k h hk
    obtain ⟨k, rfl⟩ : ∃ m, k = m + 1 := ⟨k - 1, by omega⟩
    simp only [spec_validPulses.l0]
    rw [if_neg (by omega), List.drop_eq_nil_of_le (by omega)]
    unfold prev
    split <;> (simp only [good, Bool.true_and]; exact congrArg some (decide_eq_decide.2 (by omega)))
  | succ n ih =>
    intro i k h hk
    obtain ⟨k, rfl⟩ : ∃ m, k = m + 1 := ⟨k - 1, by omega⟩
    have IH := ih (i + 1) k (by omega) (by omega)
    rw [prev_succ, show ((i + 1 : Nat) : Int) = (i : Int) + 1 by omega] at IH
    simp only [spec_validPulses.l0]
    rw [if_pos (by omega), if_pos (by omega), inRange_eq, Option.bind_some, drop_at l i (by omega), w64 (x := (i : Int) + 1) (by omega) (by omega), IH]
    by_cases h1 : 0 ≤ rd l (i : Int) ∧ rd l (i : Int) ≤ 100000000
    · rw [if_pos (decide_eq_true h1)]
      by_cases h0 : i = 0
      · subst h0
        rw [if_neg (by omega)]
        simp only [prev, if_true, good, decide_eq_true h1, Bool.true_and]
      · rw [if_pos (by omega), w64 (by omega) (by omega), if_pos (by omega), if_pos (by omega)]
        unfold prev
        rw [if_neg h0]
        simp only [good, decide_eq_true h1, Bool.true_and]
        by_cases h2 : rd l ((i : Int) - 1) < rd l (i : Int)
        · rw [if_neg (by omega), decide_eq_true h2, Bool.true_and]
        · rw [if_pos (by omega), decide_eq_false h2, Bool.false_and, Bool.false_and]
    · rw [if_neg (by simpa using h1)]
      unfold prev
      split <;> simp only [good, decide_eq_false h1, Bool.false_and]
theorem validP_s {k : Nat} (l : List Int) (hl : l.length ≤ 1048576) (hk : l.length < k) : spec_validPulses.f k l = some (okP l) := by
  have := validP_sl l hl l.length 0 k (by omega) hk
  simpa [spec_validPulses.f, okP, prev] using this
theorem good_cons {pr : Option Int} {x : Int} {xs : List Int} (h : good pr (x :: xs) = true) : (0 ≤ x ∧ x ≤ 100000000) ∧ (∀ p, pr = some p → p < x) ∧ good (some x) xs = true := by
  cases pr with
  | none => simp [good] at h; exact ⟨h.1, fun p e => (by cases e), h.2⟩
  | some p => simp [good] at h; exact ⟨h.1, fun q e => (by cases e; exact h.2.1), h.2.2⟩
theorem good_mk {pr : Option Int} {x : Int} {xs : List Int} (h1 : 0 ≤ x ∧ x ≤ 100000000) (h2 : ∀ p, pr = some p → p < x) (h3 : good (some x) xs = true) : good pr (x :: xs) = true := by
  cases pr with
  | none => simp [good, h1, h3]
  | some p => simp [good, h1, h3, h2 p rfl]
theorem good_tail {pr : Option Int} {x : Int} {xs : List Int} (h : good pr (x :: xs) = true) : good pr xs = true := by
  obtain ⟨h1, h2, h3⟩ := good_cons h
  cases xs with
  | nil => cases pr <;> rfl
  | cons y ys =>
    obtain ⟨g1, g2, g3⟩ := good_cons h3
    exact good_mk g1 (fun p e => by have := h2 p e; have := g2 x rfl; omega) g3
theorem good_sub {a l : List Int} (h : List.Sublist a l) : ∀ pr, good pr l = true → good pr a = true := by
  induction h with
  | slnil => intro pr h; exact h
  | cons x _ ih => intro pr h; exact ih pr (good_tail h)
  | cons_cons x _ ih =>
    intro pr h
    obtain ⟨h1, h2, h3⟩ := good_cons h
    exact good_mk h1 h2 (ih _ h3)
theorem okP_sub {a l : List Int} (h : List.Sublist a l) (hl : okP l = true) : okP a = true := by
  have hlen := h.length_le
  simp only [okP, Bool.and_eq_true, decide_eq_true_eq] at hl ⊢
  exact ⟨good_sub h _ hl.1, by omega⟩
theorem good_range {l : List Int} : ∀ pr, good pr l = true → ∀ x ∈ l, 0 ≤ x ∧ x ≤ 100000000 := by
  induction l with
  | nil => intro pr _ x hx; cases hx
  | cons y ys ih =>
    intro pr h x hx
    obtain ⟨h1, _, h3⟩ := good_cons h
    rcases List.mem_cons.1 hx with rfl | hx
    · exact h1
    · exact ih _ h3 x hx
/-- A difference that is near a multiple of a second that is greater than 0. -/
def near (d : Int) : Bool := decide (998000 ≤ d ∧ (d % 1000000 ≤ 2000 ∨ d % 1000000 ≥ 998000))
def clean : Option Int → List Int → List Int
  | _, [] => []
  | none, x :: xs => x :: clean (some x) xs
  | some p, x :: xs => if near (x - p) = true then x :: clean (some x) xs else clean (some p) xs
/-- CleanPulses. -/
def cleanP (l : List Int) : List Int := if okP l = true then clean none l else []
theorem clean_sub (l : List Int) : ∀ pr, List.Sublist (clean pr l) l := by
  induction l with
  | nil => intro pr; cases pr <;> exact List.Sublist.slnil
  | cons x xs ih =>
    intro pr
    cases pr with
    | none => exact (ih _).cons_cons x
    | some p =>
      simp only [clean]
      split
      · exact (ih _).cons_cons x
      · exact (ih _).cons x
theorem apart_near (d : Int) (h : 0 < d ∧ d ≤ 100000000) : ∃ r, impl_apart.f d (wrap64 (mx (wrap64 (Int.tdiv (wrap64 (d + 500000)) 1000000)) 1 * 1000000)) = some r ∧ (r ≤ 2000 ↔ near d = true) := by
  rw [w64 (x := d + 500000) (by omega) (by omega), td (show 0 ≤ d + 500000 by omega), w64 (x := (d + 500000) / 1000000) (by omega) (by omega)]
  have hq : 1 ≤ mx ((d + 500000) / 1000000) 1 ∧ mx ((d + 500000) / 1000000) 1 ≤ 101 ∧ (mx ((d + 500000) / 1000000) 1 = (d + 500000) / 1000000 ∨ (mx ((d + 500000) / 1000000) 1 = 1 ∧ (d + 500000) / 1000000 < 1)) := by unfold mx; split <;> omega
  generalize mx ((d + 500000) / 1000000) 1 = q at *
  rw [w64 (x := q * 1000000) (by omega) (by omega)]
  unfold impl_apart.f
  rw [w64 (by omega) (by omega), w64 (by omega) (by omega)]
  refine ⟨_, rfl, ?_⟩
  simp only [near, decide_eq_true_eq]
  unfold mx
  split <;> omega
theorem clean_il (l : List Int) (hl : l.length ≤ 16) (n : Nat) : ∀ (i k : Nat) (out : List Int), i + n = l.length → n < k → out.length ≤ i → (i = 0 → out = []) → (0 < i → ∃ a p, out = a ++ [p] ∧ (0 ≤ p ∧ p ≤ 100000000) ∧ good (some p) (l.drop i) = true) → (i = 0 → good none l = true) →
    impl_CleanPulses.l0 k out l (l.length : Int) (i : Int) = some (out ++ clean out.getLast? (l.drop i)) := by
  induction n with
  | zero =>
    intro i k out h hk ho h0 h1 h2
    obtain ⟨k, rfl⟩ : ∃ m, k = m + 1 := ⟨k - 1, by omega⟩
    simp only [impl_CleanPulses.l0]
    rw [if_neg (by omega), List.drop_eq_nil_of_le (by omega)]
    cases out.getLast? <;> simp [clean]
  | succ n ih =>
    intro i k out h hk ho h0 h1 h2
    obtain ⟨k, rfl⟩ : ∃ m, k = m + 1 := ⟨k - 1, by omega⟩
    simp only [impl_CleanPulses.l0]
    rw [if_pos (by omega), if_pos (by omega), if_pos (by omega), w64 (x := (i : Int) + 1) (by omega) (by omega)]
    have hd := drop_at l i (by omega)
    by_cases hi : i = 0
    · have e0 := h0 hi
      subst hi
      subst e0
      have hg := h2 rfl
      have hd0 : l = rd l ((0 : Nat) : Int) :: l.drop 1 := by simpa using hd
      rw [hd0] at hg
      obtain ⟨g1, _, g3⟩ := good_cons hg
      have IH := ih 1 k ([] ++ [rd l ((0 : Nat) : Int)]) (by omega) (by omega) (by simp) (by omega) (fun _ => ⟨[], _, rfl, g1, g3⟩) (by omega)
      rw [if_pos (show ((0 : Nat) : Int) = 0 from rfl), if_pos (by simp)]
      rw [show (((0 : Nat) : Int) + 1) = ((1 : Nat) : Int) by rfl, IH, hd]
      rfl
    · obtain ⟨a, p, rfl, hp, hg⟩ := h1 (by omega)
      rw [hd] at hg
      obtain ⟨g1, g2, g3⟩ := good_cons hg
      have hpx := g2 p rfl
      have hlast : (a ++ [p]).getLast? = some p := by simp
      have hlen : ((a ++ [p]).length : Int) = (a.length : Int) + 1 := by simp
      have hrd : rd (a ++ [p]) (((a ++ [p]).length : Int) - 1) = p := by
        rw [hlen, show ((a.length : Int) + 1 - 1) = ((a.length : Nat) : Int) by omega, rd_at _ _ (by simp)]
        simp
      have hale : (a ++ [p]).length ≤ 16 := by omega
      rw [if_neg (by omega), w64 (x := ((a ++ [p]).length : Int) - 1) (by omega) (by omega), if_pos (by rw [hlen]; omega), if_pos (by omega), hrd, w64 (x := rd l (i : Int) - p) (by omega) (by omega)]
      obtain ⟨r, er, hr⟩ := apart_near (rd l (i : Int) - p) (by omega)
      rw [er, Option.bind_some, hd, hlast]
      simp only [clean]
      by_cases hn : near (rd l (i : Int) - p) = true
      · rw [if_pos (hr.2 hn), if_pos hn, if_pos (by omega)]
        have IH := ih (i + 1) k (a ++ [p] ++ [rd l (i : Int)]) (by omega) (by omega) (by simp at ho ⊢; omega) (by omega) (fun _ => ⟨a ++ [p], _, rfl, g1, g3⟩) (by omega)
        rw [show ((i + 1 : Nat) : Int) = (i : Int) + 1 by omega] at IH
        rw [IH]
        simp
      · rw [if_neg (fun g => hn (hr.1 g)), if_neg hn]
        have g4 : good (some p) (l.drop (i + 1)) = true := good_tail hg
        have IH := ih (i + 1) k (a ++ [p]) (by omega) (by omega) (by omega) (by omega) (fun _ => ⟨a, p, rfl, hp, g4⟩) (by omega)
        rw [show ((i + 1 : Nat) : Int) = (i : Int) + 1 by omega, hlast] at IH
        exact IH
theorem clean_i {k : Nat} (l : List Int) (hl : l.length ≤ 1048576) (hk : l.length < k) : impl_CleanPulses.f k l = some (cleanP l) := by
  unfold impl_CleanPulses.f cleanP
  rw [Option.bind_some, validP_i l hl hk, Option.bind_some]
  by_cases h : okP l = true
  · rw [if_pos h, if_pos h]
    have h' : good none l = true ∧ l.length ≤ 16 := by simpa [okP] using h
    have := clean_il l h'.2 l.length 0 k [] (by omega) hk (by simp) (fun _ => rfl) (by omega) (fun _ => h'.1)
    simpa using this
  · rw [if_neg h, if_neg h]
theorem near_s (d : Int) (h : 0 < d ∧ d ≤ 100000000) : spec_nearSecond.f d = some (near d) := by
  unfold spec_nearSecond.f
  rw [tm (show 0 ≤ d by omega)]
  by_cases h1 : d ≥ 998000
  · rw [if_pos h1]
    by_cases h2 : d % 1000000 ≤ 2000
    · rw [if_pos h2]
      exact congrArg some (Eq.symm (by simp only [near, decide_eq_true_eq]; omega))
    · rw [if_neg h2]
      exact congrArg some (by simp only [near]; exact decide_eq_decide.2 (by omega))
  · rw [if_neg h1]
    exact congrArg some (Eq.symm (by simp only [near, decide_eq_false_iff_not]; omega))
theorem clean_sl (l : List Int) (hl : l.length ≤ 16) (n : Nat) : ∀ (i k : Nat) (out : List Int), i + n = l.length → n < k → out.length ≤ i → (i = 0 → out = []) → (0 < i → ∃ a p, out = a ++ [p] ∧ (0 ≤ p ∧ p ≤ 100000000) ∧ good (some p) (l.drop i) = true) → (i = 0 → good none l = true) →
    spec_CleanPulses.l0 k l out (i : Int) = some (out ++ clean out.getLast? (l.drop i)) := by
  induction n with
  | zero =>
    intro i k out h hk ho h0 h1 h2
    obtain ⟨k, rfl⟩ : ∃ m, k = m + 1 := ⟨k - 1, by omega⟩
    simp only [spec_CleanPulses.l0]
    rw [if_neg (by omega), List.drop_eq_nil_of_le (by omega)]
    cases out.getLast? <;> simp [clean]
  | succ n ih =>
    intro i k out h hk ho h0 h1 h2
    obtain ⟨k, rfl⟩ : ∃ m, k = m + 1 := ⟨k - 1, by omega⟩
    simp only [spec_CleanPulses.l0]
    rw [if_pos (by omega), w64 (x := (i : Int) + 1) (by omega) (by omega)]
    have hd := drop_at l i (by omega)
    by_cases hi : i = 0
    · have e0 := h0 hi
      subst hi
      subst e0
      have hg := h2 rfl
      have hd0 : l = rd l ((0 : Nat) : Int) :: l.drop 1 := by simpa using hd
      rw [hd0] at hg
      obtain ⟨g1, _, g3⟩ := good_cons hg
      have IH := ih 1 k ([] ++ [rd l ((0 : Nat) : Int)]) (by omega) (by omega) (by simp) (by omega) (fun _ => ⟨[], _, rfl, g1, g3⟩) (by omega)
      rw [if_pos (show (([] : List Int).length : Int) = 0 from rfl), if_pos (by omega), if_pos (by simp)]
      rw [show (((0 : Nat) : Int) + 1) = ((1 : Nat) : Int) by rfl, IH, hd]
      rfl
    · obtain ⟨a, p, rfl, hp, hg⟩ := h1 (by omega)
      rw [hd] at hg
      obtain ⟨g1, g2, g3⟩ := good_cons hg
      have hpx := g2 p rfl
      have hlast : (a ++ [p]).getLast? = some p := by simp
      have hlen : ((a ++ [p]).length : Int) = (a.length : Int) + 1 := by simp
      have hrd : rd (a ++ [p]) (((a ++ [p]).length : Int) - 1) = p := by
        rw [hlen, show ((a.length : Int) + 1 - 1) = ((a.length : Nat) : Int) by omega, rd_at _ _ (by simp)]
        simp
      have hale : (a ++ [p]).length ≤ 16 := by omega
      rw [if_neg (by rw [hlen]; omega), if_pos (by omega), w64 (x := ((a ++ [p]).length : Int) - 1) (by omega) (by omega), if_pos (by rw [hlen]; omega), if_pos (by omega), hrd, w64 (x := rd l (i : Int) - p) (by omega) (by omega)]
      rw [near_s _ (by omega), Option.bind_some, hd, hlast]
      simp only [clean]
      by_cases hn : near (rd l (i : Int) - p) = true
      · rw [if_pos hn, if_pos hn, if_pos (by omega)]
        have IH := ih (i + 1) k (a ++ [p] ++ [rd l (i : Int)]) (by omega) (by omega) (by simp at ho ⊢; omega) (by omega) (fun _ => ⟨a ++ [p], _, rfl, g1, g3⟩) (by omega)
        rw [show ((i + 1 : Nat) : Int) = (i : Int) + 1 by omega] at IH
        rw [IH]
        simp
      · rw [if_neg hn, if_neg hn]
        have g4 : good (some p) (l.drop (i + 1)) = true := good_tail hg
        have IH := ih (i + 1) k (a ++ [p]) (by omega) (by omega) (by omega) (by omega) (fun _ => ⟨a, p, rfl, hp, g4⟩) (by omega)
        rw [show ((i + 1 : Nat) : Int) = (i : Int) + 1 by omega, hlast] at IH
        exact IH
theorem clean_s {k : Nat} (l : List Int) (hl : l.length ≤ 1048576) (hk : l.length < k) : spec_CleanPulses.f k l = some (cleanP l) := by
  unfold spec_CleanPulses.f cleanP
  rw [validP_s l hl hk, Option.bind_some]
  by_cases h : okP l = true
  · rw [if_pos h, if_pos h]
    have h' : good none l = true ∧ l.length ≤ 16 := by simpa [okP] using h
    have := clean_sl l h'.2 l.length 0 k [] (by omega) hk (by simp) (fun _ => rfl) (by omega) (fun _ => h'.1)
    simpa using this
  · rw [if_neg h, if_neg h]
theorem cleanP_sub (l : List Int) : List.Sublist (cleanP l) l := by
  unfold cleanP
  split
  · exact clean_sub l none
  · exact List.nil_sublist l
theorem equalInts_l (l : List Int) (hl : l.length ≤ 1048576) (d : Nat) : ∀ (i k : Nat), i + d = l.length → d < k → laws_equalInts.l0 k l l (i : Int) = some true := by
  induction d with
  | zero =>
    intro i k h hk
    obtain ⟨k, rfl⟩ : ∃ m, k = m + 1 := ⟨k - 1, by omega⟩
    simp only [laws_equalInts.l0]
    rw [if_neg (by omega)]
  | succ d ih =>
    intro i k h hk
    obtain ⟨k, rfl⟩ : ∃ m, k = m + 1 := ⟨k - 1, by omega⟩
    simp only [laws_equalInts.l0]
    rw [if_pos (by omega), if_pos (by omega), if_pos (by omega), w64 (by omega) (by omega)]
    simp only [if_true]
    exact ih (i + 1) k (by omega) (by omega)
theorem equalInts_ok {k : Nat} (l : List Int) (hl : l.length ≤ 1048576) (hk : l.length < k) : laws_equalInts.f k l l = some true := by
  unfold laws_equalInts.f
  rw [if_pos rfl]
  exact equalInts_l l hl l.length 0 k (by omega) hk
theorem drawClean_ok {k : Nat} (hk : 40 ≤ k) {l : List Int} (hb : ∀ x ∈ l, (Lit.int .u8 x).wf = true) : ∃ m, spec_DrawCleanPulses.f k l = some m ∧ m.length ≤ 50 := by
  obtain ⟨b, eb, hB⟩ := newReader_ok hb
  obtain ⟨m, p, em, hm, _, _⟩ := anyPulses_ok (k := k) (by omega) hB
  refine ⟨m, ?_, hm⟩
  unfold spec_DrawCleanPulses.f
  rw [eb, Option.bind_some, em, Option.bind_some]
theorem cleanP_ok {l : List Int} (h : cleanP l ≠ []) : okP l = true ∧ cleanP l = clean none l := by
  unfold cleanP at h ⊢
  split at h
  · rename_i hc
    exact ⟨hc, by rw [if_pos hc]⟩
  · exact absurd rfl h
def later (l : List Int) : List Int := l.map (· + 7)
theorem clean_later (l : List Int) : ∀ pr, clean (pr.map (· + 7)) (later l) = later (clean pr l) := by
  induction l with
  | nil => intro pr; cases pr <;> rfl
  | cons x xs ih =>
    intro pr
    cases pr with
    | none => exact congrArg (List.cons (x + 7)) (ih (some x))
    | some p =>
      have e : x + 7 - (p + 7) = x - p := by omega
      by_cases hn : near (x - p) = true
      · have := ih (some x)
        simp only [Option.map_some, later, List.map_cons, clean, e, hn, if_true] at this ⊢
        exact congrArg (List.cons (x + 7)) this
      · have := ih (some p)
        simp only [Option.map_some, later, List.map_cons, clean, e, hn, if_false, Bool.false_eq_true] at this ⊢
        exact this
theorem good_last {l : List Int} : ∀ pr, good pr l = true → ∀ x ∈ l, x ≤ rd l ((l.length : Int) - 1) := by
  induction l with
  | nil => intro pr _ x hx; cases hx
  | cons y ys ih =>
    intro pr h x hx
    obtain ⟨_, _, h3⟩ := good_cons h
    cases ys with
    | nil =>
      have : x = y := by simpa using hx
      subst this
      exact Int.le_refl _
    | cons z zs =>
      have e : rd (y :: z :: zs) (((y :: z :: zs).length : Int) - 1) = rd (z :: zs) (((z :: zs).length : Int) - 1) := by
        rw [show (((y :: z :: zs).length : Int) - 1) = ((zs.length + 1 : Nat) : Int) by simp, show (((z :: zs).length : Int) - 1) = ((zs.length : Nat) : Int) by simp, rd_at _ _ (by simp), rd_at _ _ (by simp)]
        rfl
      rw [e]
      rcases List.mem_cons.1 hx with rfl | hx
      · have := ih _ h3 z (by simp)
        have := (good_cons h3).2.1 x rfl
        omega
      · exact ih _ h3 x hx
theorem good_later {l : List Int} : ∀ pr, good pr l = true → (∀ x ∈ l, x + 7 ≤ 100000000) → good (pr.map (· + 7)) (later l) = true := by
  induction l with
  | nil => intro pr _ _; cases pr <;> rfl
  | cons y ys ih =>
    intro pr h hx
    obtain ⟨h1, h2, h3⟩ := good_cons h
    have := hx y (by simp)
    refine good_mk (show 0 ≤ y + 7 ∧ y + 7 ≤ 100000000 by omega) (fun p e => ?_) (ih _ h3 (fun x hy => hx x (by simp [hy])))
    cases pr with
    | none => simp at e
    | some q =>
      simp at e
      have := h2 q rfl
      show p < y + 7
      omega
end KFnCleanPulsesLater
open KFnCleanPulsesLater
theorem later_l0 (m out : List Int) (hm : m.length ≤ 50) (hr : ∀ x ∈ m, 0 ≤ x ∧ x ≤ 100000000) (n : Nat) : ∀ (i k : Nat), i + n = m.length → n < k → laws_FnCleanPulsesLater.l0 k m out (later (m.take i)) (i : Int) = laws_FnCleanPulsesLater.l0 (k - n) m out (later m) (m.length : Int) := by
  induction n with
  | zero =>
    intro i k h hk
    obtain rfl : i = m.length := by omega
    rw [List.take_length]
    rfl
  | succ n ih =>
    intro i k h hk
    obtain ⟨k, rfl⟩ : ∃ m, k = m + 1 := ⟨k - 1, by omega⟩
    have IH := ih (i + 1) k (by omega) (by omega)
    have b := hr _ (rd_mem (b := m) (i := (i : Int)) (by omega) (by omega))
    conv => lhs; simp only [laws_FnCleanPulsesLater.l0]
    rw [if_pos (by omega), if_pos (by omega), if_pos (by simp [later]; omega), w64 (x := rd m (i : Int) + 7) (by omega) (by omega), w64 (by omega) (by omega)]
    have e : later (m.take i) ++ [rd m (i : Int) + 7] = later (m.take (i + 1)) := by
      rw [show m.take (i + 1) = m.take i ++ [m[i]] from List.take_succ_eq_append_getElem (by omega), rd_at m i (by omega)]
      unfold later
      rw [List.map_append]
      rfl
    rw [e, show (i : Int) + 1 = ((i + 1 : Nat) : Int) by omega, IH, show k + 1 - (n + 1) = k - n by omega]
theorem later_l1 (out : List Int) (ho : out.length ≤ 50) (hr : ∀ x ∈ out, 0 ≤ x ∧ x ≤ 100000000) (n : Nat) : ∀ (i k : Nat), i + n = out.length → n < k → laws_FnCleanPulsesLater.l1 k out (later out) (i : Int) = some true := by
  induction n with
  | zero =>
    intro i k h hk
    obtain ⟨k, rfl⟩ : ∃ m, k = m + 1 := ⟨k - 1, by omega⟩
    simp only [laws_FnCleanPulsesLater.l1]
    rw [if_neg (by omega)]
    simp [later]
  | succ n ih =>
    intro i k h hk
    obtain ⟨k, rfl⟩ : ∃ m, k = m + 1 := ⟨k - 1, by omega⟩
    have b := hr _ (rd_mem (b := out) (i := (i : Int)) (by omega) (by omega))
    have e : rd (later out) (i : Int) = rd out (i : Int) + 7 := by
      rw [rd_at _ _ (by simp [later]; omega), rd_at _ _ (by omega)]
      simp [later]
    have hlen : (later out).length = out.length := by simp [later]
    simp only [laws_FnCleanPulsesLater.l1]
    rw [if_pos (by omega), if_neg (by omega), if_pos (by omega), if_pos (by omega), w64 (x := rd out (i : Int) + 7) (by omega) (by omega), if_pos e, w64 (by omega) (by omega)]
    exact ih (i + 1) k (by omega) (by omega)
theorem FnCleanPulsesLater (l : List Int) (_hl : l.length ≤ maxLen) (_hs : l.length * 1 ≤ 140737488351232) (hb : ∀ x ∈ l, (Lit.int .u8 x).wf = true) : ∃ k, laws_FnCleanPulsesLater.f k l = some true := by
  refine ⟨201, ?_⟩
  unfold laws_FnCleanPulsesLater.f
  by_cases h0 : (l.length : Int) > 1048576
  · rw [if_pos h0]
  obtain ⟨m, ed, hm⟩ := drawClean_ok (k := 201) (by omega) hb
  have hs := (cleanP_sub m).length_le
  have hj : ∀ b, b = true → laws_FnCleanPulsesLater.j0 201 m (cleanP m) b = some true := fun b e => by
    subst e
    simp only [laws_FnCleanPulsesLater.j0]
    rw [if_pos trivial, clean_s m (by omega) (by omega), Option.bind_some, equalInts_ok _ (by omega) (by omega)]
    rfl
  rw [if_neg h0, ed, Option.bind_some, clean_i m (by omega) (by omega), Option.bind_some, clean_s m (by omega) (by omega), Option.bind_some, equalInts_ok _ (by omega) (by omega), Option.bind_some, if_pos rfl]
  by_cases hz : ((cleanP m).length : Int) = 0
  · rw [if_pos hz, hj true rfl]
  · have hne : cleanP m ≠ [] := fun e => hz (by rw [e]; rfl)
    obtain ⟨hc, he⟩ := cleanP_ok hne
    have hc' : good none m = true ∧ m.length ≤ 16 := by simpa [okP] using hc
    have hr := good_range none hc'.1
    have hl := good_last none hc'.1
    have b := hr _ (rd_mem (b := m) (i := (m.length : Int) - 1) (by omega) (by omega))
    rw [if_neg hz, w64 (x := (m.length : Int) - 1) (by omega) (by omega), if_pos (by omega), if_pos (by omega), w64 (x := rd m ((m.length : Int) - 1) + 7) (by omega) (by omega)]
    by_cases h7 : rd m ((m.length : Int) - 1) + 7 > 100000000
    · exact hj _ (decide_eq_true h7)
    · rw [decide_eq_false h7]
      simp only [laws_FnCleanPulsesLater.j0]
      rw [if_neg (by simp)]
      have h1 := later_l0 m (cleanP m) hm hr m.length 0 200 (by omega) (by omega)
      rw [show ([] : List Int) = later (m.take 0) by rfl, show (0 : Int) = ((0 : Nat) : Int) by rfl, h1]
      obtain ⟨k2, hk2, hk3⟩ : ∃ k2, 200 - m.length = k2 + 1 ∧ 140 ≤ k2 := ⟨200 - m.length - 1, by omega, by omega⟩
      rw [hk2]
      simp only [laws_FnCleanPulsesLater.l0]
      have hlen : (later m).length = m.length := by simp [later]
      have hok : okP (later m) = true := by
        simp only [okP, Bool.and_eq_true, decide_eq_true_eq]
        exact ⟨good_later none hc'.1 (fun x hx => by have := hl x hx; omega), by omega⟩
      have e3 : cleanP (later m) = later (cleanP m) := by
        rw [he]
        unfold cleanP
        rw [if_pos hok]
        exact clean_later m none
      rw [if_neg (by omega), clean_i _ (by omega) (by omega), Option.bind_some, e3]
      exact later_l1 (cleanP m) (by omega) (fun x hx => hr x ((cleanP_sub m).subset hx)) (cleanP m).length 0 k2 (by omega) (by omega)

end Go.Proofs.Ytpkpbcfehllehaa.Pure
