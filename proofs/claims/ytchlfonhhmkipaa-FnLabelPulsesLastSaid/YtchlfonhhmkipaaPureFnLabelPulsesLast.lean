/- Proved: no pulse lies between one of LabelPulses and its label, at every code (law FnLabelPulsesLast); no condition beyond the statement's own. -/
import Derived.Test.YtchlfonhhmkipaaPFnLabelPulsesLastx
import Derived.Laws.BitsLemmas
import Derived.Test.YtchlfonhhmkipaaWalkFnLabelPulsesLast
namespace Go.Proofs.Ytchlfonhhmkipaa.Pure
open Go Go.RowKit Go.Proofs.Ytchlfonhhmkipaa.PFnLabelPulsesLast Go.Proofs.YtchlfonhhmkipaaW.PrintWords Go.Proofs.YtchlfonhhmkipaaW.PrintLast Go.Proofs.YtchlfonhhmkipaaW.PrintMore

namespace KFnLabelPulsesLast
theorem w64 {x : Int} (h1 : -9223372036854775808 ≤ x) (h2 : x < 9223372036854775808) : wrap64 x = x := by unfold wrap64; omega
theorem i64wrap (x : Int) : IntKind.i64.wrap x = wrap64 x := by rw [IntKind.wrap_i64]; unfold wrap64; rfl
theorem tm {a b : Int} (h : 0 ≤ a) : Int.tmod a b = a % b := Int.tmod_eq_emod_of_nonneg h
theorem td {a b : Int} (h : 0 ≤ a) : Int.tdiv a b = a / b := Int.tdiv_eq_ediv_of_nonneg h
theorem sval {α : Type} {x : Option α} {a : α} (h : x = some a) {β : Type} (f : α → Option β) : x.bind f = f a := by rw [h]; rfl
theorem xor_nat (a b : Nat) (ha : a < 2 ^ 62) (hb : b < 2 ^ 62) : Go.bits .xor .i64 (a : Int) (b : Int) = ((a ^^^ b : Nat) : Int) := by
  have hx := Nat.xor_lt_two_pow ha hb
  have e : Go.bits .xor .i64 (a : Int) (b : Int) = wrap64 ((BitVec.ofInt 64 (a : Int) ^^^ BitVec.ofInt 64 (b : Int)).toNat : Int) := by rw [← i64wrap]; rfl
  rw [e, BitVec.ofInt_natCast, BitVec.ofInt_natCast, BitVec.toNat_xor, BitVec.toNat_ofNat, BitVec.toNat_ofNat, Nat.mod_eq_of_lt (by omega), Nat.mod_eq_of_lt (by omega)]
  exact w64 (by omega) (by omega)
theorem xor_ge (a b : Int) (h1 : 0 ≤ a) (h2 : a < 4611686018427387904) (h3 : 0 ≤ b) (h4 : b < 4611686018427387904) : 0 ≤ Go.bits .xor .i64 a b := by
  obtain ⟨x, rfl⟩ := Int.eq_ofNat_of_zero_le h1
  obtain ⟨y, rfl⟩ := Int.eq_ofNat_of_zero_le h3
  rw [xor_nat x y (by omega) (by omega)]
  exact Int.natCast_nonneg _
theorem rd_in {b : List Int} {lo hi : Int} (h : ∀ x ∈ b, lo ≤ x ∧ x ≤ hi) {i : Int} (h0 : 0 ≤ i) (h1 : i < b.length) : lo ≤ rd b i ∧ rd b i ≤ hi := by
  have hi' : i.toNat < b.length := by omega
  have e : rd b i = b[i.toNat] := by unfold rd; simp [List.getD_eq_getElem?_getD, List.getElem?_eq_getElem hi']
  rw [e]
  exact h _ (List.getElem_mem hi')
theorem rd_mem {b : List Int} {i : Int} (h0 : 0 ≤ i) (h1 : i < b.length) : rd b i ∈ b := by
  have hi' : i.toNat < b.length := by omega
  have e : rd b i = b[i.toNat] := by unfold rd; simp [List.getD_eq_getElem?_getD, List.getElem?_eq_getElem hi']
  rw [e]
  exact List.getElem_mem hi'
/-- What the reader holds: bytes, no more than two thousand. -/
def Bytes (b : List Int) : Prop := (∀ x ∈ b, 0 ≤ x ∧ x ≤ 255) ∧ b.length ≤ 2000
theorem pick_ok {k : Nat} (hk : 1 ≤ k) {b : List Int} {p : Int} (n : Int) (hb : Bytes b) (hp : 0 ≤ p) (hp2 : p ≤ 1000000000) :
    ∃ r, spec_reader_pick.f k b p n = some (r, p + 1) ∧ 0 ≤ r ∧ (1 ≤ n → r < n) := by
  obtain ⟨k, rfl⟩ : ∃ m, k = m + 1 := ⟨k - 1, by omega⟩
  obtain ⟨hb, hl⟩ := hb
  unfold spec_reader_pick.f
  rw [w64 (x := p + 1) (by omega) (by omega)]
  by_cases hn : n < 1
  · exact ⟨0, by rw [if_pos hn]; simp only [spec_reader_pick.j0, if_true], by omega, fun h => by omega⟩
  rw [if_neg hn]
  by_cases h0 : (b.length : Int) = 0
  · exact ⟨0, by rw [beq_iff_eq.2 h0]; simp only [spec_reader_pick.j0, if_true], by omega, fun h => by omega⟩
  rw [beq_eq_false_iff_ne.2 h0]
  simp only [spec_reader_pick.j0]
  rw [w64 (x := p + 1 - 1) (by omega) (by omega), show p + 1 - 1 = p by omega, if_neg (by simp)]
  by_cases h1 : p < (b.length : Int)
  · have hr := rd_in hb hp h1
    rw [if_pos h1, if_pos hp, if_neg (by omega), w64 (by omega) (by omega), tm hr.1]
    exact ⟨_, rfl, Int.emod_nonneg _ (by omega), fun _ => Int.emod_lt_of_pos _ (by omega)⟩
  · have hL : 0 < (b.length : Int) := by omega
    have m1 := Int.emod_nonneg p (b := b.length) (by omega)
    have m2 := Int.emod_lt_of_pos p hL
    have m3 := Int.emod_nonneg (p * 7 + 3) (b := b.length) (by omega)
    have m4 := Int.emod_lt_of_pos (p * 7 + 3) hL
    have d1 := Int.ediv_nonneg hp (b := b.length) (by omega)
    have d2 : p / (b.length : Int) ≤ p := Int.ediv_le_self _ hp
    have r1 := rd_in hb m1 m2
    have r2 := rd_in hb m3 m4
    rw [w64 (x := p * 7) (by omega) (by omega), w64 (x := p * 7 + 3) (by omega) (by omega), tm hp, tm (show 0 ≤ p * 7 + 3 by omega), td hp]
    rw [if_neg h1, if_neg h0, if_pos m1, if_pos m2, if_pos m3, if_pos m4, if_neg (by omega)]
    generalize rd b (p % (b.length : Int)) = A at r1 ⊢
    generalize rd b ((p * 7 + 3) % (b.length : Int)) = B at r2 ⊢
    generalize p / (b.length : Int) = q at d1 d2 ⊢
    rw [w64 (x := A) (by omega) (by omega), w64 (x := B) (by omega) (by omega), w64 (x := q) (by omega) (by omega), w64 (x := A * 131) (by omega) (by omega), w64 (x := B * 1117) (by omega) (by omega), w64 (x := p * 29) (by omega) (by omega), w64 (x := q * 53) (by omega) (by omega), w64 (x := A * 131 + B * 1117) (by omega) (by omega), w64 (x := A * 131 + B * 1117 + p * 29) (by omega) (by omega), w64 (x := A * 131 + B * 1117 + p * 29 + q * 53) (by omega) (by omega)]
    rw [td (show 0 ≤ A * 131 + B * 1117 + p * 29 + q * 53 by omega), w64 (x := (A * 131 + B * 1117 + p * 29 + q * 53) / 64) (by omega) (by omega)]
    have hx := xor_ge (A * 131 + B * 1117 + p * 29 + q * 53) ((A * 131 + B * 1117 + p * 29 + q * 53) / 64) (by omega) (by omega) (by omega) (by omega)
    rw [tm hx]
    exact ⟨_, rfl, Int.emod_nonneg _ (by omega), fun _ => Int.emod_lt_of_pos _ (by omega)⟩
theorem newReader_ok {l : List Int} (hb : ∀ x ∈ l, (Lit.int .u8 x).wf = true) : ∃ b, spec_newReader.f l = some (b, 0) ∧ Bytes b := by
  have hb' : ∀ x ∈ l, 0 ≤ x ∧ x ≤ 255 := fun x hx => by
    have := hb x hx
    simp [Lit.wf, IntKind.min, IntKind.max, IntKind.signed, IntKind.bits] at this
    omega
  unfold spec_newReader.f
  by_cases h : (l.length : Int) > 2000
  · exact ⟨l.take 2000, by rw [if_pos h, if_pos (by omega)], fun x hx => hb' x (List.mem_of_mem_take hx), by simp; omega⟩
  · exact ⟨l, by rw [if_neg h], hb', by omega⟩
theorem one_ok {k : Nat} (hk : 1 ≤ k) {b : List Int} {p : Int} (l : List Int) (hb : Bytes b) (hp : 0 ≤ p) (hp2 : p ≤ 1000000000) (hl : 1 ≤ (l.length : Int)) :
    ∃ r, spec_reader_one.f k b p l = some (r, p + 1) ∧ r ∈ l := by
  obtain ⟨r, e, h0, h1⟩ := pick_ok hk (l.length : Int) hb hp hp2
  unfold spec_reader_one.f
  rw [e]
  simp only [Option.bind_some]
  rw [if_pos h0, if_pos (h1 hl)]
  exact ⟨_, rfl, rd_mem h0 (h1 hl)⟩
theorem within_eq (n lo hi : Int) : impl_within.f n lo hi = some (decide (lo ≤ n ∧ n ≤ hi)) := by
  unfold impl_within.f
  by_cases h : lo ≤ n <;> simp [h]
theorem inRange_eq (n lo hi : Int) : spec_inRange.f n lo hi = some (decide (lo ≤ n ∧ n ≤ hi)) := by
  unfold spec_inRange.f
  by_cases h : lo ≤ n <;> simp [h]
theorem rd_at (l : List Int) (i : Nat) (h : i < l.length) : rd l (i : Int) = l[i] := by unfold rd; simp [List.getD_eq_getElem?_getD, h]
theorem copyInts_ok (l : List Int) (hl : l.length ≤ 1048576) : spec_copyInts.f l = some l := by
  unfold spec_copyInts.f
  simp only [Option.bind_some, List.length_nil, List.nil_append]
  rw [if_pos (by omega)]
theorem spoil_ok {k : Nat} (hk : 1 ≤ k) {b : List Int} {p : Int} (l : List Int) (v : Int) (hb : Bytes b) (hp : 0 ≤ p) (hp2 : p ≤ 999999000) (hl : l.length ≤ 1048575) :
    ∃ m q, spec_reader_spoil.f k b p l v = some (m, q) ∧ 0 ≤ q ∧ q ≤ p + 3 ∧ m.length ≤ l.length + 1 ∧ ∀ x ∈ m, x ∈ l ∨ x = v ∨ x = -1 ∨ x = 0 ∨ x = 1 := by
  obtain ⟨r1, e1, l1, u1⟩ := pick_ok hk (p := p) 20 hb (by omega) (by omega)
  obtain ⟨r2, e2, l2, u2⟩ := pick_ok hk (p := p + 1) (l.length : Int) hb (by omega) (by omega)
  obtain ⟨r3, e3, l3⟩ := one_ok hk (p := p + 1 + 1) [-1, v, 0, 1] hb (by omega) (by omega) (by simp)
  unfold spec_reader_spoil.f
  rw [copyInts_ok l (by omega)]
  simp only [e1, Option.bind_some]
  by_cases h0 : r1 = 0
  · rw [if_pos h0, if_pos (by omega)]
    exact ⟨_, _, rfl, by omega, by omega, by simp, fun x hx => by
      rcases List.mem_append.1 hx with h | h
      · exact .inl h
      · simp at h; exact .inr (.inl h)⟩
  rw [if_neg h0]
  by_cases h1 : r1 = 1
  · rw [if_pos h1]
    by_cases hz : (l.length : Int) > 0
    · rw [if_pos hz, if_pos (by omega)]
      exact ⟨_, _, rfl, by omega, by omega, by simp; omega, fun x hx => .inl (List.mem_of_mem_drop hx)⟩
    · rw [if_neg hz]
      exact ⟨_, _, rfl, by omega, by omega, by omega, fun x hx => .inl hx⟩
  rw [if_neg h1]
  by_cases h2 : r1 = 2
  · rw [if_pos h2]
    by_cases hz : (l.length : Int) > 0
    · rw [if_pos hz]
      simp only [e2, e3, Option.bind_some]
      rw [if_pos l2, if_pos (u2 (by omega))]
      refine ⟨_, _, rfl, by omega, by omega, by simp, fun x hx => ?_⟩
      rcases List.mem_or_eq_of_mem_set hx with h | h
      · exact .inl h
      · subst h; simp at l3; omega
    · rw [if_neg hz]
      exact ⟨_, _, rfl, by omega, by omega, by omega, fun x hx => .inl hx⟩
  · rw [if_neg h2]
    exact ⟨_, _, rfl, by omega, by omega, by omega, fun x hx => .inl hx⟩
theorem anyPulses_l {b : List Int} (hb : Bytes b) (d : Nat) : ∀ (k : Nat) (x : List Int) (at_ q : Int), d + 1 < k → 0 ≤ q → q ≤ 1000 + 3 * x.length → x.length + d ≤ 40 →
    ∃ l p, spec_anyPulses.l0 k x at_ (d : Int) b q = some (l, p) ∧ l.length ≤ 50 ∧ 0 ≤ p ∧ p ≤ 100000 := by
  induction d with
  | zero =>
    intro k x at_ q hk h0 h1 h2
    obtain ⟨k, rfl⟩ : ∃ m, k = m + 1 := ⟨k - 1, by omega⟩
    obtain ⟨m, q1, e1, f1, f2, f3, _⟩ := spoil_ok (k := k) (by omega) (p := q) x 100000001 hb (by omega) (by omega) (by omega)
    simp only [spec_anyPulses.l0]
    rw [if_neg (by omega), e1, Option.bind_some]
    exact ⟨m, q1, rfl, by omega, by omega, by omega⟩
  | succ d ih =>
    intro k x at_ q hk h0 h1 h2
    obtain ⟨k, rfl⟩ : ∃ m, k = m + 1 := ⟨k - 1, by omega⟩
    obtain ⟨v, e1, _⟩ := one_ok (k := k) (by omega) (p := q) [1000000, 1000003, 999990, 2000000, 1002000, 1002001, 998000, 500000, 5] hb (by omega) (by omega) (by simp)
    simp only [spec_anyPulses.l0]
    rw [if_pos (by omega), if_pos (by omega), e1, Option.bind_some, w64 (x := ((d + 1 : Nat) : Int) - 1) (by omega) (by omega), show ((d + 1 : Nat) : Int) - 1 = (d : Int) by omega]
    exact ih k (x ++ [at_]) _ (q + 1) (by omega) (by omega) (by simp; omega) (by simp; omega)
theorem anyPulses_ok {k : Nat} (hk : 40 ≤ k) {b : List Int} (hb : Bytes b) : ∃ l p, spec_anyPulses.f k b 0 = some (l, p) ∧ l.length ≤ 50 ∧ 0 ≤ p ∧ p ≤ 100000 := by
  obtain ⟨r1, e1, l1, u1⟩ := pick_ok (k := k) (by omega) (p := 0) 250 hb (by omega) (by omega)
  obtain ⟨r2, e2, l2⟩ := one_ok (k := k) (by omega) (p := 0 + 1) [4, 6, 3, 8, 1, 0, 16, 17] hb (by omega) (by omega) (by simp)
  simp at l2
  obtain ⟨d, rfl⟩ : ∃ d : Nat, r2 = d := ⟨r2.toNat, by omega⟩
  obtain ⟨l, p, e, h⟩ := anyPulses_l hb d k [] (wrap64 (1000 * r1)) (0 + 1 + 1) (by omega) (by omega) (by simp) (by simp; omega)
  refine ⟨l, p, ?_, h⟩
  unfold spec_anyPulses.f
  rw [e1, Option.bind_some, e2, Option.bind_some]
  exact e
theorem someLabels_l {b : List Int} (hb : Bytes b) (l : List Int) (hl : l.length ≤ 50) (n : Nat) : ∀ (i k : Nat) (x : List S34) (t q : Int), i + n = l.length → n + 1 < k → 0 ≤ q → q ≤ 200000 + 3 * i → x.length ≤ i →
    ∃ m p, spec_someLabels.l0 k l x t (i : Int) b q = some (m, p) ∧ m.length ≤ 50 := by
  induction n with
  | zero =>
    intro i k x t q h hk h0 h1 h2
    obtain ⟨k, rfl⟩ : ∃ m, k = m + 1 := ⟨k - 1, by omega⟩
    simp only [spec_someLabels.l0]
    rw [if_neg (by omega)]
    exact ⟨x, q, rfl, by omega⟩
  | succ n ih =>
    intro i k x t q h hk h0 h1 h2
    obtain ⟨k, rfl⟩ : ∃ m, k = m + 1 := ⟨k - 1, by omega⟩
    obtain ⟨r1, e1, l1, u1⟩ := pick_ok (k := k) (by omega) (p := q) 5 hb (by omega) (by omega)
    obtain ⟨r2, e2, l2⟩ := one_ok (k := k) (by omega) (p := q + 1) [0, 100000, 400000, 700000, 700001] hb (by omega) (by omega) (by simp)
    obtain ⟨r3, e3, l3⟩ := one_ok (k := k) (by omega) (p := q + 1 + 1) [1, 1, 1, 2, 0] hb (by omega) (by omega) (by simp)
    obtain ⟨r4, e4, l4⟩ := one_ok (k := k) (by omega) (p := q + 1) [1, 1, 1, 2, 0] hb (by omega) (by omega) (by simp)
    simp only [spec_someLabels.l0]
    rw [if_pos (by omega), e1, Option.bind_some, w64 (x := (i : Int) + 1) (by omega) (by omega), show (i : Int) + 1 = ((i + 1 : Nat) : Int) by omega]
    by_cases hr : r1 > 0
    · rw [if_pos hr, if_pos (by omega), e2, Option.bind_some, if_pos (by omega), e3, Option.bind_some]
      exact ih (i + 1) k _ _ _ (by omega) (by omega) (by omega) (by omega) (by simp; omega)
    · rw [if_neg hr, e4, Option.bind_some]
      exact ih (i + 1) k _ _ _ (by omega) (by omega) (by omega) (by omega) (by omega)
theorem someLabels_ok {k : Nat} (hk : 60 ≤ k) {b : List Int} (hb : Bytes b) (l : List Int) (hl : l.length ≤ 50) (p : Int) (hp : 0 ≤ p) (hp2 : p ≤ 100000) : ∃ m q, spec_someLabels.f k b p l = some (m, q) ∧ m.length ≤ 50 := by
  obtain ⟨r1, e1, l1, u1⟩ := pick_ok (k := k) (by omega) (p := p) 100 hb (by omega) (by omega)
  obtain ⟨m, q, e, h⟩ := someLabels_l hb l hl l.length 0 k [] (wrap64 (1000 * r1)) (p + 1) (by omega) (by omega) (by omega) (by omega) (by simp)
  refine ⟨m, q, ?_, h⟩
  unfold spec_someLabels.f
  rw [e1, Option.bind_some]
  exact e
/-- Pulses in their range that ascend, behind one that may stand ahead of them. -/
def good : Option Int → List Int → Bool
  | _, [] => true
  | none, x :: xs => decide (0 ≤ x ∧ x ≤ 100000000) && good (some x) xs
  | some p, x :: xs => decide (0 ≤ x ∧ x ≤ 100000000) && (decide (p < x) && good (some x) xs)
def prev (l : List Int) (i : Nat) : Option Int := if i = 0 then none else some (rd l ((i : Int) - 1))
theorem prev_succ (l : List Int) (i : Nat) : prev l (i + 1) = some (rd l (i : Int)) := by unfold prev; rw [if_neg (by omega)]; congr 2; omega
def okP (l : List Int) : Bool := good none l && decide (l.length ≤ 16)
theorem drop_at (l : List Int) (i : Nat) (h : i < l.length) : l.drop i = rd l (i : Int) :: l.drop (i + 1) := by
  rw [rd_at l i h, List.drop_eq_getElem_cons h]
theorem validP_il (l : List Int) (hl : l.length ≤ 1048576) (n : Nat) : ∀ (i k : Nat), i + n = l.length → n < k → impl_ValidPulses.l0 k l l (l.length : Int) (i : Int) = some (good (prev l i) (l.drop i) && decide (l.length ≤ 16)) := by
  induction n with
  | zero =>
    intro i k h hk
    obtain ⟨k, rfl⟩ : ∃ m, k = m + 1 := ⟨k - 1, by omega⟩
    simp only [impl_ValidPulses.l0]
    rw [if_neg (by omega), List.drop_eq_nil_of_le (by omega)]
    unfold prev
    split <;> (simp only [good, Bool.true_and]; exact congrArg some (decide_eq_decide.2 (by omega)))
  | succ n ih =>
    intro i k h hk
    obtain ⟨k, rfl⟩ : ∃ m, k = m + 1 := ⟨k - 1, by omega⟩
    have IH := ih (i + 1) k (by omega) (by omega)
    rw [prev_succ, show ((i + 1 : Nat) : Int) = (i : Int) + 1 by omega] at IH
    simp only [impl_ValidPulses.l0]
    rw [if_pos (by omega), if_pos (by omega), if_pos (by omega), within_eq, Option.bind_some, drop_at l i (by omega), w64 (x := (i : Int) + 1) (by omega) (by omega), IH]
    by_cases h1 : 0 ≤ rd l (i : Int) ∧ rd l (i : Int) ≤ 100000000
    · rw [if_pos (decide_eq_true h1)]
      by_cases h0 : i = 0
      · subst h0
        rw [if_neg (by omega)]
        simp only [prev, if_true, good, decide_eq_true h1, Bool.true_and]
      · rw [if_pos (by omega), w64 (by omega) (by omega), if_pos (by omega), if_pos (by omega)]
        unfold prev
        rw [if_neg h0]
        simp only [good, decide_eq_true h1, Bool.true_and]
        by_cases h2 : rd l ((i : Int) - 1) < rd l (i : Int)
        · rw [if_neg (by omega), decide_eq_true h2, Bool.true_and]
        · rw [if_pos (by omega), decide_eq_false h2, Bool.false_and, Bool.false_and]
    · rw [if_neg (by simpa using h1)]
      unfold prev
      split <;> simp only [good, decide_eq_false h1, Bool.false_and]
theorem validP_i {k : Nat} (l : List Int) (hl : l.length ≤ 1048576) (hk : l.length < k) : impl_ValidPulses.f k l = some (okP l) := by
  have := validP_il l hl l.length 0 k (by omega) hk
  simpa [impl_ValidPulses.f, okP, prev] using this
theorem validP_sl (l : List Int) (hl : l.length ≤ 1048576) (n : Nat) : ∀ (i k : Nat), i + n = l.length → n < k → spec_validPulses.l0 k l (i : Int) = some (good (prev l i) (l.drop i) && decide (l.length ≤ 16)) := by
  induction n with
  | zero =>
    intro i k h hk
    obtain ⟨k, rfl⟩ : ∃ m, k = m + 1 := ⟨k - 1, by omega⟩
    simp only [spec_validPulses.l0]
    rw [if_neg (by omega), List.drop_eq_nil_of_le (by omega)]
    unfold prev
    split <;> (simp only [good, Bool.true_and]; exact congrArg some (decide_eq_decide.2 (by omega)))
  | succ n ih =>
    intro i k h hk
    obtain ⟨k, rfl⟩ : ∃ m, k = m + 1 := ⟨k - 1, by omega⟩
    have IH := ih (i + 1) k (by omega) (by omega)
    rw [prev_succ, show ((i + 1 : Nat) : Int) = (i : Int) + 1 by omega] at IH
    simp only [spec_validPulses.l0]
    rw [if_pos (by omega), if_pos (by omega), inRange_eq, Option.bind_some, drop_at l i (by omega), w64 (x := (i : Int) + 1) (by omega) (by omega), IH]
    by_cases h1 : 0 ≤ rd l (i : Int) ∧ rd l (i : Int) ≤ 100000000
    · rw [if_pos (decide_eq_true h1)]
      by_cases h0 : i = 0
      · subst h0
        rw [if_neg (by omega)]
        simp only [prev, if_true, good, decide_eq_true h1, Bool.true_and]
      · rw [if_pos (by omega), w64 (by omega) (by omega), if_pos (by omega), if_pos (by omega)]
        unfold prev
        rw [if_neg h0]
        simp only [good, decide_eq_true h1, Bool.true_and]
        by_cases h2 : rd l ((i : Int) - 1) < rd l (i : Int)
        · rw [if_neg (by omega), decide_eq_true h2, Bool.true_and]
        · rw [if_pos (by omega), decide_eq_false h2, Bool.false_and, Bool.false_and]
    · rw [if_neg (by simpa using h1)]
      unfold prev
      split <;> simp only [good, decide_eq_false h1, Bool.false_and]
theorem validP_s {k : Nat} (l : List Int) (hl : l.length ≤ 1048576) (hk : l.length < k) : spec_validPulses.f k l = some (okP l) := by
  have := validP_sl l hl l.length 0 k (by omega) hk
  simpa [spec_validPulses.f, okP, prev] using this
theorem good_cons {pr : Option Int} {x : Int} {xs : List Int} (h : good pr (x :: xs) = true) : (0 ≤ x ∧ x ≤ 100000000) ∧ (∀ p, pr = some p → p < x) ∧ good (some x) xs = true := by
  cases pr with
  | none => simp [good] at h; exact ⟨h.1, fun p e => (by cases e), h.2⟩
  | some p => simp [good] at h; exact ⟨h.1, fun q e => (by cases e; exact h.2.1), h.2.2⟩
theorem good_mk {pr : Option Int} {x : Int} {xs : List Int} (h1 : 0 ≤ x ∧ x ≤ 100000000) (h2 : ∀ p, pr = some p → p < x) (h3 : good (some x) xs = true) : good pr (x :: xs) = true := by
  cases pr with
  | none => simp [good, h1, h3]
  | some p => simp [good, h1, h3, h2 p rfl]
theorem good_tail {pr : Option Int} {x : Int} {xs : List Int} (h : good pr (x :: xs) = true) : good pr xs = true := by
  obtain ⟨h1, h2, h3⟩ := good_cons h
  cases xs with
  | nil => cases pr <;> rfl
  | cons y ys =>
    obtain ⟨g1, g2, g3⟩ := good_cons h3
    exact good_mk g1 (fun p e => by have := h2 p e; have := g2 x rfl; omega) g3
theorem good_sub {a l : List Int} (h : List.Sublist a l) : ∀ pr, good pr l = true → good pr a = true := by
  induction h with
  | slnil => intro pr h; exact h
  | cons x _ ih => intro pr h; exact ih pr (good_tail h)
  | cons_cons x _ ih =>
    intro pr h
    obtain ⟨h1, h2, h3⟩ := good_cons h
    exact good_mk h1 h2 (ih _ h3)
theorem okP_sub {a l : List Int} (h : List.Sublist a l) (hl : okP l = true) : okP a = true := by
  have hlen := h.length_le
  simp only [okP, Bool.and_eq_true, decide_eq_true_eq] at hl ⊢
  exact ⟨good_sub h _ hl.1, by omega⟩
theorem good_range {l : List Int} : ∀ pr, good pr l = true → ∀ x ∈ l, 0 ≤ x ∧ x ≤ 100000000 := by
  induction l with
  | nil => intro pr _ x hx; cases hx
  | cons y ys ih =>
    intro pr h x hx
    obtain ⟨h1, _, h3⟩ := good_cons h
    rcases List.mem_cons.1 hx with rfl | hx
    · exact h1
    · exact ih _ h3 x hx
theorem rdl_at (l : List S34) (i : Nat) (h : i < l.length) : rd_T34 l (i : Int) = l[i] := by unfold rd_T34; simp [List.getD_eq_getElem?_getD, h]
theorem dropl_at (l : List S34) (i : Nat) (h : i < l.length) : l.drop i = rd_T34 l (i : Int) :: l.drop (i + 1) := by
  rw [rdl_at l i h, List.drop_eq_getElem_cons h]
def inL (x : S34) : Prop := (0 ≤ x.f0 ∧ x.f0 ≤ 100000000) ∧ 0 ≤ x.f1 ∧ x.f1 ≤ 3786479999
instance (x : S34) : Decidable (inL x) := by unfold inL; infer_instance
/-- Labels in their range whose counts ascend. -/
def goodL : Option Int → List S34 → Bool
  | _, [] => true
  | none, x :: xs => decide (inL x) && goodL (some x.f0) xs
  | some p, x :: xs => decide (inL x) && (decide (p < x.f0) && goodL (some x.f0) xs)
def prevL (l : List S34) (i : Nat) : Option Int := if i = 0 then none else some (rd_T34 l ((i : Int) - 1)).f0
theorem prevL_succ (l : List S34) (i : Nat) : prevL l (i + 1) = some (rd_T34 l (i : Int)).f0 := by unfold prevL; rw [if_neg (by omega), show ((i + 1 : Nat) : Int) - 1 = (i : Int) by omega]
def okL (l : List S34) : Bool := goodL none l && decide (l.length ≤ 16)
theorem inL_f {x : S34} (h : ¬ inL x) (h1 : 0 ≤ x.f0 ∧ x.f0 ≤ 100000000) : ¬ (0 ≤ x.f1 ∧ x.f1 ≤ 3786479999) := fun g => h ⟨h1, g⟩
theorem goodL_out (l : List S34) (i : Nat) (x : S34) (xs : List S34) (h : ¬ inL x) : goodL (prevL l i) (x :: xs) = false := by
  unfold prevL
  split <;> simp only [goodL, decide_eq_false h, Bool.false_and]
theorem validL_il (l : List S34) (hl : l.length ≤ 1048576) (n : Nat) : ∀ (i k : Nat), i + n = l.length → n < k → impl_labelsValid.l0 k l l (l.length : Int) (i : Int) = some (goodL (prevL l i) (l.drop i) && decide (l.length ≤ 16)) := by
  induction n with
  | zero =>
    intro i k h hk
    obtain ⟨k, rfl⟩ : ∃ m, k = m + 1 := ⟨k - 1, by omega⟩
    simp only [impl_labelsValid.l0]
    rw [if_neg (by omega), List.drop_eq_nil_of_le (by omega)]
    unfold prevL
    split <;> (simp only [goodL, Bool.true_and]; exact congrArg some (decide_eq_decide.2 (by omega)))
  | succ n ih =>
    intro i k h hk
    obtain ⟨k, rfl⟩ : ∃ m, k = m + 1 := ⟨k - 1, by omega⟩
    have IH := ih (i + 1) k (by omega) (by omega)
    rw [prevL_succ, show ((i + 1 : Nat) : Int) = (i : Int) + 1 by omega] at IH
    simp only [impl_labelsValid.l0]
    unfold impl_isTime.f
    rw [if_pos (by omega), if_pos (by omega), if_pos (by omega), within_eq, Option.bind_some, within_eq, Option.bind_some, Option.bind_some, dropl_at l i (by omega), w64 (x := (i : Int) + 1) (by omega) (by omega), IH]
    generalize hx : rd_T34 l (i : Int) = x
    by_cases hin : inL x
    · rw [if_pos (decide_eq_true hin.1), if_pos (decide_eq_true hin.2)]
      by_cases h0 : i = 0
      · subst h0
        rw [if_neg (by omega)]
        simp only [prevL, if_true, goodL, decide_eq_true hin, Bool.true_and]
      · rw [if_pos (by omega), w64 (by omega) (by omega), if_pos (by omega), if_pos (by omega)]
        unfold prevL
        rw [if_neg h0]
        simp only [goodL, decide_eq_true hin, Bool.true_and]
        by_cases h2 : (rd_T34 l ((i : Int) - 1)).f0 < x.f0
        · rw [if_neg (by omega), decide_eq_true h2, Bool.true_and]
        · rw [if_pos (by omega), decide_eq_false h2, Bool.false_and, Bool.false_and]
    · rw [goodL_out l i x _ hin, Bool.false_and]
      by_cases h1 : 0 ≤ x.f0 ∧ x.f0 ≤ 100000000
      · rw [if_pos (decide_eq_true h1), if_neg (by simpa using inL_f hin h1)]
      · rw [if_neg (by simpa using h1)]
theorem validL_i {k : Nat} (l : List S34) (hl : l.length ≤ 1048576) (hk : l.length < k) : impl_labelsValid.f k l = some (okL l) := by
  have := validL_il l hl l.length 0 k (by omega) hk
  simpa [impl_labelsValid.f, okL, prevL] using this
theorem validL_sl (l : List S34) (hl : l.length ≤ 1048576) (n : Nat) : ∀ (i k : Nat), i + n = l.length → n < k → spec_validLabels.l0 k l (i : Int) = some (goodL (prevL l i) (l.drop i) && decide (l.length ≤ 16)) := by
  induction n with
  | zero =>
    intro i k h hk
    obtain ⟨k, rfl⟩ : ∃ m, k = m + 1 := ⟨k - 1, by omega⟩
    simp only [spec_validLabels.l0]
    rw [if_neg (by omega), List.drop_eq_nil_of_le (by omega)]
    unfold prevL
    split <;> (simp only [goodL, Bool.true_and]; exact congrArg some (decide_eq_decide.2 (by omega)))
  | succ n ih =>
    intro i k h hk
    obtain ⟨k, rfl⟩ : ∃ m, k = m + 1 := ⟨k - 1, by omega⟩
    have IH := ih (i + 1) k (by omega) (by omega)
    rw [prevL_succ, show ((i + 1 : Nat) : Int) = (i : Int) + 1 by omega] at IH
    simp only [spec_validLabels.l0]
    unfold spec_validTime.f
    rw [if_pos (by omega), if_pos (by omega), inRange_eq, Option.bind_some, inRange_eq, Option.bind_some, Option.bind_some, dropl_at l i (by omega), w64 (x := (i : Int) + 1) (by omega) (by omega), IH]
    generalize hx : rd_T34 l (i : Int) = x
    by_cases hin : inL x
    · rw [if_pos (decide_eq_true hin.1), if_pos (decide_eq_true hin.2)]
      by_cases h0 : i = 0
      · subst h0
        rw [if_neg (by omega)]
        simp only [prevL, if_true, goodL, decide_eq_true hin, Bool.true_and]
      · rw [if_pos (by omega), w64 (by omega) (by omega), if_pos (by omega), if_pos (by omega)]
        unfold prevL
        rw [if_neg h0]
        simp only [goodL, decide_eq_true hin, Bool.true_and]
        by_cases h2 : (rd_T34 l ((i : Int) - 1)).f0 < x.f0
        · rw [if_neg (by omega), decide_eq_true h2, Bool.true_and]
        · rw [if_pos (by omega), decide_eq_false h2, Bool.false_and, Bool.false_and]
    · rw [goodL_out l i x _ hin, Bool.false_and]
      by_cases h1 : 0 ≤ x.f0 ∧ x.f0 ≤ 100000000
      · rw [if_pos (decide_eq_true h1), if_neg (by simpa using inL_f hin h1)]
      · rw [if_neg (by simpa using h1)]
theorem validL_s {k : Nat} (l : List S34) (hl : l.length ≤ 1048576) (hk : l.length < k) : spec_validLabels.f k l = some (okL l) := by
  have := validL_sl l hl l.length 0 k (by omega) hk
  simpa [spec_validLabels.f, okL, prevL] using this
theorem goodL_cons {pr : Option Int} {x : S34} {xs : List S34} (h : goodL pr (x :: xs) = true) : inL x ∧ (∀ p, pr = some p → p < x.f0) ∧ goodL (some x.f0) xs = true := by
  cases pr with
  | none => simp [goodL] at h; exact ⟨h.1, fun p e => (by cases e), h.2⟩
  | some p => simp [goodL] at h; exact ⟨h.1, fun q e => (by cases e; exact h.2.1), h.2.2⟩
theorem goodL_mk {pr : Option Int} {x : S34} {xs : List S34} (h1 : inL x) (h2 : ∀ p, pr = some p → p < x.f0) (h3 : goodL (some x.f0) xs = true) : goodL pr (x :: xs) = true := by
  cases pr with
  | none => simp [goodL, h1, h3]
  | some p => simp [goodL, h1, h3, h2 p rfl]
theorem goodL_tail {pr : Option Int} {x : S34} {xs : List S34} (h : goodL pr (x :: xs) = true) : goodL pr xs = true := by
  obtain ⟨h1, h2, h3⟩ := goodL_cons h
  cases xs with
  | nil => cases pr <;> rfl
  | cons y ys =>
    obtain ⟨g1, g2, g3⟩ := goodL_cons h3
    exact goodL_mk g1 (fun p e => by have := h2 p e; have := g2 x.f0 rfl; omega) g3
theorem goodL_sub {a l : List S34} (h : List.Sublist a l) : ∀ pr, goodL pr l = true → goodL pr a = true := by
  induction h with
  | slnil => intro pr h; exact h
  | cons x _ ih => intro pr h; exact ih pr (goodL_tail h)
  | cons_cons x _ ih =>
    intro pr h
    obtain ⟨h1, h2, h3⟩ := goodL_cons h
    exact goodL_mk h1 h2 (ih _ h3)
theorem okL_sub {a l : List S34} (h : List.Sublist a l) (hl : okL l = true) : okL a = true := by
  have hlen := h.length_le
  simp only [okL, Bool.and_eq_true, decide_eq_true_eq] at hl ⊢
  exact ⟨goodL_sub h _ hl.1, by omega⟩
theorem goodL_range {l : List S34} : ∀ pr, goodL pr l = true → ∀ x ∈ l, inL x := by
  induction l with
  | nil => intro pr _ x hx; cases hx
  | cons y ys ih =>
    intro pr h x hx
    obtain ⟨h1, _, h3⟩ := goodL_cons h
    rcases List.mem_cons.1 hx with rfl | hx
    · exact h1
    · exact ih _ h3 x hx
theorem rdl_mem {l : List S34} {i : Int} (h0 : 0 ≤ i) (h1 : i < l.length) : rd_T34 l i ∈ l := by
  have hi' : i.toNat < l.length := by omega
  have e : rd_T34 l i = l[i.toNat] := by unfold rd_T34; simp [List.getD_eq_getElem?_getD, hi']
  rw [e]
  exact List.getElem_mem hi'
/-- The last pulse that is not behind a count. -/
def lastP : List Int → Int → Int → Int
  | [], _, a => a
  | p :: ps, c, a => if p ≤ c then lastP ps c p else lastP ps c a
theorem lastP_nil (c a : Int) : lastP [] c a = a := rfl
theorem lastP_cons (p : Int) (ps : List Int) (c a : Int) : lastP (p :: ps) c a = if p ≤ c then lastP ps c p else lastP ps c a := rfl
def lab (ps : List Int) : List S34 → List S34
  | [] => []
  | x :: xs => if 0 ≤ lastP ps x.f0 (-1) ∧ x.f0 - lastP ps x.f0 (-1) ≤ 700000 then ⟨lastP ps x.f0 (-1), x.f1⟩ :: lab ps xs else lab ps xs
def labelP (ps : List Int) (ls : List S34) : List S34 := if okP ps = true ∧ okL ls = true then lab ps ls else []
theorem lastP_in (ps : List Int) (hr : ∀ x ∈ ps, 0 ≤ x ∧ x ≤ 100000000) (c : Int) : ∀ a, lastP ps c a = a ∨ (lastP ps c a ∈ ps ∧ lastP ps c a ≤ c) := by
  induction ps with
  | nil => intro a; exact .inl rfl
  | cons p ps ih =>
    intro a
    have ih' := ih (fun x hx => hr x (by simp [hx]))
    simp only [lastP]
    split
    · rename_i h
      rcases ih' p with e | ⟨e1, e2⟩
      · right; rw [e]; exact ⟨by simp, h⟩
      · exact .inr ⟨by simp [e1], e2⟩
    · rcases ih' a with e | ⟨e1, e2⟩
      · exact .inl e
      · exact .inr ⟨by simp [e1], e2⟩
theorem lastP_bd (ps : List Int) (hr : ∀ x ∈ ps, 0 ≤ x ∧ x ≤ 100000000) (c a : Int) (ha : -1 ≤ a ∧ a ≤ 100000000) : -1 ≤ lastP ps c a ∧ lastP ps c a ≤ 100000000 := by
  rcases lastP_in ps hr c a with e | ⟨e1, _⟩
  · rw [e]; exact ha
  · have := hr _ e1; omega
theorem lab_length (ps : List Int) (ls : List S34) : (lab ps ls).length ≤ ls.length := by
  induction ls with
  | nil => simp [lab]
  | cons x xs ih =>
    simp only [lab]
    split <;> simp only [List.length_cons] <;> omega
theorem labelP_length (ps : List Int) (ls : List S34) : (labelP ps ls).length ≤ ls.length := by
  unfold labelP
  split
  · exact lab_length ps ls
  · simp
theorem lab_i1 (ps : List Int) (hl : ps.length ≤ 16) (hr : ∀ x ∈ ps, 0 ≤ x ∧ x ≤ 100000000) (ls : List S34) (out : List S34) (ho : out.length ≤ 100) (i : Int) (hi : 0 ≤ i ∧ i ≤ 1000) (c t : Int) (hc : 0 ≤ c ∧ c ≤ 100000000) (n : Nat) : ∀ (q k : Nat) (a : Int), q + n = ps.length → n < k → -1 ≤ a → a ≤ 100000000 →
    impl_LabelPulses.l1 k ps out a ls (ls.length : Int) i ps (ps.length : Int) (q : Int) c t = (if 0 ≤ lastP (ps.drop q) c a ∧ c - lastP (ps.drop q) c a ≤ 700000 then impl_LabelPulses.l0 (k - (n + 1)) ps (out ++ [⟨lastP (ps.drop q) c a, t⟩]) ls (ls.length : Int) (i + 1) else impl_LabelPulses.l0 (k - (n + 1)) ps out ls (ls.length : Int) (i + 1)) := by
  induction n with
  | zero =>
    intro q k a h hk h1 h2
    obtain ⟨k, rfl⟩ : ∃ m, k = m + 1 := ⟨k - 1, by omega⟩
    rw [List.drop_eq_nil_of_le (by omega)]
    simp only [impl_LabelPulses.l1]
    rw [lastP_nil, if_neg (by omega), w64 (x := i + 1) (by omega) (by omega), w64 (x := c - a) (by omega) (by omega), show k + 1 - (0 + 1) = k by omega]
    by_cases ha : a ≥ 0
    · rw [if_pos ha]
      by_cases hb : c - a ≤ 700000
      · rw [if_pos hb, if_pos (by omega), if_pos ⟨ha, hb⟩]
      · rw [if_neg hb, if_neg (fun g => hb g.2)]
    · rw [if_neg ha, if_neg (fun g => ha g.1)]
  | succ n ih =>
    intro q k a h hk h1 h2
    obtain ⟨k, rfl⟩ : ∃ m, k = m + 1 := ⟨k - 1, by omega⟩
    have hp := hr _ (rd_mem (b := ps) (i := (q : Int)) (by omega) (by omega))
    simp only [impl_LabelPulses.l1]
    rw [if_pos (by omega), if_pos (by omega), if_pos (by omega), w64 (by omega) (by omega), drop_at ps q (by omega), show (q : Int) + 1 = ((q + 1 : Nat) : Int) by omega, show k + 1 - (n + 1 + 1) = k - (n + 1) by omega, lastP_cons]
    by_cases hle : rd ps (q : Int) ≤ c
    · simp only [if_pos hle]
      exact ih (q + 1) k _ (by omega) (by omega) (by omega) (by omega)
    · simp only [if_neg hle]
      exact ih (q + 1) k _ (by omega) (by omega) h1 h2
theorem lab_i0 (ps : List Int) (hl : ps.length ≤ 16) (hr : ∀ x ∈ ps, 0 ≤ x ∧ x ≤ 100000000) (ls : List S34) (hls : ls.length ≤ 16) (hrl : ∀ x ∈ ls, inL x) (n : Nat) : ∀ (i k : Nat) (out : List S34), i + n = ls.length → out.length ≤ i → 20 * n < k →
    impl_LabelPulses.l0 k ps out ls (ls.length : Int) (i : Int) = some (out ++ lab ps (ls.drop i)) := by
  induction n with
  | zero =>
    intro i k out h ho hk
    obtain ⟨k, rfl⟩ : ∃ m, k = m + 1 := ⟨k - 1, by omega⟩
    rw [List.drop_eq_nil_of_le (by omega)]
    simp only [impl_LabelPulses.l0, lab]
    rw [if_neg (by omega), List.append_nil]
  | succ n ih =>
    intro i k out h ho hk
    obtain ⟨k, rfl⟩ : ∃ m, k = m + 1 := ⟨k - 1, by omega⟩
    have hx := hrl _ (rdl_mem (l := ls) (i := (i : Int)) (by omega) (by omega))
    simp only [impl_LabelPulses.l0]
    rw [if_pos (by omega), if_pos (by omega), if_pos (by omega)]
    have e := lab_i1 ps hl hr ls out (by omega) (i : Int) (by omega) (rd_T34 ls (i : Int)).f0 (rd_T34 ls (i : Int)).f1 hx.1 ps.length 0 k (-1) (by omega) (by omega) (by omega) (by omega)
    rw [List.drop_zero, show ((0 : Nat) : Int) = 0 from rfl] at e
    rw [e, dropl_at ls i (by omega), show (i : Int) + 1 = ((i + 1 : Nat) : Int) by omega]
    simp only [lab]
    split
    · rw [ih (i + 1) _ _ (by omega) (by simp; omega) (by omega), List.append_assoc]
      rfl
    · exact ih (i + 1) _ _ (by omega) (by omega) (by omega)
theorem labelP_i {k : Nat} (ps : List Int) (ls : List S34) (h1 : ps.length ≤ 1048576) (h2 : ls.length ≤ 1048576) (hk : 400 < k) (hk1 : ps.length < k) (hk2 : ls.length < k) : impl_LabelPulses.f k ps ls = some (labelP ps ls) := by
  obtain ⟨k, rfl⟩ : ∃ m, k = m + 1 := ⟨k - 1, by omega⟩
  unfold impl_LabelPulses.f labelP
  rw [Option.bind_some, validP_i ps h1 hk1, Option.bind_some, validL_i ls h2 hk2, Option.bind_some]
  simp only [impl_LabelPulses.j0, if_true]
  by_cases hp : okP ps = true
  · rw [if_pos hp]
    by_cases hlb : okL ls = true
    · rw [if_neg (by simp [hlb]), if_pos ⟨hp, hlb⟩]
      have a : good none ps = true ∧ ps.length ≤ 16 := by simpa [okP] using hp
      have b : goodL none ls = true ∧ ls.length ≤ 16 := by simpa [okL] using hlb
      have := lab_i0 ps a.2 (good_range none a.1) ls b.2 (goodL_range none b.1) ls.length 0 k [] (by omega) (by simp) (by omega)
      simpa using this
    · rw [if_pos (by simpa using hlb), if_neg (fun g => hlb g.2)]
  · rw [if_neg hp, if_neg (fun g => hp g.1)]
theorem lab_s1 (ps : List Int) (hl : ps.length ≤ 16) (hr : ∀ x ∈ ps, 0 ≤ x ∧ x ≤ 100000000) (ls : List S34) (hls : ls.length ≤ 16) (out : List S34) (ho : out.length ≤ 100) (i : Nat) (hi : i < ls.length) (hc : inL (rd_T34 ls (i : Int))) (n : Nat) : ∀ (q k : Nat) (a : Int), q + n = ps.length → n < k → -1 ≤ a → a ≤ 100000000 →
    spec_LabelPulses.l1 k ps ls out (i : Int) a (q : Int) = (if 0 ≤ lastP (ps.drop q) (rd_T34 ls (i : Int)).f0 a ∧ (rd_T34 ls (i : Int)).f0 - lastP (ps.drop q) (rd_T34 ls (i : Int)).f0 a ≤ 700000 then spec_LabelPulses.l0 (k - (n + 1)) ps ls (out ++ [⟨lastP (ps.drop q) (rd_T34 ls (i : Int)).f0 a, (rd_T34 ls (i : Int)).f1⟩]) ((i : Int) + 1) else spec_LabelPulses.l0 (k - (n + 1)) ps ls out ((i : Int) + 1)) := by
  unfold inL at hc
  induction n with
  | zero =>
    intro q k a h hk h1 h2
    obtain ⟨k, rfl⟩ : ∃ m, k = m + 1 := ⟨k - 1, by omega⟩
    rw [List.drop_eq_nil_of_le (by omega)]
    simp only [spec_LabelPulses.l1]
    rw [lastP_nil, if_neg (by omega), w64 (x := (i : Int) + 1) (by omega) (by omega), w64 (x := (rd_T34 ls (i : Int)).f0 - a) (by omega) (by omega), show k + 1 - (0 + 1) = k by omega]
    by_cases ha : a ≥ 0
    · rw [if_pos ha, if_pos (by omega), if_pos (by omega)]
      by_cases hb : (rd_T34 ls (i : Int)).f0 - a ≤ 700000
      · rw [if_pos hb, if_pos (by omega), if_pos ⟨ha, hb⟩]
      · rw [if_neg hb, if_neg (fun g => hb g.2)]
    · rw [if_neg ha, if_neg (fun g => ha g.1)]
  | succ n ih =>
    intro q k a h hk h1 h2
    obtain ⟨k, rfl⟩ : ∃ m, k = m + 1 := ⟨k - 1, by omega⟩
    have hp := hr _ (rd_mem (b := ps) (i := (q : Int)) (by omega) (by omega))
    simp only [spec_LabelPulses.l1]
    rw [if_pos (by omega), if_pos (by omega), if_pos (by omega), if_pos (by omega), w64 (x := (q : Int) + 1) (by omega) (by omega), drop_at ps q (by omega), show (q : Int) + 1 = ((q + 1 : Nat) : Int) by omega, show k + 1 - (n + 1 + 1) = k - (n + 1) by omega, lastP_cons]
    by_cases hle : rd ps (q : Int) ≤ (rd_T34 ls (i : Int)).f0
    · simp only [if_pos hle]
      exact ih (q + 1) k _ (by omega) (by omega) (by omega) (by omega)
    · simp only [if_neg hle]
      exact ih (q + 1) k _ (by omega) (by omega) h1 h2
theorem lab_s0 (ps : List Int) (hl : ps.length ≤ 16) (hr : ∀ x ∈ ps, 0 ≤ x ∧ x ≤ 100000000) (ls : List S34) (hls : ls.length ≤ 16) (hrl : ∀ x ∈ ls, inL x) (n : Nat) : ∀ (i k : Nat) (out : List S34), i + n = ls.length → out.length ≤ i → 20 * n < k →
    spec_LabelPulses.l0 k ps ls out (i : Int) = some (out ++ lab ps (ls.drop i)) := by
  induction n with
  | zero =>
    intro i k out h ho hk
    obtain ⟨k, rfl⟩ : ∃ m, k = m + 1 := ⟨k - 1, by omega⟩
    rw [List.drop_eq_nil_of_le (by omega)]
    simp only [spec_LabelPulses.l0, lab]
    rw [if_neg (by omega), List.append_nil]
  | succ n ih =>
    intro i k out h ho hk
    obtain ⟨k, rfl⟩ : ∃ m, k = m + 1 := ⟨k - 1, by omega⟩
    have hx := hrl _ (rdl_mem (l := ls) (i := (i : Int)) (by omega) (by omega))
    simp only [spec_LabelPulses.l0]
    rw [if_pos (by omega)]
    have e := lab_s1 ps hl hr ls hls out (by omega) i (by omega) hx ps.length 0 k (-1) (by omega) (by omega) (by omega) (by omega)
    rw [List.drop_zero, show ((0 : Nat) : Int) = 0 from rfl] at e
    rw [e, dropl_at ls i (by omega), show (i : Int) + 1 = ((i + 1 : Nat) : Int) by omega]
    simp only [lab]
    split
    · rw [ih (i + 1) _ _ (by omega) (by simp; omega) (by omega), List.append_assoc]
      rfl
    · exact ih (i + 1) _ _ (by omega) (by omega) (by omega)
theorem labelP_s {k : Nat} (ps : List Int) (ls : List S34) (h1 : ps.length ≤ 1048576) (h2 : ls.length ≤ 1048576) (hk : 400 < k) (hk1 : ps.length < k) (hk2 : ls.length < k) : spec_LabelPulses.f k ps ls = some (labelP ps ls) := by
  obtain ⟨k, rfl⟩ : ∃ m, k = m + 1 := ⟨k - 1, by omega⟩
  unfold spec_LabelPulses.f labelP
  rw [Option.bind_some, validP_s ps h1 hk1, Option.bind_some, validL_s ls h2 hk2, Option.bind_some]
  simp only [spec_LabelPulses.j0, if_true]
  by_cases hp : okP ps = true
  · rw [if_pos hp]
    by_cases hlb : okL ls = true
    · rw [if_neg (by simp [hlb]), if_pos ⟨hp, hlb⟩]
      have a : good none ps = true ∧ ps.length ≤ 16 := by simpa [okP] using hp
      have b : goodL none ls = true ∧ ls.length ≤ 16 := by simpa [okL] using hlb
      have := lab_s0 ps a.2 (good_range none a.1) ls b.2 (goodL_range none b.1) ls.length 0 k [] (by omega) (by simp) (by omega)
      simpa using this
    · rw [if_pos (by simpa using hlb), if_neg (fun g => hlb g.2)]
  · rw [if_neg hp, if_neg (fun g => hp g.1)]
theorem equalLabels_l (l : List S34) (hl : l.length ≤ 1048576) (d : Nat) : ∀ (i k : Nat), i + d = l.length → d < k → laws_equalLabels.l0 k l l (i : Int) = some true := by
  induction d with
  | zero =>
    intro i k h hk
    obtain ⟨k, rfl⟩ : ∃ m, k = m + 1 := ⟨k - 1, by omega⟩
    simp only [laws_equalLabels.l0]
    rw [if_neg (by omega)]
  | succ d ih =>
    intro i k h hk
    obtain ⟨k, rfl⟩ : ∃ m, k = m + 1 := ⟨k - 1, by omega⟩
    simp only [laws_equalLabels.l0]
    rw [if_pos (by omega), if_pos (by omega), if_pos (by omega), if_neg (by simp), w64 (by omega) (by omega)]
    exact ih (i + 1) k (by omega) (by omega)
theorem equalLabels_ok {k : Nat} (l : List S34) (hl : l.length ≤ 1048576) (hk : l.length < k) : laws_equalLabels.f k l l = some true := by
  unfold laws_equalLabels.f
  rw [if_pos rfl]
  exact equalLabels_l l hl l.length 0 k (by omega) hk
theorem drawLabel_ok {k : Nat} (hk : 60 ≤ k) {l : List Int} (hb : ∀ x ∈ l, (Lit.int .u8 x).wf = true) : ∃ ps ls, spec_DrawLabelPulses.f k l = some (ps, ls) ∧ ps.length ≤ 50 ∧ ls.length ≤ 50 := by
  obtain ⟨b, eb, hB⟩ := newReader_ok hb
  obtain ⟨m, p, em, hm, h1, h2⟩ := anyPulses_ok (k := k) (by omega) hB
  obtain ⟨n, q, en, hn⟩ := someLabels_ok hk hB m hm p h1 h2
  refine ⟨m, n, ?_, hm, hn⟩
  unfold spec_DrawLabelPulses.f
  rw [eb, Option.bind_some, em, Option.bind_some, en, Option.bind_some]
theorem lastP_ge (ps : List Int) (c : Int) : ∀ a, good (some a) ps = true → a ≤ lastP ps c a := by
  induction ps with
  | nil => intro a _; exact Int.le_refl _
  | cons p ps ih =>
    intro a h
    obtain ⟨_, h2, h3⟩ := good_cons h
    rw [lastP_cons]
    by_cases hp : p ≤ c
    · rw [if_pos hp]
      have := ih p h3
      have := h2 a rfl
      omega
    · rw [if_neg hp]
      exact ih a (good_tail h)
theorem lastP_max (ps : List Int) (c : Int) : ∀ pr a, good pr ps = true → ∀ p ∈ ps, p ≤ c → p ≤ lastP ps c a := by
  induction ps with
  | nil => intro pr a _ p hp; cases hp
  | cons q qs ih =>
    intro pr a h p hp hle
    obtain ⟨_, h2, h3⟩ := good_cons h
    rw [lastP_cons]
    rcases List.mem_cons.1 hp with rfl | hp
    · rw [if_pos hle]
      exact lastP_ge qs c p h3
    · split
      · exact ih (some q) _ h3 p hp hle
      · exact ih (some q) _ h3 p hp hle
end KFnLabelPulsesLast
open KFnLabelPulsesLast
theorem scan_l1 (ps : List Int) (hl : ps.length ≤ 50) (ls : List S34) (hls : 0 < ls.length) (x : S34) (hx : x.f1 = (rd_T34 ls 0).f1) (hno : ∀ p ∈ ps, x.f0 < p → ¬ p ≤ (rd_T34 ls 0).f0) (n : Nat) : ∀ (i k : Nat), i + n = ps.length → n + 1 < k → laws_FnLabelPulsesLast.l1 k ps ls [x] 0 (i : Int) = some true := by
  induction n with
  | zero =>
    intro i k h hk
    obtain ⟨k, rfl⟩ : ∃ m, k = m + 2 := ⟨k - 2, by omega⟩
    simp only [laws_FnLabelPulsesLast.l1]
    rw [if_neg (by omega), w64 (by omega) (by omega)]
    simp only [laws_FnLabelPulsesLast.l0]
    rw [if_neg (by simp), if_pos (by simp), if_neg (by simp), if_pos (by simp), if_pos (by omega)]
    exact congrArg some (beq_iff_eq.2 hx)
  | succ n ih =>
    intro i k h hk
    obtain ⟨k, rfl⟩ : ∃ m, k = m + 1 := ⟨k - 1, by omega⟩
    have hm := rd_mem (b := ps) (i := (i : Int)) (by omega) (by omega)
    have hr : (rd_T34 [x] 0).f0 = x.f0 := rfl
    have IH := ih (i + 1) k (by omega) (by omega)
    rw [show ((i + 1 : Nat) : Int) = (i : Int) + 1 by omega] at IH
    simp only [laws_FnLabelPulsesLast.l1]
    rw [if_pos (by omega), if_pos (by omega), if_pos (by omega), if_pos (by simp), hr, w64 (by omega) (by omega), IH]
    by_cases hg : rd ps (i : Int) > x.f0
    · rw [if_pos hg, if_pos (by omega), if_neg (hno _ hm hg)]
    · rw [if_neg hg]
theorem FnLabelPulsesLast (l : List Int) (_hl : l.length ≤ maxLen) (_hs : l.length * 1 ≤ 140737488351232) (hb : ∀ x ∈ l, (Lit.int .u8 x).wf = true) : ∃ k, laws_FnLabelPulsesLast.f k l = some true := by
  refine ⟨1001, ?_⟩
  unfold laws_FnLabelPulsesLast.f
  by_cases h0 : (l.length : Int) > 1048576
  · rw [if_pos h0]
  obtain ⟨ps, ls, ed, h1, h2⟩ := drawLabel_ok (k := 1001) (by omega) hb
  have hlen := labelP_length ps ls
  rw [if_neg h0, ed, Option.bind_some, labelP_i ps ls (by omega) (by omega) (by omega) (by omega) (by omega), Option.bind_some, labelP_s ps ls (by omega) (by omega) (by omega) (by omega) (by omega), Option.bind_some, equalLabels_ok _ (by omega) (by omega), Option.bind_some, if_pos rfl]
  simp only [laws_FnLabelPulsesLast.j0]
  by_cases hz : (ls.length : Int) = 0
  · rw [if_pos (by rw [beq_iff_eq]; exact hz), labelP_s ps ls (by omega) (by omega) (by omega) (by omega) (by omega), Option.bind_some, equalLabels_ok _ (by omega) (by omega)]
    rfl
  · have ht : (ls.take 1).length = 1 := by rw [List.length_take]; omega
    rw [if_neg (by rw [beq_iff_eq]; exact hz), if_pos (by omega), labelP_i ps (ls.take 1) (by omega) (by omega) (by omega) (by omega) (by omega), Option.bind_some]
    obtain ⟨y, ys, rfl⟩ : ∃ y ys, ls = y :: ys := by
      cases ls with
      | nil => exact absurd rfl hz
      | cons y ys => exact ⟨y, ys, rfl⟩
    have hnil : ∀ k, laws_FnLabelPulsesLast.l0 (k + 1) ps (y :: ys) [] 0 = some true := fun k => by
      simp only [laws_FnLabelPulsesLast.l0]
      rw [if_neg (by simp), if_pos (by simp), if_pos (by simp)]
    have e : (y :: ys).take 1 = [y] := rfl
    rw [e]
    by_cases hc : okP ps = true ∧ okL [y] = true
    · have e2 : labelP ps [y] = lab ps [y] := by unfold labelP; rw [if_pos hc]
      rw [e2]
      simp only [lab]
      by_cases hk : 0 ≤ lastP ps y.f0 (-1) ∧ y.f0 - lastP ps y.f0 (-1) ≤ 700000
      · rw [if_pos hk]
        have a : good none ps = true ∧ ps.length ≤ 16 := by simpa [okP] using hc.1
        have hr0 : rd_T34 (y :: ys) 0 = y := rfl
        simp only [laws_FnLabelPulsesLast.l0]
        rw [if_pos (by simp)]
        exact scan_l1 ps h1 (y :: ys) (by simp) ⟨lastP ps y.f0 (-1), y.f1⟩ (by rw [hr0]) (fun p hp hlt hle => by
          rw [hr0] at hle
          have := lastP_max ps y.f0 none (-1) a.1 p hp hle
          have hlt' : lastP ps y.f0 (-1) < p := hlt
          omega) ps.length 0 999 (by omega) (by omega)
      · rw [if_neg hk]
        exact hnil 999
    · have e2 : labelP ps [y] = [] := by unfold labelP; rw [if_neg hc]
      rw [e2]
      exact hnil 999

end Go.Proofs.Ytchlfonhhmkipaa.Pure
