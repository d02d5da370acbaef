/- Proved: GainOf is that of the first labels up to one in the middle plus that from this one on, at every code (law FnGainOf); no condition beyond the statement's own. -/
import Derived.Test.YtpkpbcfehllehaaPFnGainOfx
import Derived.Laws.BitsLemmas
import Derived.Test.YtpkpbcfehllehaaWalkFnGainOf
namespace Go.Proofs.Ytpkpbcfehllehaa.Pure
open Go Go.RowKit Go.Proofs.Ytpkpbcfehllehaa.PFnGainOf Go.Proofs.YtpkpbcfehllehaaW.PrintWords Go.Proofs.YtpkpbcfehllehaaW.PrintLast Go.Proofs.YtpkpbcfehllehaaW.PrintMore

namespace KFnGainOf
theorem w64 {x : Int} (h1 : -9223372036854775808 ≤ x) (h2 : x < 9223372036854775808) : wrap64 x = x := by unfold wrap64; omega
theorem i64wrap (x : Int) : IntKind.i64.wrap x = wrap64 x := by rw [IntKind.wrap_i64]; unfold wrap64; rfl
theorem tm {a b : Int} (h : 0 ≤ a) : Int.tmod a b = a % b := Int.tmod_eq_emod_of_nonneg h
theorem td {a b : Int} (h : 0 ≤ a) : Int.tdiv a b = a / b := Int.tdiv_eq_ediv_of_nonneg h
theorem sval {α : Type} {x : Option α} {a : α} (h : x = some a) {β : Type} (f : α → Option β) : x.bind f = f a := by rw [h]; rfl
theorem xor_nat (a b : Nat) (ha : a < 2 ^ 62) (hb : b < 2 ^ 62) : Go.bits .xor .i64 (a : Int) (b : Int) = ((a ^^^ b : Nat) : Int) := by
  have hx := Nat.xor_lt_two_pow ha hb
  have e : Go.bits .xor .i64 (a : Int) (b : Int) = wrap64 ((BitVec.ofInt 64 (a : Int) ^^^ BitVec.ofInt 64 (b : Int)).toNat : Int) := by rw [← i64wrap]; rfl
  rw [e, BitVec.ofInt_natCast, BitVec.ofInt_natCast, BitVec.toNat_xor, BitVec.toNat_ofNat, BitVec.toNat_ofNat, Nat.mod_eq_of_lt (by omega), Nat.mod_eq_of_lt (by omega)]
  exact w64 (by omega) (by omega)
theorem xor_ge (a b : Int) (h1 : 0 ≤ a) (h2 : a < 4611686018427387904) (h3 : 0 ≤ b) (h4 : b < 4611686018427387904) : 0 ≤ Go.bits .xor .i64 a b := by
  obtain ⟨x, rfl⟩ := Int.eq_ofNat_of_zero_le h1
  obtain ⟨y, rfl⟩ := Int.eq_ofNat_of_zero_le h3
  rw [xor_nat x y (by omega) (by omega)]
  exact Int.natCast_nonneg _
theorem rd_in {b : List Int} {lo hi : Int} (h : ∀ x ∈ b, lo ≤ x ∧ x ≤ hi) {i : Int} (h0 : 0 ≤ i) (h1 : i < b.length) : lo ≤ rd b i ∧ rd b i ≤ hi := by
  have hi' : i.toNat < b.length := by omega
  have e : rd b i = b[i.toNat] := by unfold rd; simp [List.getD_eq_getElem?_getD, List.getElem?_eq_getElem hi']
  rw [e]
  exact h _ (List.getElem_mem hi')
theorem rd_mem {b : List Int} {i : Int} (h0 : 0 ≤ i) (h1 : i < b.length) : rd b i ∈ b := by
  have hi' : i.toNat < b.length := by omega
  have e : rd b i = b[i.toNat] := by unfold rd; simp [List.getD_eq_getElem?_getD, List.getElem?_eq_getElem hi']
  rw [e]
  exact List.getElem_mem hi'
/-- What the reader holds: bytes, no more than two thousand. -/
def Bytes (b : List Int) : Prop := (∀ x ∈ b, 0 ≤ x ∧ x ≤ 255) ∧ b.length ≤ 2000
theorem pick_ok {k : Nat} (hk : 1 ≤ k) {b : List Int} {p : Int} (n : Int) (hb : Bytes b) (hp : 0 ≤ p) (hp2 : p ≤ 1000000000) :
    ∃ r, spec_reader_pick.f k b p n = some (r, p + 1) ∧ 0 ≤ r ∧ (1 ≤ n → r < n) := by
  obtain ⟨k, rfl⟩ : ∃ m, k = m + 1 := ⟨k - 1, by omega⟩
  obtain ⟨hb, hl⟩ := hb
  unfold spec_reader_pick.f
  rw [w64 (x := p + 1) (by omega) (by omega)]
  by_cases hn : n < 1
  · exact ⟨0, by rw [if_pos hn]; simp only [spec_reader_pick.j0, if_true], by omega, fun h => by omega⟩
  rw [if_neg hn]
  by_cases h0 : (b.length : Int) = 0
  · exact ⟨0, by rw [beq_iff_eq.2 h0]; simp only [spec_reader_pick.j0, if_true], by omega, fun h => by omega⟩
  rw [beq_eq_false_iff_ne.2 h0]
  simp only [spec_reader_pick.j0]
  rw [w64 (x := p + 1 - 1) (by omega) (by omega), show p + 1 - 1 = p by omega, if_neg (by simp)]
  by_cases h1 : p < (b.length : Int)
  · have hr := rd_in hb hp h1
    rw [if_pos h1, if_pos hp, if_neg (by omega), w64 (by omega) (by omega), tm hr.1]
    exact ⟨_, rfl, Int.emod_nonneg _ (by omega), fun _ => Int.emod_lt_of_pos _ (by omega)⟩
  · have hL : 0 < (b.length : Int) := by omega
    have m1 := Int.emod_nonneg p (b := b.length) (by omega)
    have m2 := Int.emod_lt_of_pos p hL
    have m3 := Int.emod_nonneg (p * 7 + 3) (b := b.length) (by omega)
    have m4 := Int.emod_lt_of_pos (p * 7 + 3) hL
    have d1 := Int.ediv_nonneg hp (b := b.length) (by omega)
    have d2 : p / (b.length : Int) ≤ p := Int.ediv_le_self _ hp
    have r1 := rd_in hb m1 m2
    have r2 := rd_in hb m3 m4
    rw [w64 (x := p * 7) (by omega) (by omega), w64 (x := p * 7 + 3) (by omega) (by omega), tm hp, tm (show 0 ≤ p * 7 + 3 by omega), td hp]
    rw [if_neg h1, if_neg h0, if_pos m1, if_pos m2, if_pos m3, if_pos m4, if_neg (by omega)]
    generalize rd b (p % (b.length : Int)) = A at r1 ⊢
    generalize rd b ((p * 7 + 3) % (b.length : Int)) = B at r2 ⊢
    generalize p / (b.length : Int) = q at d1 d2 ⊢
    rw [w64 (x := A) (by omega) (by omega), w64 (x := B) (by omega) (by omega), w64 (x := q) (by omega) (by omega), w64 (x := A * 131) (by omega) (by omega), w64 (x := B * 1117) (by omega) (by omega), w64 (x := p * 29) (by omega) (by omega), w64 (x := q * 53) (by omega) (by omega), w64 (x := A * 131 + B * 1117) (by omega) (by omega), w64 (x := A * 131 + B * 1117 + p * 29) (by omega) (by omega), w64 (x := A * 131 + B * 1117 + p * 29 + q * 53) (by omega) (by omega)]
    rw [td (show 0 ≤ A * 131 + B * 1117 + p * 29 + q * 53 by omega), w64 (x := (A * 131 + B * 1117 + p * 29 + q * 53) / 64) (by omega) (by omega)]
    have hx := xor_ge (A * 131 + B * 1117 + p * 29 + q * 53) ((A * 131 + B * 1117 + p * 29 + q * 53) / 64) (by omega) (by omega) (by omega) (by omega)
    rw [tm hx]
    exact ⟨_, rfl, Int.emod_nonneg _ (by omega), fun _ => Int.emod_lt_of_pos _ (by omega)⟩
theorem newReader_ok {l : List Int} (hb : ∀ x ∈ l, (Lit.int .u8 x).wf = true) : ∃ b, spec_newReader.f l = some (b, 0) ∧ Bytes b := by
  have hb' : ∀ x ∈ l, 0 ≤ x ∧ x ≤ 255 := fun x hx => by
    have := hb x hx
    simp [Lit.wf, IntKind.min, IntKind.max, IntKind.signed, IntKind.bits] at this
    omega
  unfold spec_newReader.f
  by_cases h : (l.length : Int) > 2000
  · exact ⟨l.take 2000, by rw [if_pos h, if_pos (by omega)], fun x hx => hb' x (List.mem_of_mem_take hx), by simp; omega⟩
  · exact ⟨l, by rw [if_neg h], hb', by omega⟩
theorem one_ok {k : Nat} (hk : 1 ≤ k) {b : List Int} {p : Int} (l : List Int) (hb : Bytes b) (hp : 0 ≤ p) (hp2 : p ≤ 1000000000) (hl : 1 ≤ (l.length : Int)) :
    ∃ r, spec_reader_one.f k b p l = some (r, p + 1) ∧ r ∈ l := by
  obtain ⟨r, e, h0, h1⟩ := pick_ok hk (l.length : Int) hb hp hp2
  unfold spec_reader_one.f
  rw [e]
  simp only [Option.bind_some]
  rw [if_pos h0, if_pos (h1 hl)]
  exact ⟨_, rfl, rd_mem h0 (h1 hl)⟩
theorem within_eq (n lo hi : Int) : impl_within.f n lo hi = some (decide (lo ≤ n ∧ n ≤ hi)) := by
  unfold impl_within.f
  by_cases h : lo ≤ n <;> simp [h]
theorem inRange_eq (n lo hi : Int) : spec_inRange.f n lo hi = some (decide (lo ≤ n ∧ n ≤ hi)) := by
  unfold spec_inRange.f
  by_cases h : lo ≤ n <;> simp [h]
theorem copyInts_ok (l : List Int) (hl : l.length ≤ 1048576) : spec_copyInts.f l = some l := by
  unfold spec_copyInts.f
  simp only [Option.bind_some, List.length_nil, List.nil_append]
  rw [if_pos (by omega)]
theorem spoil_ok {k : Nat} (hk : 1 ≤ k) {b : List Int} {p : Int} (l : List Int) (v : Int) (hb : Bytes b) (hp : 0 ≤ p) (hp2 : p ≤ 999999000) (hl : l.length ≤ 1048575) :
    ∃ m q, spec_reader_spoil.f k b p l v = some (m, q) ∧ 0 ≤ q ∧ q ≤ p + 3 ∧ m.length ≤ l.length + 1 ∧ ∀ x ∈ m, x ∈ l ∨ x = v ∨ x = -1 ∨ x = 0 ∨ x = 1 := by
  obtain ⟨r1, e1, l1, u1⟩ := pick_ok hk (p := p) 20 hb (by omega) (by omega)
  obtain ⟨r2, e2, l2, u2⟩ := pick_ok hk (p := p + 1) (l.length : Int) hb (by omega) (by omega)
  obtain ⟨r3, e3, l3⟩ := one_ok hk (p := p + 1 + 1) [-1, v, 0, 1] hb (by omega) (by omega) (by simp)
  unfold spec_reader_spoil.f
  rw [copyInts_ok l (by omega)]
  simp only [e1, Option.bind_some]
  by_cases h0 : r1 = 0
  · rw [if_pos h0, if_pos (by omega)]
    exact ⟨_, _, rfl, by omega, by omega, by simp, fun x hx => by
      rcases List.mem_append.1 hx with h | h
      · exact .inl h
      · simp at h; exact .inr (.inl h)⟩
  rw [if_neg h0]
  by_cases h1 : r1 = 1
  · rw [if_pos h1]
    by_cases hz : (l.length : Int) > 0
    · rw [if_pos hz, if_pos (by omega)]
      exact ⟨_, _, rfl, by omega, by omega, by simp; omega, fun x hx => .inl (List.mem_of_mem_drop hx)⟩
    · rw [if_neg hz]
      exact ⟨_, _, rfl, by omega, by omega, by omega, fun x hx => .inl hx⟩
  rw [if_neg h1]
  by_cases h2 : r1 = 2
  · rw [if_pos h2]
    by_cases hz : (l.length : Int) > 0
    · rw [if_pos hz]
      simp only [e2, e3, Option.bind_some]
      rw [if_pos l2, if_pos (u2 (by omega))]
      refine ⟨_, _, rfl, by omega, by omega, by simp, fun x hx => ?_⟩
      rcases List.mem_or_eq_of_mem_set hx with h | h
      · exact .inl h
      · subst h; simp at l3; omega
    · rw [if_neg hz]
      exact ⟨_, _, rfl, by omega, by omega, by omega, fun x hx => .inl hx⟩
  · rw [if_neg h2]
    exact ⟨_, _, rfl, by omega, by omega, by omega, fun x hx => .inl hx⟩
theorem anyPulses_l {b : List Int} (hb : Bytes b) (d : Nat) : ∀ (k : Nat) (x : List Int) (at_ q : Int), d + 1 < k → 0 ≤ q → q ≤ 1000 + 3 * x.length → x.length + d ≤ 40 →
    ∃ l p, spec_anyPulses.l0 k x at_ (d : Int) b q = some (l, p) ∧ l.length ≤ 50 ∧ 0 ≤ p ∧ p ≤ 100000 := by
  induction d with
  | zero =>
    intro k x at_ q hk h0 h1 h2
    obtain ⟨k, rfl⟩ : ∃ m, k = m + 1 := ⟨k - 1, by omega⟩
    obtain ⟨m, q1, e1, f1, f2, f3, _⟩ := spoil_ok (k := k) (by omega) (p := q) x 100000001 hb (by omega) (by omega) (by omega)
    simp only [spec_anyPulses.l0]
    rw [if_neg (by omega), e1, Option.bind_some]
    exact ⟨m, q1, rfl, by omega, by omega, by omega⟩
  | succ d ih =>
    intro k x at_ q hk h0 h1 h2
    obtain ⟨k, rfl⟩ : ∃ m, k = m + 1 := ⟨k - 1, by omega⟩
    obtain ⟨v, e1, _⟩ := one_ok (k := k) (by omega) (p := q) [1000000, 1000003, 999990, 2000000, 1002000, 1002001, 998000, 500000, 5] hb (by omega) (by omega) (by simp)
    simp only [spec_anyPulses.l0]
    rw [if_pos (by omega), if_pos (by omega), e1, Option.bind_some, w64 (x := ((d + 1 : Nat) : Int) - 1) (by omega) (by omega), show ((d + 1 : Nat) : Int) - 1 = (d : Int) by omega]
    exact ih k (x ++ [at_]) _ (q + 1) (by omega) (by omega) (by simp; omega) (by simp; omega)
theorem anyPulses_ok {k : Nat} (hk : 40 ≤ k) {b : List Int} (hb : Bytes b) : ∃ l p, spec_anyPulses.f k b 0 = some (l, p) ∧ l.length ≤ 50 ∧ 0 ≤ p ∧ p ≤ 100000 := by
  obtain ⟨r1, e1, l1, u1⟩ := pick_ok (k := k) (by omega) (p := 0) 250 hb (by omega) (by omega)
  obtain ⟨r2, e2, l2⟩ := one_ok (k := k) (by omega) (p := 0 + 1) [4, 6, 3, 8, 1, 0, 16, 17] hb (by omega) (by omega) (by simp)
  simp at l2
  obtain ⟨d, rfl⟩ : ∃ d : Nat, r2 = d := ⟨r2.toNat, by omega⟩
  obtain ⟨l, p, e, h⟩ := anyPulses_l hb d k [] (wrap64 (1000 * r1)) (0 + 1 + 1) (by omega) (by omega) (by simp) (by simp; omega)
  refine ⟨l, p, ?_, h⟩
  unfold spec_anyPulses.f
  rw [e1, Option.bind_some, e2, Option.bind_some]
  exact e
theorem someLabels_l {b : List Int} (hb : Bytes b) (l : List Int) (hl : l.length ≤ 50) (n : Nat) : ∀ (i k : Nat) (x : List S40) (t q : Int), i + n = l.length → n + 1 < k → 0 ≤ q → q ≤ 200000 + 3 * i → x.length ≤ i →
    ∃ m p, spec_someLabels.l0 k l x t (i : Int) b q = some (m, p) ∧ m.length ≤ 50 := by
  induction n with
  | zero =>
    intro i k x t q h hk h0 h1 h2
    obtain ⟨k, rfl⟩ : ∃ m, k = m + 1 := ⟨k - 1, by omega⟩
    simp only [spec_someLabels.l0]
    rw [if_neg (by omega)]
    exact ⟨x, q, rfl, by omega⟩
  | succ n ih =>
    intro i k x t q h hk h0 h1 h2
    obtain ⟨k, rfl⟩ : ∃ m, k = m + 1 := ⟨k - 1, by omega⟩
    obtain ⟨r1, e1, l1, u1⟩ := pick_ok (k := k) (by omega) (p := q) 5 hb (by omega) (by omega)
    obtain ⟨r2, e2, l2⟩ := one_ok (k := k) (by omega) (p := q + 1) [0, 100000, 400000, 700000, 700001] hb (by omega) (by omega) (by simp)
    obtain ⟨r3, e3, l3⟩ := one_ok (k := k) (by omega) (p := q + 1 + 1) [1, 1, 1, 2, 0] hb (by omega) (by omega) (by simp)
    obtain ⟨r4, e4, l4⟩ := one_ok (k := k) (by omega) (p := q + 1) [1, 1, 1, 2, 0] hb (by omega) (by omega) (by simp)
    simp only [spec_someLabels.l0]
    rw [if_pos (by omega), e1, Option.bind_some, w64 (x := (i : Int) + 1) (by omega) (by omega), show (i : Int) + 1 = ((i + 1 : Nat) : Int) by omega]
    by_cases hr : r1 > 0
    · rw [if_pos hr, if_pos (by omega), e2, Option.bind_some, if_pos (by omega), e3, Option.bind_some]
      exact ih (i + 1) k _ _ _ (by omega) (by omega) (by omega) (by omega) (by simp; omega)
    · rw [if_neg hr, e4, Option.bind_some]
      exact ih (i + 1) k _ _ _ (by omega) (by omega) (by omega) (by omega) (by omega)
theorem someLabels_ok {k : Nat} (hk : 60 ≤ k) {b : List Int} (hb : Bytes b) (l : List Int) (hl : l.length ≤ 50) (p : Int) (hp : 0 ≤ p) (hp2 : p ≤ 100000) : ∃ m q, spec_someLabels.f k b p l = some (m, q) ∧ m.length ≤ 50 := by
  obtain ⟨r1, e1, l1, u1⟩ := pick_ok (k := k) (by omega) (p := p) 100 hb (by omega) (by omega)
  obtain ⟨m, q, e, h⟩ := someLabels_l hb l hl l.length 0 k [] (wrap64 (1000 * r1)) (p + 1) (by omega) (by omega) (by omega) (by omega) (by simp)
  refine ⟨m, q, ?_, h⟩
  unfold spec_someLabels.f
  rw [e1, Option.bind_some]
  exact e
theorem rdl_at (l : List S40) (i : Nat) (h : i < l.length) : rd_T40 l (i : Int) = l[i] := by unfold rd_T40; simp [List.getD_eq_getElem?_getD, h]
theorem dropl_at (l : List S40) (i : Nat) (h : i < l.length) : l.drop i = rd_T40 l (i : Int) :: l.drop (i + 1) := by
  rw [rdl_at l i h, List.drop_eq_getElem_cons h]
def inL (x : S40) : Prop := (0 ≤ x.f0 ∧ x.f0 ≤ 100000000) ∧ 0 ≤ x.f1 ∧ x.f1 ≤ 3786479999
instance (x : S40) : Decidable (inL x) := by unfold inL; infer_instance
/-- Labels in their range whose counts ascend. -/
def goodL : Option Int → List S40 → Bool
  | _, [] => true
  | none, x :: xs => decide (inL x) && goodL (some x.f0) xs
  | some p, x :: xs => decide (inL x) && (decide (p < x.f0) && goodL (some x.f0) xs)
def prevL (l : List S40) (i : Nat) : Option Int := if i = 0 then none else some (rd_T40 l ((i : Int) - 1)).f0
theorem prevL_succ (l : List S40) (i : Nat) : prevL l (i + 1) = some (rd_T40 l (i : Int)).f0 := by unfold prevL; rw [if_neg (by omega), show ((i + 1 : Nat) : Int) - 1 = (i : Int) by omega]
def okL (l : List S40) : Bool := goodL none l && decide (l.length ≤ 16)
theorem inL_f {x : S40} (h : ¬ inL x) (h1 : 0 ≤ x.f0 ∧ x.f0 ≤ 100000000) : ¬ (0 ≤ x.f1 ∧ x.f1 ≤ 3786479999) := fun g => h ⟨h1, g⟩
theorem goodL_out (l : List S40) (i : Nat) (x : S40) (xs : List S40) (h : ¬ inL x) : goodL (prevL l i) (x :: xs) = false := by
  unfold prevL
  split <;> simp only [goodL, decide_eq_false h, Bool.false_and]
theorem validL_il (l : List S40) (hl : l.length ≤ 1048576) (n : Nat) : ∀ (i k : Nat), i + n = l.length → n < k → impl_labelsValid.l0 k l l (l.length : Int) (i : Int) = some (goodL (prevL l i) (l.drop i) && decide (l.length ≤ 16)) := by
  induction n with
  | zero =>
    intro i k h hk
    obtain ⟨k, rfl⟩ : ∃ m, k = m + 1 := ⟨k - 1, by omega⟩
    simp only [impl_labelsValid.l0]
    rw [if_neg (by omega), List.drop_eq_nil_of_le (by omega)]
    unfold prevL
    split <;> (simp only [goodL, Bool.true_and]; exact congrArg some (decide_eq_decide.2 (by omega)))
  | succ n ih =>
    intro i k h hk
    obtain ⟨k, rfl⟩ : ∃ m, k = m + 1 := ⟨k - 1, by omega⟩
    have IH := ih (i + 1) k (by omega) (by omega)
    rw [prevL_succ, show ((i + 1 : Nat) : Int) = (i : Int) + 1 by omega] at IH
    simp only [impl_labelsValid.l0]
    unfold impl_isTime.f
    rw [if_pos (by omega), if_pos (by omega), if_pos (by omega), within_eq, Option.bind_some, within_eq, Option.bind_some, Option.bind_some, dropl_at l i (by omega), w64 (x := (i : Int) + 1) (by omega) (by omega), IH]
    generalize hx : rd_T40 l (i : Int) = x
    by_cases hin : inL x
    · rw [if_pos (decide_eq_true hin.1), if_pos (decide_eq_true hin.2)]
      by_cases h0 : i = 0
      · subst h0
        rw [if_neg (by omega)]
        simp only [prevL, if_true, goodL, decide_eq_true hin, Bool.true_and]
      · rw [if_pos (by omega), w64 (by omega) (by omega), if_pos (by omega), if_pos (by omega)]
        unfold prevL
        rw [if_neg h0]
        simp only [goodL, decide_eq_true hin, Bool.true_and]
        by_cases h2 : (rd_T40 l ((i : Int) - 1)).f0 < x.f0
        · rw [if_neg (by omega), decide_eq_true h2, Bool.true_and]
        · rw [if_pos (by omega), decide_eq_false h2, Bool.false_and, Bool.false_and]
    · rw [goodL_out l i x _ hin, Bool.false_and]
      by_cases h1 : 0 ≤ x.f0 ∧ x.f0 ≤ 100000000
      · rw [if_pos (decide_eq_true h1), if_neg (by simpa using inL_f hin h1)]
      · rw [if_neg (by simpa using h1)]
theorem validL_i {k : Nat} (l : List S40) (hl : l.length ≤ 1048576) (hk : l.length < k) : impl_labelsValid.f k l = some (okL l) := by
  have := validL_il l hl l.length 0 k (by omega) hk
  simpa [impl_labelsValid.f, okL, prevL] using this
theorem validL_sl (l : List S40) (hl : l.length ≤ 1048576) (n : Nat) : ∀ (i k : Nat), i + n = l.length → n < k → spec_validLabels.l0 k l (i : Int) = some (goodL (prevL l i) (l.drop i) && decide (l.length ≤ 16)) := by
  induction n with
  | zero =>
    intro i k h hk
    obtain ⟨k, rfl⟩ : ∃ m, k = m + 1 := ⟨k - 1, by omega⟩
    simp only [spec_validLabels.l0]
    rw [if_neg (by omega), List.drop_eq_nil_of_le (by omega)]
    unfold prevL
    split <;> (simp only [goodL, Bool.true_and]; exact congrArg some (decide_eq_decide.2 (by omega)))
  | succ n ih =>
    intro i k h hk
    obtain ⟨k, rfl⟩ : ∃ m, k = m + 1 := ⟨k - 1, by omega⟩
    have IH := ih (i + 1) k (by omega) (by omega)
    rw [prevL_succ, show ((i + 1 : Nat) : Int) = (i : Int) + 1 by omega] at IH
    simp only [spec_validLabels.l0]
    unfold spec_validTime.f
    rw [if_pos (by omega), if_pos (by omega), inRange_eq, Option.bind_some, inRange_eq, Option.bind_some, Option.bind_some, dropl_at l i (by omega), w64 (x := (i : Int) + 1) (by omega) (by omega), IH]
    generalize hx : rd_T40 l (i : Int) = x
    by_cases hin : inL x
    · rw [if_pos (decide_eq_true hin.1), if_pos (decide_eq_true hin.2)]
      by_cases h0 : i = 0
      · subst h0
        rw [if_neg (by omega)]
        simp only [prevL, if_true, goodL, decide_eq_true hin, Bool.true_and]
      · rw [if_pos (by omega), w64 (by omega) (by omega), if_pos (by omega), if_pos (by omega)]
        unfold prevL
        rw [if_neg h0]
        simp only [goodL, decide_eq_true hin, Bool.true_and]
        by_cases h2 : (rd_T40 l ((i : Int) - 1)).f0 < x.f0
        · rw [if_neg (by omega), decide_eq_true h2, Bool.true_and]
        · rw [if_pos (by omega), decide_eq_false h2, Bool.false_and, Bool.false_and]
    · rw [goodL_out l i x _ hin, Bool.false_and]
      by_cases h1 : 0 ≤ x.f0 ∧ x.f0 ≤ 100000000
      · rw [if_pos (decide_eq_true h1), if_neg (by simpa using inL_f hin h1)]
      · rw [if_neg (by simpa using h1)]
theorem validL_s {k : Nat} (l : List S40) (hl : l.length ≤ 1048576) (hk : l.length < k) : spec_validLabels.f k l = some (okL l) := by
  have := validL_sl l hl l.length 0 k (by omega) hk
  simpa [spec_validLabels.f, okL, prevL] using this
theorem goodL_cons {pr : Option Int} {x : S40} {xs : List S40} (h : goodL pr (x :: xs) = true) : inL x ∧ (∀ p, pr = some p → p < x.f0) ∧ goodL (some x.f0) xs = true := by
  cases pr with
  | none => simp [goodL] at h; exact ⟨h.1, fun p e => (by cases e), h.2⟩
  | some p => simp [goodL] at h; exact ⟨h.1, fun q e => (by cases e; exact h.2.1), h.2.2⟩
theorem goodL_mk {pr : Option Int} {x : S40} {xs : List S40} (h1 : inL x) (h2 : ∀ p, pr = some p → p < x.f0) (h3 : goodL (some x.f0) xs = true) : goodL pr (x :: xs) = true := by
  cases pr with
  | none => simp [goodL, h1, h3]
  | some p => simp [goodL, h1, h3, h2 p rfl]
theorem goodL_tail {pr : Option Int} {x : S40} {xs : List S40} (h : goodL pr (x :: xs) = true) : goodL pr xs = true := by
  obtain ⟨h1, h2, h3⟩ := goodL_cons h
  cases xs with
  | nil => cases pr <;> rfl
  | cons y ys =>
    obtain ⟨g1, g2, g3⟩ := goodL_cons h3
    exact goodL_mk g1 (fun p e => by have := h2 p e; have := g2 x.f0 rfl; omega) g3
theorem goodL_sub {a l : List S40} (h : List.Sublist a l) : ∀ pr, goodL pr l = true → goodL pr a = true := by
  induction h with
  | slnil => intro pr h; exact h
  | cons x _ ih => intro pr h; exact ih pr (goodL_tail h)
  | cons_cons x _ ih =>
    intro pr h
    obtain ⟨h1, h2, h3⟩ := goodL_cons h
    exact goodL_mk h1 h2 (ih _ h3)
theorem okL_sub {a l : List S40} (h : List.Sublist a l) (hl : okL l = true) : okL a = true := by
  have hlen := h.length_le
  simp only [okL, Bool.and_eq_true, decide_eq_true_eq] at hl ⊢
  exact ⟨goodL_sub h _ hl.1, by omega⟩
theorem goodL_range {l : List S40} : ∀ pr, goodL pr l = true → ∀ x ∈ l, inL x := by
  induction l with
  | nil => intro pr _ x hx; cases hx
  | cons y ys ih =>
    intro pr h x hx
    obtain ⟨h1, _, h3⟩ := goodL_cons h
    rcases List.mem_cons.1 hx with rfl | hx
    · exact h1
    · exact ih _ h3 x hx
theorem rdl_mem {l : List S40} {i : Int} (h0 : 0 ≤ i) (h1 : i < l.length) : rd_T40 l i ∈ l := by
  have hi' : i.toNat < l.length := by omega
  have e : rd_T40 l i = l[i.toNat] := by unfold rd_T40; simp [List.getD_eq_getElem?_getD, hi']
  rw [e]
  exact List.getElem_mem hi'
/-- Times that ascend. -/
def tasc : Int → List S40 → Bool
  | _, [] => true
  | p, x :: xs => decide (p < x.f1) && tasc x.f1 xs
theorem tasc_cons (p : Int) (x : S40) (xs : List S40) : tasc p (x :: xs) = (decide (p < x.f1) && tasc x.f1 xs) := rfl
def lastL (l : List S40) : S40 := rd_T40 l ((l.length : Int) - 1)
def gainOf (l : List S40) : Int := (lastL l).f0 - (rd_T40 l 0).f0 - 1000000 * ((lastL l).f1 - (rd_T40 l 0).f1)
def gain (l : List S40) : Int × Bool := if okL l = true ∧ 2 ≤ l.length ∧ tasc (rd_T40 l 0).f1 (l.drop 1) = true then (gainOf l, true) else (0, false)
theorem gain_wraps (l : List S40) (h : okL l = true) (h2 : 2 ≤ l.length) : wrap64 (wrap64 ((rd_T40 l ((l.length : Int) - 1)).f0 - (rd_T40 l 0).f0) - wrap64 (1000000 * wrap64 ((rd_T40 l ((l.length : Int) - 1)).f1 - (rd_T40 l 0).f1))) = gainOf l := by
  have h' : goodL none l = true ∧ l.length ≤ 16 := by simpa [okL] using h
  have hr := goodL_range none h'.1
  have a := hr _ (rdl_mem (l := l) (i := 0) (by omega) (by omega))
  have b := hr _ (rdl_mem (l := l) (i := (l.length : Int) - 1) (by omega) (by omega))
  unfold inL at a b
  unfold gainOf lastL
  generalize rd_T40 l 0 = x at *
  generalize rd_T40 l ((l.length : Int) - 1) = y at *
  rw [w64 (x := y.f0 - x.f0) (by omega) (by omega), w64 (x := y.f1 - x.f1) (by omega) (by omega), w64 (x := 1000000 * (y.f1 - x.f1)) (by omega) (by omega), w64 (by omega) (by omega)]
theorem gain_il (l : List S40) (h : okL l = true) (h2 : 2 ≤ l.length) (n : Nat) : ∀ (i k : Nat), 1 ≤ i → i + n = l.length → n < k → impl_GainOf.l0 k l (l.length : Int) (i : Int) = some (if tasc (rd_T40 l ((i : Int) - 1)).f1 (l.drop i) = true then (gainOf l, true) else (0, false)) := by
  have h' : goodL none l = true ∧ l.length ≤ 16 := by simpa [okL] using h
  induction n with
  | zero =>
    intro i k hi hn hk
    obtain ⟨k, rfl⟩ : ∃ m, k = m + 1 := ⟨k - 1, by omega⟩
    simp only [impl_GainOf.l0]
    rw [if_neg (by omega), w64 (x := (l.length : Int) - 1) (by omega) (by omega), if_pos (by omega), if_pos (by omega), if_pos (by omega), gain_wraps l h h2, List.drop_eq_nil_of_le (by omega)]
    rfl
  | succ n ih =>
    intro i k hi hn hk
    obtain ⟨k, rfl⟩ : ∃ m, k = m + 1 := ⟨k - 1, by omega⟩
    have IH := ih (i + 1) k (by omega) (by omega) (by omega)
    rw [show ((i + 1 : Nat) : Int) - 1 = (i : Int) by omega, show ((i + 1 : Nat) : Int) = (i : Int) + 1 by omega] at IH
    simp only [impl_GainOf.l0]
    rw [if_pos (by omega), w64 (x := (i : Int) - 1) (by omega) (by omega), if_pos (by omega), if_pos (by omega), if_pos (by omega), if_pos (by omega), w64 (by omega) (by omega), IH, dropl_at l i (by omega)]
    rw [tasc_cons]
    by_cases ht : (rd_T40 l ((i : Int) - 1)).f1 < (rd_T40 l (i : Int)).f1
    · rw [if_neg (by omega), decide_eq_true ht, Bool.true_and]
    · rw [if_pos (by omega), decide_eq_false ht, Bool.false_and]
      rfl
theorem gain_i {k : Nat} (l : List S40) (hl : l.length ≤ 1048576) (hk : l.length + 1 < k) : impl_GainOf.f k l = some (gain l) := by
  obtain ⟨k, rfl⟩ : ∃ m, k = m + 1 := ⟨k - 1, by omega⟩
  unfold impl_GainOf.f gain
  rw [validL_i l hl (by omega)]
  simp only [Option.bind_some, impl_GainOf.j0, if_true]
  by_cases h2 : (l.length : Int) < 2
  · rw [if_pos h2, if_neg (by omega)]
  · rw [if_neg h2]
    cases ho : okL l with
    | false => rw [if_pos (by simp), if_neg (by simp)]
    | true =>
      rw [if_neg (by simp)]
      have := gain_il l ho (by omega) (l.length - 1) 1 k (by omega) (by omega) (by omega)
      rw [show ((1 : Nat) : Int) = 1 from rfl, show (1 : Int) - 1 = 0 from rfl] at this
      rw [this]
      by_cases ht : tasc (rd_T40 l 0).f1 (l.drop 1) = true
      · rw [if_pos ht, if_pos ⟨rfl, by omega, ht⟩]
      · rw [if_neg ht, if_neg (fun g => ht g.2.2)]
theorem gain_sl (l : List S40) (h : okL l = true) (h2 : 2 ≤ l.length) (n : Nat) : ∀ (i k : Nat), 1 ≤ i → i + n = l.length → n < k → spec_GainOf.l0 k l (i : Int) = some (if tasc (rd_T40 l ((i : Int) - 1)).f1 (l.drop i) = true then (gainOf l, true) else (0, false)) := by
  have h' : goodL none l = true ∧ l.length ≤ 16 := by simpa [okL] using h
  induction n with
  | zero =>
    intro i k hi hn hk
    obtain ⟨k, rfl⟩ : ∃ m, k = m + 1 := ⟨k - 1, by omega⟩
    simp only [spec_GainOf.l0]
    rw [if_neg (by omega), w64 (x := (l.length : Int) - 1) (by omega) (by omega), if_pos (by omega), if_pos (by omega), if_pos (by omega), gain_wraps l h h2, List.drop_eq_nil_of_le (by omega)]
    rfl
  | succ n ih =>
    intro i k hi hn hk
    obtain ⟨k, rfl⟩ : ∃ m, k = m + 1 := ⟨k - 1, by omega⟩
    have IH := ih (i + 1) k (by omega) (by omega) (by omega)
    rw [show ((i + 1 : Nat) : Int) - 1 = (i : Int) by omega, show ((i + 1 : Nat) : Int) = (i : Int) + 1 by omega] at IH
    simp only [spec_GainOf.l0]
    rw [if_pos (by omega), if_pos (by omega), w64 (x := (i : Int) - 1) (by omega) (by omega), if_pos (by omega), if_pos (by omega), w64 (by omega) (by omega), IH, dropl_at l i (by omega)]
    rw [tasc_cons]
    by_cases ht : (rd_T40 l ((i : Int) - 1)).f1 < (rd_T40 l (i : Int)).f1
    · rw [if_neg (by omega), decide_eq_true ht, Bool.true_and]
    · rw [if_pos (by omega), decide_eq_false ht, Bool.false_and]
      rfl
theorem gain_s {k : Nat} (l : List S40) (hl : l.length ≤ 1048576) (hk : l.length + 1 < k) : spec_GainOf.f k l = some (gain l) := by
  obtain ⟨k, rfl⟩ : ∃ m, k = m + 1 := ⟨k - 1, by omega⟩
  unfold spec_GainOf.f gain
  rw [validL_s l hl (by omega), Option.bind_some]
  simp only [spec_GainOf.j0, if_true]
  cases ho : okL l with
  | false => rw [if_neg (by simp), if_neg (by simp)]
  | true =>
    rw [if_pos rfl]
    by_cases h2 : (l.length : Int) < 2
    · rw [if_pos (by simpa using h2), if_neg (by omega)]
    · rw [if_neg (by simpa using h2)]
      have := gain_sl l ho (by omega) (l.length - 1) 1 k (by omega) (by omega) (by omega)
      rw [show ((1 : Nat) : Int) = 1 from rfl, show (1 : Int) - 1 = 0 from rfl] at this
      rw [this]
      by_cases ht : tasc (rd_T40 l 0).f1 (l.drop 1) = true
      · rw [if_pos ht, if_pos ⟨rfl, by omega, ht⟩]
      · rw [if_neg ht, if_neg (fun g => ht g.2.2)]
theorem drawGain_ok {k : Nat} (hk : 60 ≤ k) {l : List Int} (hb : ∀ x ∈ l, (Lit.int .u8 x).wf = true) : ∃ m, spec_DrawGainOf.f k l = some m ∧ m.length ≤ 50 := by
  obtain ⟨b, eb, hB⟩ := newReader_ok hb
  obtain ⟨m, p, em, hm, h1, h2⟩ := anyPulses_ok (k := k) (by omega) hB
  obtain ⟨n, q, en, hn⟩ := someLabels_ok hk hB m hm p h1 h2
  refine ⟨n, ?_, hn⟩
  unfold spec_DrawGainOf.f
  rw [eb, Option.bind_some, em, Option.bind_some, en, Option.bind_some]
theorem tasc_left (u : List S40) (v : List S40) : ∀ p, tasc p (u ++ v) = true → tasc p u = true := by
  induction u with
  | nil => intro p _; rfl
  | cons x xs ih =>
    intro p h
    simp only [List.cons_append, tasc, Bool.and_eq_true] at h ⊢
    exact ⟨h.1, ih _ h.2⟩
theorem tasc_right (u : List S40) (c : S40) (v : List S40) : ∀ p, tasc p (u ++ c :: v) = true → tasc c.f1 v = true := by
  induction u with
  | nil => intro p h; simp only [List.nil_append, tasc, Bool.and_eq_true] at h; exact h.2
  | cons x xs ih =>
    intro p h
    simp only [List.cons_append, tasc, Bool.and_eq_true] at h
    exact ih _ h.2
theorem lastL_snoc (u : List S40) (c : S40) : lastL (u ++ [c]) = c := by
  unfold lastL
  rw [show (((u ++ [c]).length : Int) - 1) = ((u.length : Nat) : Int) by simp, rdl_at _ _ (by simp)]
  simp
theorem lastL_append (u : List S40) (c : S40) (v : List S40) : lastL (u ++ c :: v) = lastL (c :: v) := by
  unfold lastL
  rw [show (((u ++ c :: v).length : Int) - 1) = ((u.length + v.length : Nat) : Int) by simp; omega, show (((c :: v).length : Int) - 1) = ((v.length : Nat) : Int) by simp, rdl_at _ _ (by simp), rdl_at _ _ (by simp)]
  rw [List.getElem_append_right (by omega)]
  congr 1
  omega
theorem gain_parts (m : List S40) (h : (gain m).2 = true) (h3 : 3 ≤ m.length) (q : Nat) (hq : 1 ≤ q) (hq2 : q + 2 ≤ m.length) :
    (gain (m.take (q + 1))).2 = true ∧ (gain (m.drop q)).2 = true ∧ (gain (m.take (q + 1))).1 + (gain (m.drop q)).1 = (gain m).1 ∧ -4000000000000000 ≤ (gain m).1 ∧ (gain m).1 ≤ 4000000000000000 := by
  unfold gain at h
  split at h
  · rename_i hc
    obtain ⟨x, u, hu⟩ : ∃ x u, m.take q = x :: u := by
      cases e : m.take q with
      | nil => have := congrArg List.length e; rw [List.length_take, List.length_nil] at this; omega
      | cons x u => exact ⟨x, u, rfl⟩
    obtain ⟨c, v, hv⟩ : ∃ c v, m.drop q = c :: v := by
      cases e : m.drop q with
      | nil => have := congrArg List.length e; simp at this; omega
      | cons c v => exact ⟨c, v, rfl⟩
    have hm : m = x :: (u ++ c :: v) := by rw [← List.take_append_drop q m, hu, hv]; rfl
    have ht : m.take (q + 1) = x :: (u ++ [c]) := by
      have e1 : m.take (q + 1) = m.take q ++ [m[q]'(by omega)] := List.take_succ_eq_append_getElem (by omega)
      have e2 : m.drop q = m[q]'(by omega) :: m.drop (q + 1) := List.drop_eq_getElem_cons (by omega)
      rw [hv] at e2
      rw [e1, hu, ← (List.cons.inj e2).1]
      rfl
    have hlu : u.length + 1 = q := by have := congrArg List.length hu; simp at this; omega
    have hlv : v.length + 1 + q = m.length := by have := congrArg List.length hv; simp at this; omega
    have ok1 : okL (m.take (q + 1)) = true := okL_sub (List.take_sublist _ _) hc.1
    have ok2 : okL (m.drop q) = true := okL_sub (List.drop_sublist _ _) hc.1
    have hts := hc.2.2
    rw [hm] at hts
    have hts' : tasc x.f1 (u ++ c :: v) = true := hts
    have t1 : tasc x.f1 (u ++ [c]) = true := tasc_left (u ++ [c]) v _ (by rw [List.append_assoc]; exact hts')
    have t2 : tasc c.f1 v = true := tasc_right u c v _ hts'
    have hg : gain m = (gainOf m, true) := by unfold gain; rw [if_pos hc]
    have g1 : gain (m.take (q + 1)) = (gainOf (m.take (q + 1)), true) := by
      unfold gain
      rw [if_pos ⟨ok1, by rw [ht]; simp, by rw [ht]; exact t1⟩]
    have g2 : gain (m.drop q) = (gainOf (m.drop q), true) := by
      unfold gain
      rw [if_pos ⟨ok2, by rw [hv]; simp; omega, by rw [hv]; exact t2⟩]
    have e1 : gainOf (m.take (q + 1)) = c.f0 - x.f0 - 1000000 * (c.f1 - x.f1) := by
      unfold gainOf
      rw [ht, show lastL (x :: (u ++ [c])) = c from lastL_snoc (x :: u) c]
      rfl
    have e2 : gainOf (m.drop q) = (lastL (c :: v)).f0 - c.f0 - 1000000 * ((lastL (c :: v)).f1 - c.f1) := by
      unfold gainOf
      rw [hv]
      rfl
    have e3 : gainOf m = (lastL (c :: v)).f0 - x.f0 - 1000000 * ((lastL (c :: v)).f1 - x.f1) := by
      unfold gainOf
      conv => lhs; rw [hm]
      rw [show lastL (x :: (u ++ c :: v)) = lastL (c :: v) from lastL_append (x :: u) c v]
      rfl
    have h' : goodL none m = true ∧ m.length ≤ 16 := by simpa [okL] using hc.1
    have hr := goodL_range none h'.1
    have b1 := hr _ (rdl_mem (l := m) (i := 0) (by omega) (by omega))
    have b2 := hr _ (rdl_mem (l := m) (i := (m.length : Int) - 1) (by omega) (by omega))
    rw [hg, g1, g2]
    refine ⟨rfl, rfl, ?_, ?_, ?_⟩
    · show gainOf (m.take (q + 1)) + gainOf (m.drop q) = gainOf m
      rw [e1, e2, e3]
      omega
    · unfold inL at b1 b2
      show -4000000000000000 ≤ gainOf m
      unfold gainOf lastL
      omega
    · unfold inL at b1 b2
      show gainOf m ≤ 4000000000000000
      unfold gainOf lastL
      omega
  · cases h
end KFnGainOf
open KFnGainOf
theorem FnGainOf_calls (k : Nat) (A0 : Option Addr) (c0 : Nat) (l0 : List Int) (r : Bool) (w : World) (hr0 : Kd.C (Kd.int .u8) w A0 l0.length l0) (hc0 : l0.length ≤ c0) (h : k = 201 ∧ r = true ∧ (∃ m, spec_DrawGainOf.f 201 l0 = some m ∧ m.length ≤ 50) ∧ laws_FnGainOf.f k l0 = some r) :
    Calls Try.prog 7 #[.slice A0 l0.length c0] w fun e w' => e = .returned (.bool r) ∧ Below w.heap.size w w' := by
  obtain ⟨rfl, hr, ⟨m, hd, hm⟩, hf⟩ := h
  exact laws_FnGainOf.calls 201 A0 c0 l0 r w hr0 hc0 m hd ⟨fun r r' h1 h2 => by
    rw [gain_i m (by omega) (by omega)] at h1
    rw [gain_s m (by omega) (by omega)] at h2
    exact Option.some.inj (h1.symm.trans h2)⟩ hr hf
theorem FnGainOf (l : List Int) (_hl : l.length ≤ maxLen) (_hs : l.length * 1 ≤ 140737488351232) (hb : ∀ x ∈ l, (Lit.int .u8 x).wf = true) : ∃ k, k = 201 ∧ true = true ∧ (∃ m, spec_DrawGainOf.f 201 l = some m ∧ m.length ≤ 50) ∧ laws_FnGainOf.f k l = some true := by
  obtain ⟨m, ed, hm⟩ := drawGain_ok (k := 201) (by omega) hb
  refine ⟨201, rfl, rfl, ⟨m, ed, hm⟩, ?_⟩
  unfold laws_FnGainOf.f
  by_cases h0 : (l.length : Int) > 1048576
  · rw [if_pos h0]
  have hj : ∀ b, b = true → laws_FnGainOf.j0 201 m (gain m).1 (gain m).2 (gain m).1 (gain m).2 b = some true := fun b e => by
    subst e
    simp only [laws_FnGainOf.j0]
    simp
  rw [if_neg h0, ed, Option.bind_some, gain_i m (by omega) (by omega), Option.bind_some, gain_s m (by omega) (by omega), Option.bind_some, if_pos rfl, if_neg (by simp)]
  cases h : (gain m).2 with
  | false =>
    rw [if_neg (by simp)]
    have := hj true rfl
    rwa [h] at this
  | true =>
    rw [if_pos rfl]
    by_cases h3 : (m.length : Int) < 3
    · have := hj _ (decide_eq_true h3)
      rwa [h] at this
    · rw [decide_eq_false h3]
      simp only [laws_FnGainOf.j0]
      obtain ⟨q, hq⟩ : ∃ q : Nat, (m.length : Int) / 2 = q := ⟨((m.length : Int) / 2).toNat, by omega⟩
      obtain ⟨p1, p2, p3, p4, p5⟩ := gain_parts m h (by omega) q (by omega) (by omega)
      have l1 := (List.take_sublist (q + 1) m).length_le
      have l2 := (List.drop_sublist q m).length_le
      rw [if_neg (by simp), hq, w64 (x := (q : Int)) (by omega) (by omega), w64 (x := (q : Int) + 1) (by omega) (by omega), if_pos (by omega), if_pos (by omega), show ((q : Int) + 1).toNat = q + 1 by omega, gain_i _ (by omega) (by omega), Option.bind_some, if_pos (by omega), if_pos (by omega), Int.toNat_natCast, gain_i _ (by omega) (by omega), Option.bind_some, p1, p2, if_pos rfl, if_pos rfl, p3, w64 (by omega) (by omega)]
      simp

end Go.Proofs.Ytpkpbcfehllehaa.Pure
