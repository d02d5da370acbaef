/- Proved: valid buckets without any one of them are valid, at every code (law FnValidBuckets); no condition beyond the statement's own. -/
import Derived.Test.YtjhioifohbpdhaaPFnValidBucketsx7
import Derived.Laws.BitsLemmas
namespace Go.Proofs.Ytjhioifohbpdhaa.Pure
open Go Go.RowKit Go.Proofs.Ytjhioifohbpdhaa.PFnValidBuckets Go.Proofs.YtjhioifohbpdhaaW.PrintWords Go.Proofs.YtjhioifohbpdhaaW.PrintLast Go.Proofs.YtjhioifohbpdhaaW.PrintMore

namespace KFnValidBuckets
theorem w64 {x : Int} (h1 : -9223372036854775808 ≤ x) (h2 : x < 9223372036854775808) : wrap64 x = x := by unfold wrap64; omega
theorem i64wrap (x : Int) : IntKind.i64.wrap x = wrap64 x := by rw [IntKind.wrap_i64]; unfold wrap64; rfl
theorem tm {a b : Int} (h : 0 ≤ a) : Int.tmod a b = a % b := Int.tmod_eq_emod_of_nonneg h
theorem td {a b : Int} (h : 0 ≤ a) : Int.tdiv a b = a / b := Int.tdiv_eq_ediv_of_nonneg h
theorem sval {α : Type} {x : Option α} {a : α} (h : x = some a) {β : Type} (f : α → Option β) : x.bind f = f a := by rw [h]; rfl
theorem xor_nat (a b : Nat) (ha : a < 2 ^ 62) (hb : b < 2 ^ 62) : Go.bits .xor .i64 (a : Int) (b : Int) = ((a ^^^ b : Nat) : Int) := by
  have hx := Nat.xor_lt_two_pow ha hb
  have e : Go.bits .xor .i64 (a : Int) (b : Int) = wrap64 ((BitVec.ofInt 64 (a : Int) ^^^ BitVec.ofInt 64 (b : Int)).toNat : Int) := by rw [← i64wrap]; rfl
  rw [e, BitVec.ofInt_natCast, BitVec.ofInt_natCast, BitVec.toNat_xor, BitVec.toNat_ofNat, BitVec.toNat_ofNat, Nat.mod_eq_of_lt (by omega), Nat.mod_eq_of_lt (by omega)]
  exact w64 (by omega) (by omega)
theorem xor_ge (a b : Int) (h1 : 0 ≤ a) (h2 : a < 4611686018427387904) (h3 : 0 ≤ b) (h4 : b < 4611686018427387904) : 0 ≤ Go.bits .xor .i64 a b := by
  obtain ⟨x, rfl⟩ := Int.eq_ofNat_of_zero_le h1
  obtain ⟨y, rfl⟩ := Int.eq_ofNat_of_zero_le h3
  rw [xor_nat x y (by omega) (by omega)]
  exact Int.natCast_nonneg _
theorem rd_in {b : List Int} {lo hi : Int} (h : ∀ x ∈ b, lo ≤ x ∧ x ≤ hi) {i : Int} (h0 : 0 ≤ i) (h1 : i < b.length) : lo ≤ rd b i ∧ rd b i ≤ hi := by
  have hi' : i.toNat < b.length := by omega
  have e : rd b i = b[i.toNat] := by unfold rd; simp [List.getD_eq_getElem?_getD, List.getElem?_eq_getElem hi']
  rw [e]
  exact h _ (List.getElem_mem hi')
theorem rd_mem {b : List Int} {i : Int} (h0 : 0 ≤ i) (h1 : i < b.length) : rd b i ∈ b := by
  have hi' : i.toNat < b.length := by omega
  have e : rd b i = b[i.toNat] := by unfold rd; simp [List.getD_eq_getElem?_getD, List.getElem?_eq_getElem hi']
  rw [e]
  exact List.getElem_mem hi'
/-- What the reader holds: bytes, no more than two thousand. -/
def Bytes (b : List Int) : Prop := (∀ x ∈ b, 0 ≤ x ∧ x ≤ 255) ∧ b.length ≤ 2000
theorem pick_ok {k : Nat} (hk : 1 ≤ k) {b : List Int} {p : Int} (n : Int) (hb : Bytes b) (hp : 0 ≤ p) (hp2 : p ≤ 1000000000) :
    ∃ r, spec_reader_pick.f k b p n = some (r, p + 1) ∧ 0 ≤ r ∧ (1 ≤ n → r < n) := by
  obtain ⟨k, rfl⟩ : ∃ m, k = m + 1 := ⟨k - 1, by omega⟩
  obtain ⟨hb, hl⟩ := hb
  unfold spec_reader_pick.f
  rw [w64 (x := p + 1) (by omega) (by omega)]
  by_cases hn : n < 1
  · exact ⟨0, by rw [if_pos hn]; simp only [spec_reader_pick.j0, if_true], by omega, fun h => by omega⟩
  rw [if_neg hn]
  by_cases h0 : (b.length : Int) = 0
  · exact ⟨0, by rw [beq_iff_eq.2 h0]; simp only [spec_reader_pick.j0, if_true], by omega, fun h => by omega⟩
  rw [beq_eq_false_iff_ne.2 h0]
  simp only [spec_reader_pick.j0]
  rw [w64 (x := p + 1 - 1) (by omega) (by omega), show p + 1 - 1 = p by omega, if_neg (by simp)]
  by_cases h1 : p < (b.length : Int)
  · have hr := rd_in hb hp h1
    rw [if_pos h1, if_pos hp, if_neg (by omega), w64 (by omega) (by omega), tm hr.1]
    exact ⟨_, rfl, Int.emod_nonneg _ (by omega), fun _ => Int.emod_lt_of_pos _ (by omega)⟩
  · have hL : 0 < (b.length : Int) := by omega
    have m1 := Int.emod_nonneg p (b := b.length) (by omega)
    have m2 := Int.emod_lt_of_pos p hL
    have m3 := Int.emod_nonneg (p * 7 + 3) (b := b.length) (by omega)
    have m4 := Int.emod_lt_of_pos (p * 7 + 3) hL
    have d1 := Int.ediv_nonneg hp (b := b.length) (by omega)
    have d2 : p / (b.length : Int) ≤ p := Int.ediv_le_self _ hp
    have r1 := rd_in hb m1 m2
    have r2 := rd_in hb m3 m4
    rw [w64 (x := p * 7) (by omega) (by omega), w64 (x := p * 7 + 3) (by omega) (by omega), tm hp, tm (show 0 ≤ p * 7 + 3 by omega), td hp]
    rw [if_neg h1, if_neg h0, if_pos m1, if_pos m2, if_pos m3, if_pos m4, if_neg (by omega)]
    generalize rd b (p % (b.length : Int)) = A at r1 ⊢
    generalize rd b ((p * 7 + 3) % (b.length : Int)) = B at r2 ⊢
    generalize p / (b.length : Int) = q at d1 d2 ⊢
    rw [w64 (x := A) (by omega) (by omega), w64 (x := B) (by omega) (by omega), w64 (x := q) (by omega) (by omega), w64 (x := A * 131) (by omega) (by omega), w64 (x := B * 1117) (by omega) (by omega), w64 (x := p * 29) (by omega) (by omega), w64 (x := q * 53) (by omega) (by omega), w64 (x := A * 131 + B * 1117) (by omega) (by omega), w64 (x := A * 131 + B * 1117 + p * 29) (by omega) (by omega), w64 (x := A * 131 + B * 1117 + p * 29 + q * 53) (by omega) (by omega)]
    rw [td (show 0 ≤ A * 131 + B * 1117 + p * 29 + q * 53 by omega), w64 (x := (A * 131 + B * 1117 + p * 29 + q * 53) / 64) (by omega) (by omega)]
    have hx := xor_ge (A * 131 + B * 1117 + p * 29 + q * 53) ((A * 131 + B * 1117 + p * 29 + q * 53) / 64) (by omega) (by omega) (by omega) (by omega)
    rw [tm hx]
    exact ⟨_, rfl, Int.emod_nonneg _ (by omega), fun _ => Int.emod_lt_of_pos _ (by omega)⟩
theorem newReader_ok {l : List Int} (hb : ∀ x ∈ l, (Lit.int .u8 x).wf = true) : ∃ b, spec_newReader.f l = some (b, 0) ∧ Bytes b := by
  have hb' : ∀ x ∈ l, 0 ≤ x ∧ x ≤ 255 := fun x hx => by
    have := hb x hx
    simp [Lit.wf, IntKind.min, IntKind.max, IntKind.signed, IntKind.bits] at this
    omega
  unfold spec_newReader.f
  by_cases h : (l.length : Int) > 2000
  · exact ⟨l.take 2000, by rw [if_pos h, if_pos (by omega)], fun x hx => hb' x (List.mem_of_mem_take hx), by simp; omega⟩
  · exact ⟨l, by rw [if_neg h], hb', by omega⟩
theorem one_ok {k : Nat} (hk : 1 ≤ k) {b : List Int} {p : Int} (l : List Int) (hb : Bytes b) (hp : 0 ≤ p) (hp2 : p ≤ 1000000000) (hl : 1 ≤ (l.length : Int)) :
    ∃ r, spec_reader_one.f k b p l = some (r, p + 1) ∧ r ∈ l := by
  obtain ⟨r, e, h0, h1⟩ := pick_ok hk (l.length : Int) hb hp hp2
  unfold spec_reader_one.f
  rw [e]
  simp only [Option.bind_some]
  rw [if_pos h0, if_pos (h1 hl)]
  exact ⟨_, rfl, rd_mem h0 (h1 hl)⟩
theorem within_eq (n lo hi : Int) : impl_within.f n lo hi = some (decide (lo ≤ n ∧ n ≤ hi)) := by
  unfold impl_within.f
  by_cases h : lo ≤ n <;> simp [h]
theorem inRange_eq (n lo hi : Int) : spec_inRange.f n lo hi = some (decide (lo ≤ n ∧ n ≤ hi)) := by
  unfold spec_inRange.f
  by_cases h : lo ≤ n <;> simp [h]
/-- A bucket in its ranges. -/
def inB (x : S37) : Bool := decide (0 ≤ x.f0 ∧ x.f0 ≤ 99) && (decide (0 ≤ x.f1 ∧ x.f1 ≤ 5) && decide (0 ≤ x.f2 ∧ x.f2 ≤ 3786479999))
/-- Buckets in their ranges whose clients ascend, behind one that may stand ahead of them. -/
def goodB : Option Int → List S37 → Bool
  | _, [] => true
  | none, x :: xs => inB x && goodB (some x.f0) xs
  | some p, x :: xs => inB x && (decide (p < x.f0) && goodB (some x.f0) xs)
def okB (l : List S37) : Bool := goodB none l && decide (l.length ≤ 8)
theorem rdb_at (l : List S37) (i : Nat) (h : i < l.length) : rd_T37 l (i : Int) = l[i] := by unfold rd_T37; simp [List.getD_eq_getElem?_getD, h]
def prevB (l : List S37) (i : Nat) : Option Int := if i = 0 then none else some (rd_T37 l ((i : Int) - 1)).f0
theorem prevB_succ (l : List S37) (i : Nat) : prevB l (i + 1) = some (rd_T37 l (i : Int)).f0 := by unfold prevB; rw [if_neg (by omega)]; congr 3; omega
theorem dropB_at (l : List S37) (i : Nat) (h : i < l.length) : l.drop i = rd_T37 l (i : Int) :: l.drop (i + 1) := by
  rw [rdb_at l i h, List.drop_eq_getElem_cons h]
theorem goodB_cons {pr : Option Int} {x : S37} {xs : List S37} (h : goodB pr (x :: xs) = true) : inB x = true ∧ (∀ p, pr = some p → p < x.f0) ∧ goodB (some x.f0) xs = true := by
  cases pr with
  | none => simp [goodB] at h; exact ⟨h.1, fun p e => (by cases e), h.2⟩
  | some p => simp [goodB] at h; exact ⟨h.1, fun q e => (by cases e; exact h.2.1), h.2.2⟩
theorem goodB_mk {pr : Option Int} {x : S37} {xs : List S37} (h1 : inB x = true) (h2 : ∀ p, pr = some p → p < x.f0) (h3 : goodB (some x.f0) xs = true) : goodB pr (x :: xs) = true := by
  cases pr with
  | none => simp [goodB, h1, h3]
  | some p => simp [goodB, h1, h3, h2 p rfl]
theorem goodB_tail {pr : Option Int} {x : S37} {xs : List S37} (h : goodB pr (x :: xs) = true) : goodB pr xs = true := by
  obtain ⟨h1, h2, h3⟩ := goodB_cons h
  cases xs with
  | nil => cases pr <;> rfl
  | cons y ys =>
    obtain ⟨g1, g2, g3⟩ := goodB_cons h3
    exact goodB_mk g1 (fun p e => by have := h2 p e; have := g2 x.f0 rfl; omega) g3
theorem goodB_sub {a l : List S37} (h : List.Sublist a l) : ∀ pr, goodB pr l = true → goodB pr a = true := by
  induction h with
  | slnil => intro pr h; exact h
  | cons x _ ih => intro pr h; exact ih pr (goodB_tail h)
  | cons_cons x _ ih =>
    intro pr h
    obtain ⟨h1, h2, h3⟩ := goodB_cons h
    exact goodB_mk h1 h2 (ih _ h3)
theorem okB_sub {a l : List S37} (h : List.Sublist a l) (hl : okB l = true) : okB a = true := by
  have hlen := h.length_le
  simp only [okB, Bool.and_eq_true, decide_eq_true_eq] at hl ⊢
  exact ⟨goodB_sub h _ hl.1, by omega⟩
theorem goodB_range {l : List S37} : ∀ pr, goodB pr l = true → ∀ x ∈ l, inB x = true := by
  induction l with
  | nil => intro pr _ x hx; cases hx
  | cons y ys ih =>
    intro pr h x hx
    obtain ⟨h1, _, h3⟩ := goodB_cons h
    rcases List.mem_cons.1 hx with rfl | hx
    · exact h1
    · exact ih _ h3 x hx
theorem goodB_lt {l : List S37} : ∀ {p : Int}, goodB (some p) l = true → ∀ x ∈ l, p < x.f0 := by
  induction l with
  | nil => intro p _ x hx; cases hx
  | cons y ys ih =>
    intro p h x hx
    obtain ⟨_, h2, h3⟩ := goodB_cons h
    have := h2 p rfl
    rcases List.mem_cons.1 hx with rfl | hx
    · exact this
    · have := ih h3 x hx; omega
theorem inB_of {x : S37} (h : inB x = true) : (0 ≤ x.f0 ∧ x.f0 ≤ 99) ∧ (0 ≤ x.f1 ∧ x.f1 ≤ 5) ∧ (0 ≤ x.f2 ∧ x.f2 ≤ 3786479999) := by
  simpa [inB] using h
theorem inB_mk {x : S37} (h1 : 0 ≤ x.f0 ∧ x.f0 ≤ 99) (h2 : 0 ≤ x.f1 ∧ x.f1 ≤ 5) (h3 : 0 ≤ x.f2 ∧ x.f2 ≤ 3786479999) : inB x = true := by
  simp [inB, h1, h2, h3]
theorem validB_i_time (t : Int) : impl_isTime.f t = some (decide (0 ≤ t ∧ t ≤ 3786479999)) := by
  unfold impl_isTime.f
  rw [within_eq, Option.bind_some]
theorem validB_i_l (l : List S37) (hl : l.length ≤ 4000000) (n : Nat) : ∀ (i k : Nat), i + n = l.length → n < k → impl_ValidBuckets.l0 k l l (l.length : Int) (i : Int) = some (goodB (prevB l i) (l.drop i) && decide (l.length ≤ 8)) := by
  induction n with
  | zero =>
    intro i k h hk
    obtain ⟨k, rfl⟩ : ∃ m, k = m + 1 := ⟨k - 1, by omega⟩
    simp only [impl_ValidBuckets.l0]
    rw [if_neg (by omega), List.drop_eq_nil_of_le (by omega)]
    unfold prevB
    split <;> (simp only [goodB, Bool.true_and]; exact congrArg some (decide_eq_decide.2 (by omega)))
  | succ n ih =>
    intro i k h hk
    obtain ⟨k, rfl⟩ : ∃ m, k = m + 1 := ⟨k - 1, by omega⟩
    have IH := ih (i + 1) k (by omega) (by omega)
    rw [prevB_succ, show ((i + 1 : Nat) : Int) = (i : Int) + 1 by omega] at IH
    simp only [impl_ValidBuckets.l0]
    rw [if_pos (by omega), if_pos (by omega), if_pos (by omega), within_eq, Option.bind_some, within_eq, Option.bind_some, validB_i_time, Option.bind_some, dropB_at l i (by omega), w64 (x := (i : Int) + 1) (by omega) (by omega), IH]
    by_cases h1 : 0 ≤ (rd_T37 l (i : Int)).f0 ∧ (rd_T37 l (i : Int)).f0 ≤ 99
    rotate_left
    · rw [if_neg (by simpa using h1)]
      unfold prevB
      split <;> simp only [goodB, inB, decide_eq_false h1, Bool.false_and]
    rw [if_pos (decide_eq_true h1)]
    by_cases h2 : 0 ≤ (rd_T37 l (i : Int)).f1 ∧ (rd_T37 l (i : Int)).f1 ≤ 5
    rotate_left
    · rw [if_neg (by simpa using h2)]
      unfold prevB
      split <;> simp only [goodB, inB, decide_eq_true h1, decide_eq_false h2, Bool.false_and, Bool.true_and]
    rw [if_pos (decide_eq_true h2)]
    by_cases h3 : 0 ≤ (rd_T37 l (i : Int)).f2 ∧ (rd_T37 l (i : Int)).f2 ≤ 3786479999
    rotate_left
    · rw [if_neg (by simpa using h3)]
      unfold prevB
      split <;> simp only [goodB, inB, decide_eq_true h1, decide_eq_true h2, decide_eq_false h3, Bool.false_and, Bool.true_and]
    rw [if_pos (decide_eq_true h3)]
    by_cases h0 : i = 0
    · subst h0
      rw [if_neg (by omega)]
      simp only [prevB, if_true, goodB, inB, decide_eq_true h1, decide_eq_true h2, decide_eq_true h3, Bool.true_and]
    · rw [if_pos (by omega), w64 (by omega) (by omega), if_pos (by omega), if_pos (by omega)]
      unfold prevB
      rw [if_neg h0]
      simp only [goodB, inB, decide_eq_true h1, decide_eq_true h2, decide_eq_true h3, Bool.true_and]
      by_cases h4 : (rd_T37 l ((i : Int) - 1)).f0 < (rd_T37 l (i : Int)).f0
      · rw [if_neg (by omega), decide_eq_true h4, Bool.true_and]
      · rw [if_pos (by omega), decide_eq_false h4, Bool.false_and, Bool.false_and]
theorem validB_i {k : Nat} (l : List S37) (hl : l.length ≤ 4000000) (hk : l.length < k) : impl_ValidBuckets.f k l = some (okB l) := by
  have := validB_i_l l hl l.length 0 k (by omega) hk
  simpa [impl_ValidBuckets.f, okB, prevB] using this
theorem validB_s_time (t : Int) : spec_validTime.f t = some (decide (0 ≤ t ∧ t ≤ 3786479999)) := by
  unfold spec_validTime.f
  rw [inRange_eq, Option.bind_some]
theorem validB_s_l (l : List S37) (hl : l.length ≤ 4000000) (n : Nat) : ∀ (i k : Nat), i + n = l.length → n < k → spec_validBuckets.l0 k l (i : Int) = some (goodB (prevB l i) (l.drop i) && decide (l.length ≤ 8)) := by
  induction n with
  | zero =>
    intro i k h hk
    obtain ⟨k, rfl⟩ : ∃ m, k = m + 1 := ⟨k - 1, by omega⟩
    simp only [spec_validBuckets.l0]
    rw [if_neg (by omega), List.drop_eq_nil_of_le (by omega)]
    unfold prevB
    split <;> (simp only [goodB, Bool.true_and]; exact congrArg some (decide_eq_decide.2 (by omega)))
  | succ n ih =>
    intro i k h hk
    obtain ⟨k, rfl⟩ : ∃ m, k = m + 1 := ⟨k - 1, by omega⟩
    have IH := ih (i + 1) k (by omega) (by omega)
    rw [prevB_succ, show ((i + 1 : Nat) : Int) = (i : Int) + 1 by omega] at IH
    simp only [spec_validBuckets.l0]
    rw [if_pos (by omega), if_pos (by omega), inRange_eq, Option.bind_some, inRange_eq, Option.bind_some, validB_s_time, Option.bind_some, dropB_at l i (by omega), w64 (x := (i : Int) + 1) (by omega) (by omega), IH]
    by_cases h1 : 0 ≤ (rd_T37 l (i : Int)).f0 ∧ (rd_T37 l (i : Int)).f0 ≤ 99
    rotate_left
    · rw [if_neg (by simpa using h1)]
      unfold prevB
      split <;> simp only [goodB, inB, decide_eq_false h1, Bool.false_and]
    rw [if_pos (decide_eq_true h1)]
    by_cases h2 : 0 ≤ (rd_T37 l (i : Int)).f1 ∧ (rd_T37 l (i : Int)).f1 ≤ 5
    rotate_left
    · rw [if_neg (by simpa using h2)]
      unfold prevB
      split <;> simp only [goodB, inB, decide_eq_true h1, decide_eq_false h2, Bool.false_and, Bool.true_and]
    rw [if_pos (decide_eq_true h2)]
    by_cases h3 : 0 ≤ (rd_T37 l (i : Int)).f2 ∧ (rd_T37 l (i : Int)).f2 ≤ 3786479999
    rotate_left
    · rw [if_neg (by simpa using h3)]
      unfold prevB
      split <;> simp only [goodB, inB, decide_eq_true h1, decide_eq_true h2, decide_eq_false h3, Bool.false_and, Bool.true_and]
    rw [if_pos (decide_eq_true h3)]
    by_cases h0 : i = 0
    · subst h0
      rw [if_neg (by omega)]
      simp only [prevB, if_true, goodB, inB, decide_eq_true h1, decide_eq_true h2, decide_eq_true h3, Bool.true_and]
    · rw [if_pos (by omega), w64 (by omega) (by omega), if_pos (by omega), if_pos (by omega)]
      unfold prevB
      rw [if_neg h0]
      simp only [goodB, inB, decide_eq_true h1, decide_eq_true h2, decide_eq_true h3, Bool.true_and]
      by_cases h4 : (rd_T37 l ((i : Int) - 1)).f0 < (rd_T37 l (i : Int)).f0
      · rw [if_neg (by omega), decide_eq_true h4, Bool.true_and]
      · rw [if_pos (by omega), decide_eq_false h4, Bool.false_and, Bool.false_and]
theorem validB_s {k : Nat} (l : List S37) (hl : l.length ≤ 4000000) (hk : l.length < k) : spec_validBuckets.f k l = some (okB l) := by
  have := validB_s_l l hl l.length 0 k (by omega) hk
  simpa [spec_validBuckets.f, okB, prevB] using this
/-- The tokens of a bucket at a time. -/
def tokB (x : S37) (t : Int) : Int := mn 5 (x.f1 + mx 0 (t - x.f2) / 8)
/-- The tokens of a client at a time. -/
def toks (l : List S37) (c t : Int) : Int := if okB l = true ∧ 0 ≤ t ∧ t ≤ 3786479999 then (match l.find? (fun x => x.f0 == c) with | some x => tokB x t | none => 5) else -1
def early (l : List S37) (c t : Int) : Bool := l.any (fun x => x.f0 == c && decide (t < x.f2))
theorem mx0_nonneg (x : Int) : 0 ≤ mx 0 x := by unfold mx; split <;> omega
theorem mx0_le {x m : Int} (h : x ≤ m) (h0 : 0 ≤ m) : mx 0 x ≤ m := by unfold mx; split <;> omega
theorem tokB_range {x : S37} (t : Int) (h : 0 ≤ x.f1) : 0 ≤ tokB x t ∧ tokB x t ≤ 5 := by
  have := mx0_nonneg (t - x.f2)
  have := Int.ediv_nonneg this (show (0 : Int) ≤ 8 by omega)
  unfold tokB mn
  split <;> omega
theorem toks_range (l : List S37) (c t : Int) : -1 ≤ toks l c t ∧ toks l c t ≤ 5 := by
  unfold toks
  split
  next h =>
    split
    next x hx =>
      have hm := List.mem_of_find?_eq_some hx
      have hg : goodB none l = true := by have := h.1; simp [okB] at this; exact this.1
      have := inB_of (goodB_range _ hg x hm)
      have := tokB_range t (x := x) (by omega)
      omega
    next => omega
  next => omega
theorem okB_len {l : List S37} (h : okB l = true) : l.length ≤ 8 := by simp [okB] at h; exact h.2
theorem okB_good {l : List S37} (h : okB l = true) : goodB none l = true := by simp [okB] at h; exact h.1
theorem tokB_s {x : S37} {t : Int} (h : inB x = true) (h0 : 0 ≤ t) (h1 : t ≤ 3786479999) : spec_tokensAt.f x.f0 x.f1 x.f2 t = some (tokB x t) := by
  have hx := inB_of h
  unfold spec_tokensAt.f tokB
  have h2 := mx0_nonneg (t - x.f2)
  have h3 := mx0_le (x := t - x.f2) (m := 3786479999) (by omega) (by omega)
  rw [w64 (x := t - x.f2) (by omega) (by omega)]
  have h4 := Int.ediv_nonneg h2 (show (0 : Int) ≤ 8 by omega)
  have h5 : mx 0 (t - x.f2) / 8 ≤ mx 0 (t - x.f2) := Int.ediv_le_self _ h2
  rw [w64 (x := mx 0 (t - x.f2) / 8) (by omega) (by omega), w64 (by omega) (by omega)]
theorem toks_sl (l : List S37) (c t : Int) (hl : l.length ≤ 1048600) (h0 : 0 ≤ t) (h1 : t ≤ 3786479999) (hin : ∀ x ∈ l, inB x = true) (n : Nat) : ∀ (i k : Nat), i + n = l.length → n < k → spec_TokensAt.l0 k l c t (i : Int) = some (match (l.drop i).find? (fun x => x.f0 == c) with | some x => tokB x t | none => 5) := by
  induction n with
  | zero =>
    intro i k h hk
    obtain ⟨k, rfl⟩ : ∃ m, k = m + 1 := ⟨k - 1, by omega⟩
    simp only [spec_TokensAt.l0]
    rw [if_neg (by omega), List.drop_eq_nil_of_le (by omega)]
    rfl
  | succ n ih =>
    intro i k h hk
    obtain ⟨k, rfl⟩ : ∃ m, k = m + 1 := ⟨k - 1, by omega⟩
    have IH := ih (i + 1) k (by omega) (by omega)
    rw [show ((i + 1 : Nat) : Int) = (i : Int) + 1 by omega] at IH
    simp only [spec_TokensAt.l0]
    rw [if_pos (by omega), if_pos (by omega), w64 (x := (i : Int) + 1) (by omega) (by omega), IH, dropB_at l i (by omega)]
    have hx : inB (rd_T37 l (i : Int)) = true := hin _ (by rw [rdb_at l i (by omega)]; exact List.getElem_mem _)
    by_cases hc : (rd_T37 l (i : Int)).f0 = c
    · rw [if_pos hc, tokB_s hx h0 h1, Option.bind_some, List.find?_cons_of_pos (by simpa using hc)]
    · rw [if_neg hc, List.find?_cons_of_neg (by simpa using hc)]
theorem toks_s {k : Nat} (l : List S37) (c t : Int) (hl : l.length ≤ 1048600) (hk : l.length + 1 < k) : spec_TokensAt.f k l c t = some (toks l c t) := by
  obtain ⟨k, rfl⟩ : ∃ m, k = m + 1 := ⟨k - 1, by omega⟩
  unfold spec_TokensAt.f toks
  rw [validB_s l (by omega) (by omega), Option.bind_some]
  cases h : okB l with
  | false => simp [spec_TokensAt.j0]
  | true =>
    rw [if_pos rfl, validB_s_time, Option.bind_some]
    by_cases ht : 0 ≤ t ∧ t ≤ 3786479999
    · simp only [spec_TokensAt.j0, decide_eq_true ht, Bool.not_true, Bool.false_eq_true, if_false, true_and, if_pos ht]
      have := toks_sl l c t hl ht.1 ht.2 (goodB_range _ (okB_good h)) l.length 0 k (by omega) (by omega)
      simpa using this
    · simp only [spec_TokensAt.j0, decide_eq_false ht, Bool.not_false, if_true, true_and, if_neg ht]
theorem inTime_sl (l : List S37) (c t : Int) (hl : l.length ≤ 1048600) (n : Nat) : ∀ (i k : Nat), i + n = l.length → n < k → spec_inTime.l0 k l c t (i : Int) = some (!early (l.drop i) c t) := by
  induction n with
  | zero =>
    intro i k h hk
    obtain ⟨k, rfl⟩ : ∃ m, k = m + 1 := ⟨k - 1, by omega⟩
    simp only [spec_inTime.l0]
    rw [if_neg (by omega), List.drop_eq_nil_of_le (by omega)]
    rfl
  | succ n ih =>
    intro i k h hk
    obtain ⟨k, rfl⟩ : ∃ m, k = m + 1 := ⟨k - 1, by omega⟩
    have IH := ih (i + 1) k (by omega) (by omega)
    rw [show ((i + 1 : Nat) : Int) = (i : Int) + 1 by omega] at IH
    simp only [spec_inTime.l0]
    rw [if_pos (by omega), if_pos (by omega), w64 (x := (i : Int) + 1) (by omega) (by omega), IH, dropB_at l i (by omega)]
    unfold early
    rw [List.any_cons]
    by_cases hc : (rd_T37 l (i : Int)).f0 = c
    · rw [if_pos hc, beq_iff_eq.2 hc, Bool.true_and]
      by_cases ht : t < (rd_T37 l (i : Int)).f2
      · rw [if_pos ht, decide_eq_true ht]; rfl
      · rw [if_neg ht, decide_eq_false ht, Bool.false_or]
    · rw [if_neg hc, beq_false_of_ne hc, Bool.false_and, Bool.false_or]
theorem inTime_s {k : Nat} (l : List S37) (c t : Int) (hl : l.length ≤ 1048600) (hk : l.length < k) : spec_inTime.f k l c t = some (!early l c t) := by
  have := inTime_sl l c t hl l.length 0 k (by omega) hk
  simpa [spec_inTime.f] using this
/-- The buckets behind a client's question that is answered. -/
def putB (l : List S37) (c n t : Int) : List S37 := l.filter (fun x => decide (x.f0 < c)) ++ [⟨c, n, t⟩] ++ l.filter (fun x => decide (c < x.f0))
def takeB (l : List S37) (c t : Int) : List S37 × Bool × Bool :=
  if toks l c t < 0 ∨ ¬ (0 ≤ c ∧ c ≤ 99) ∨ early l c t = true then ([], false, false)
  else if toks l c t = 0 then (l, false, true)
  else if okB (putB l c (toks l c t - 1) t) = true then (putB l c (toks l c t - 1) t, true, true) else ([], false, false)
theorem take_sl1 (l : List S37) (c : Int) (hl : l.length ≤ 1048600) (n : Nat) : ∀ (i k : Nat) (o : List S37), i + n = l.length → o.length + n ≤ 3000000 → o.length + n + n + 1 < k → spec_TakeToken.l1 k l c o (i : Int) = some (if okB (o ++ (l.drop i).filter (fun x => decide (c < x.f0))) = true then (o ++ (l.drop i).filter (fun x => decide (c < x.f0)), true, true) else ([], false, false)) := by
  induction n with
  | zero =>
    intro i k o h ho hk
    obtain ⟨k, rfl⟩ : ∃ m, k = m + 1 := ⟨k - 1, by omega⟩
    simp only [spec_TakeToken.l1]
    rw [if_neg (by omega), List.drop_eq_nil_of_le (by omega), List.filter_nil, List.append_nil, validB_s o (by omega) (by omega), Option.bind_some]
    cases okB o <;> rfl
  | succ n ih =>
    intro i k o h ho hk
    obtain ⟨k, rfl⟩ : ∃ m, k = m + 1 := ⟨k - 1, by omega⟩
    simp only [spec_TakeToken.l1]
    rw [if_pos (by omega), if_pos (by omega), w64 (x := (i : Int) + 1) (by omega) (by omega), dropB_at l i (by omega)]
    by_cases hc : c < (rd_T37 l (i : Int)).f0
    · rw [if_pos hc, if_pos (by omega), List.filter_cons_of_pos (by simpa using hc)]
      have IH := ih (i + 1) k (o ++ [rd_T37 l (i : Int)]) (by omega) (by simp; omega) (by simp; omega)
      rw [show ((i + 1 : Nat) : Int) = (i : Int) + 1 by omega, List.append_assoc, List.singleton_append] at IH
      exact IH
    · rw [if_neg (by omega), List.filter_cons_of_neg (by simpa using hc)]
      have IH := ih (i + 1) k o (by omega) (by omega) (by omega)
      rw [show ((i + 1 : Nat) : Int) = (i : Int) + 1 by omega] at IH
      exact IH
theorem take_sl (l : List S37) (c t m : Int) (hm : -10 < m ∧ m < 10) (hl : l.length ≤ 1048600) (n : Nat) : ∀ (i k : Nat) (o : List S37), i + n = l.length → o.length ≤ i → 4 * l.length + 10 < k + i → spec_TakeToken.l0 k l c t o m (i : Int) = some (if okB (o ++ (l.drop i).filter (fun x => decide (x.f0 < c)) ++ [⟨c, m - 1, t⟩] ++ l.filter (fun x => decide (c < x.f0))) = true then (o ++ (l.drop i).filter (fun x => decide (x.f0 < c)) ++ [⟨c, m - 1, t⟩] ++ l.filter (fun x => decide (c < x.f0)), true, true) else ([], false, false)) := by
  induction n with
  | zero =>
    intro i k o h ho hk
    obtain ⟨k, rfl⟩ : ∃ m, k = m + 1 := ⟨k - 1, by omega⟩
    simp only [spec_TakeToken.l0]
    rw [if_neg (by omega), List.drop_eq_nil_of_le (by omega), List.filter_nil, List.append_nil, if_pos (by omega), w64 (x := m - 1) (by omega) (by omega)]
    have := take_sl1 l c (by omega) l.length 0 k (o ++ [⟨c, m - 1, t⟩]) (by omega) (by simp; omega) (by simp; omega)
    simpa using this
  | succ n ih =>
    intro i k o h ho hk
    obtain ⟨k, rfl⟩ : ∃ m, k = m + 1 := ⟨k - 1, by omega⟩
    simp only [spec_TakeToken.l0]
    rw [if_pos (by omega), if_pos (by omega), w64 (x := (i : Int) + 1) (by omega) (by omega), dropB_at l i (by omega)]
    by_cases hc : (rd_T37 l (i : Int)).f0 < c
    · rw [if_pos hc, if_pos (by omega), List.filter_cons_of_pos (by simpa using hc)]
      have IH := ih (i + 1) k (o ++ [rd_T37 l (i : Int)]) (by omega) (by simp; omega) (by omega)
      rw [show ((i + 1 : Nat) : Int) = (i : Int) + 1 by omega, List.append_assoc o, List.singleton_append] at IH
      exact IH
    · rw [if_neg (by omega), List.filter_cons_of_neg (by simpa using hc)]
      have IH := ih (i + 1) k o (by omega) (by omega) (by omega)
      rw [show ((i + 1 : Nat) : Int) = (i : Int) + 1 by omega] at IH
      exact IH
theorem take_s {k : Nat} (l : List S37) (c t : Int) (hl : l.length ≤ 1048600) (hk : 4 * l.length + 20 < k) : spec_TakeToken.f k l c t = some (takeB l c t) := by
  obtain ⟨k, rfl⟩ : ∃ m, k = m + 1 := ⟨k - 1, by omega⟩
  have hr := toks_range l c t
  unfold spec_TakeToken.f takeB
  rw [Option.bind_some, toks_s l c t (by omega) (by omega), Option.bind_some, inRange_eq, Option.bind_some]
  simp only [spec_TakeToken.j0]
  by_cases h1 : toks l c t < 0
  · rw [if_pos h1, if_pos trivial, if_pos (Or.inl h1)]
  rw [if_neg h1]
  by_cases h2 : 0 ≤ c ∧ c ≤ 99
  rotate_left
  · rw [if_pos (show (!decide (0 ≤ c ∧ c ≤ 99)) = true by rw [decide_eq_false h2]; rfl), if_pos (Or.inr (Or.inl h2))]
  rw [if_neg (show ¬ (!decide (0 ≤ c ∧ c ≤ 99)) = true by rw [decide_eq_true h2]; simp), inTime_s l c t (by omega) (by omega), Option.bind_some]
  cases h3 : early l c t with
  | true => rw [if_neg (by simp), if_pos (Or.inr (Or.inr rfl))]
  | false =>
    rw [if_pos (show (!false) = true from rfl), if_neg (show ¬ (toks l c t < 0 ∨ ¬ (0 ≤ c ∧ c ≤ 99) ∨ false = true) by simp; omega)]
    by_cases h4 : toks l c t = 0
    · rw [if_pos h4, if_pos h4, if_pos (by simp; omega)]
      rfl
    · rw [if_neg h4, if_neg h4]
      have := take_sl l c t (toks l c t) (by omega) hl l.length 0 k [] (by omega) (by simp) (by omega)
      simpa [putB] using this
theorem takeB_ok {l : List S37} {c t : Int} (h : (takeB l c t).2.2 = true) : okB (takeB l c t).1 = true := by
  unfold takeB at h ⊢
  split at h
  · cases h
  next h1 =>
    rw [if_neg h1]
    have hl : okB l = true := by
      by_cases hh : okB l = true ∧ 0 ≤ t ∧ t ≤ 3786479999
      · exact hh.1
      · exact absurd (show toks l c t < 0 by unfold toks; rw [if_neg hh]; omega) (fun h => h1 (Or.inl h))
    split at h
    next h2 => rw [if_pos h2]; exact hl
    next h2 =>
      rw [if_neg h2]
      split at h
      next h3 => rw [if_pos h3]; exact h3
      next h3 => cases h
theorem someB_l {b : List Int} (hb : Bytes b) (d : Nat) : ∀ (k : Nat) (x : List S37) (t q : Int), d + 60 < k → 0 ≤ q → q ≤ 1000 + 2 * (40 - d) → d ≤ 40 → okB x = true → 0 ≤ t → t ≤ 1000000 + 8 * (40 - d) →
    ∃ l p, spec_someBuckets.l0 k x t (d : Int) b q = some (l, p) ∧ okB l = true ∧ 0 ≤ p ∧ p ≤ 10000 := by
  induction d with
  | zero =>
    intro k x t q hk h0 h1 h2 hx _ _
    obtain ⟨k, rfl⟩ : ∃ m, k = m + 1 := ⟨k - 1, by omega⟩
    simp only [spec_someBuckets.l0]
    rw [if_neg (by omega)]
    exact ⟨x, q, rfl, hx, by omega, by omega⟩
  | succ d ih =>
    intro k x t q hk h0 h1 h2 hx g0 g1
    obtain ⟨k, rfl⟩ : ∃ m, k = m + 1 := ⟨k - 1, by omega⟩
    have hlen := okB_len hx
    obtain ⟨c, e1, _, _⟩ := pick_ok (k := k) (by omega) (p := q) 10 hb (by omega) (by omega)
    obtain ⟨v, e2, hv⟩ := one_ok (k := k) (by omega) (p := q + 1) [0, 1, 2, 8, 0] hb (by omega) (by omega) (by simp)
    simp at hv
    simp only [spec_someBuckets.l0]
    rw [if_pos (by omega), e1, Option.bind_some, take_s x c t (by omega) (by omega), Option.bind_some, e2, Option.bind_some, Option.bind_some, w64 (x := ((d + 1 : Nat) : Int) - 1) (by omega) (by omega), show ((d + 1 : Nat) : Int) - 1 = (d : Int) by omega, w64 (x := t + v) (by omega) (by omega)]
    by_cases hk' : (takeB x c t).2.2 = true
    · rw [if_pos hk']
      exact ih k _ _ (q + 1 + 1) (by omega) (by omega) (by omega) (by omega) (takeB_ok hk') (by omega) (by omega)
    · rw [if_neg hk']
      exact ih k _ _ (q + 1 + 1) (by omega) (by omega) (by omega) (by omega) hx (by omega) (by omega)
theorem someB_ok {k : Nat} (hk : 102 ≤ k) {b : List Int} (hb : Bytes b) : ∃ l p, spec_someBuckets.f k b 0 = some (l, p) ∧ okB l = true ∧ 0 ≤ p ∧ p ≤ 10000 := by
  obtain ⟨r1, e1, l1, u1⟩ := pick_ok (k := k) (by omega) (p := 0) 50 hb (by omega) (by omega)
  obtain ⟨r2, e2, l2⟩ := one_ok (k := k) (by omega) (p := 0 + 1) [5, 8, 12, 3, 0, 20] hb (by omega) (by omega) (by simp)
  simp at l2
  obtain ⟨d, rfl⟩ : ∃ d : Nat, r2 = d := ⟨r2.toNat, by omega⟩
  unfold spec_someBuckets.f
  rw [e1, Option.bind_some, e2, Option.bind_some, w64 (by omega) (by omega)]
  exact someB_l hb d k [] (1000 * r1) (0 + 1 + 1) (by omega) (by omega) (by omega) (by omega) rfl (by omega) (by omega)
theorem anyB_ok {k : Nat} (hk : 102 ≤ k) {b : List Int} (hb : Bytes b) : ∃ l p, spec_anyBuckets.f k b 0 = some (l, p) ∧ l.length ≤ 9 ∧ (∀ x ∈ l, -1 ≤ x.f2 ∧ x.f2 ≤ 3786479999) ∧ 0 ≤ p ∧ p ≤ 20000 := by
  obtain ⟨l, p, e, hl, h0, h1⟩ := someB_ok hk hb
  have hlen := okB_len hl
  have hin : ∀ x ∈ l, -1 ≤ x.f2 ∧ x.f2 ≤ 3786479999 := fun x hx => by have := inB_of (goodB_range _ (okB_good hl) x hx); omega
  obtain ⟨r1, e1, l1, u1⟩ := pick_ok (k := k) (by omega) (p := p) 16 hb (by omega) (by omega)
  unfold spec_anyBuckets.f
  rw [e, Option.bind_some, e1, Option.bind_some]
  by_cases hz : r1 = 0
  · obtain ⟨v1, e2, _⟩ := one_ok (k := k) (by omega) (p := p + 1) [0, 99, 100] hb (by omega) (by omega) (by simp)
    obtain ⟨v2, e3, _⟩ := one_ok (k := k) (by omega) (p := p + 1 + 1) [0, 6, -1] hb (by omega) (by omega) (by simp)
    obtain ⟨v3, e4, l4⟩ := one_ok (k := k) (by omega) (p := p + 1 + 1 + 1) [0, -1] hb (by omega) (by omega) (by simp)
    simp at l4
    rw [if_pos hz, e2, Option.bind_some, e3, Option.bind_some, e4, Option.bind_some, if_pos (show l.length < 5864062014805 by omega)]
    refine ⟨_, _, rfl, by simp; omega, ?_, by omega, by omega⟩
    intro x hx
    rcases List.mem_append.1 hx with hx | hx
    · exact hin x hx
    · rw [List.mem_singleton.1 hx]
      show -1 ≤ v3 ∧ v3 ≤ 3786479999
      omega
  · rw [if_neg hz]
    exact ⟨l, _, rfl, by omega, hin, by omega, by omega⟩
end KFnValidBuckets
open KFnValidBuckets
theorem FnValidBuckets (l : List Int) (_hl : l.length ≤ maxLen) (_hs : l.length * 1 ≤ 140737488351232) (hb : ∀ x ∈ l, (Lit.int .u8 x).wf = true) : ∃ k, laws_FnValidBuckets.f k l = some true := by
  refine ⟨161, ?_⟩
  unfold laws_FnValidBuckets.f
  by_cases h0 : (l.length : Int) > 1048576
  · rw [if_pos h0]
  obtain ⟨b, eb, hB⟩ := newReader_ok hb
  obtain ⟨m, p, em, hm, _⟩ := anyB_ok (k := 161) (by omega) hB
  have ed : spec_DrawValidBuckets.f 161 l = some m := by
    unfold spec_DrawValidBuckets.f
    rw [eb, Option.bind_some, em, Option.bind_some]
  have es : ∀ k, 51 ≤ k → spec_ValidBuckets.f k m = some (okB m) := fun k hk => by
    unfold spec_ValidBuckets.f
    rw [validB_s m (by omega) (by omega), Option.bind_some]
  rw [if_neg h0, ed, Option.bind_some, validB_i m (by omega) (by omega), Option.bind_some, es _ (by omega), Option.bind_some, if_neg (by simp)]
  simp only [laws_FnValidBuckets.j0]
  cases h : okB m with
  | false =>
    rw [if_neg (by simp), if_pos trivial, es _ (by omega), h]
    rfl
  | true =>
    rw [if_pos rfl]
    by_cases hz : (m.length : Int) = 0
    · rw [if_pos (by rw [beq_iff_eq]; exact hz), es _ (by omega), h]
      rfl
    · have q1 := Int.emod_nonneg (l.length : Int) hz
      have q2 := Int.emod_lt_of_pos (l.length : Int) (show 0 < (m.length : Int) by omega)
      generalize (l.length : Int) % (m.length : Int) = q at q1 q2
      rw [if_neg (by rw [beq_iff_eq]; exact hz), if_neg hz, Option.bind_some, if_pos q1, if_pos (by omega), Option.bind_some, if_pos (by simp; omega), Option.bind_some, w64 (by omega) (by omega), if_pos (by omega), if_pos (by omega), Option.bind_some, if_pos (by simp; omega)]
      have hs : List.Sublist ([] ++ m.take q.toNat ++ m.drop (q + 1).toNat) m := by
        have e : m = m.take q.toNat ++ m.drop q.toNat := (List.take_append_drop _ _).symm
        rw [List.nil_append]
        conv => rhs; rw [e]
        refine (List.Sublist.refl _).append ?_
        rw [show (q + 1).toNat = 1 + q.toNat by omega, ← List.drop_drop, List.drop_drop, show 1 + q.toNat = q.toNat + 1 by omega, ← List.drop_drop]
        exact List.drop_sublist _ _
      have hl := hs.length_le
      rw [validB_i _ (by omega) (by omega), okB_sub hs h]
      rfl

end Go.Proofs.Ytjhioifohbpdhaa.Pure
