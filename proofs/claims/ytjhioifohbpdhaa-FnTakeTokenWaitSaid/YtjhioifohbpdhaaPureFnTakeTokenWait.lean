/- Proved: TakeToken of a client that waits TokenSeconds is answered, at every code (law FnTakeTokenWait); no condition beyond the statement's own. -/
import Derived.Test.YtjhioifohbpdhaaPFnTakeTokenWaitx
import Derived.Laws.BitsLemmas
namespace Go.Proofs.Ytjhioifohbpdhaa.Pure
open Go Go.RowKit Go.Proofs.Ytjhioifohbpdhaa.PFnTakeTokenWait Go.Proofs.YtjhioifohbpdhaaW.PrintWords Go.Proofs.YtjhioifohbpdhaaW.PrintLast Go.Proofs.YtjhioifohbpdhaaW.PrintMore

namespace KFnTakeTokenWait
theorem w64 {x : Int} (h1 : -9223372036854775808 ≤ x) (h2 : x < 9223372036854775808) : wrap64 x = x := by unfold wrap64; omega
theorem i64wrap (x : Int) : IntKind.i64.wrap x = wrap64 x := by rw [IntKind.wrap_i64]; unfold wrap64; rfl
theorem tm {a b : Int} (h : 0 ≤ a) : Int.tmod a b = a % b := Int.tmod_eq_emod_of_nonneg h
theorem td {a b : Int} (h : 0 ≤ a) : Int.tdiv a b = a / b := Int.tdiv_eq_ediv_of_nonneg h
theorem sval {α : Type} {x : Option α} {a : α} (h : x = some a) {β : Type} (f : α → Option β) : x.bind f = f a := by rw [h]; rfl
theorem xor_nat (a b : Nat) (ha : a < 2 ^ 62) (hb : b < 2 ^ 62) : Go.bits .xor .i64 (a : Int) (b : Int) = ((a ^^^ b : Nat) : Int) := by
  have hx := Nat.xor_lt_two_pow ha hb
  have e : Go.bits .xor .i64 (a : Int) (b : Int) = wrap64 ((BitVec.ofInt 64 (a : Int) ^^^ BitVec.ofInt 64 (b : Int)).toNat : Int) := by rw [← i64wrap]; rfl
  rw [e, BitVec.ofInt_natCast, BitVec.ofInt_natCast, BitVec.toNat_xor, BitVec.toNat_ofNat, BitVec.toNat_ofNat, Nat.mod_eq_of_lt (by omega), Nat.mod_eq_of_lt (by omega)]
  exact w64 (by omega) (by omega)
theorem xor_ge (a b : Int) (h1 : 0 ≤ a) (h2 : a < 4611686018427387904) (h3 : 0 ≤ b) (h4 : b < 4611686018427387904) : 0 ≤ Go.bits .xor .i64 a b := by
  obtain ⟨x, rfl⟩ := Int.eq_ofNat_of_zero_le h1
  obtain ⟨y, rfl⟩ := Int.eq_ofNat_of_zero_le h3
  rw [xor_nat x y (by omega) (by omega)]
  exact Int.natCast_nonneg _
theorem rd_in {b : List Int} {lo hi : Int} (h : ∀ x ∈ b, lo ≤ x ∧ x ≤ hi) {i : Int} (h0 : 0 ≤ i) (h1 : i < b.length) : lo ≤ rd b i ∧ rd b i ≤ hi := by
  have hi' : i.toNat < b.length := by omega
  have e : rd b i = b[i.toNat] := by unfold rd; simp [List.getD_eq_getElem?_getD, List.getElem?_eq_getElem hi']
  rw [e]
  exact h _ (List.getElem_mem hi')
theorem rd_mem {b : List Int} {i : Int} (h0 : 0 ≤ i) (h1 : i < b.length) : rd b i ∈ b := by
  have hi' : i.toNat < b.length := by omega
  have e : rd b i = b[i.toNat] := by unfold rd; simp [List.getD_eq_getElem?_getD, List.getElem?_eq_getElem hi']
  rw [e]
  exact List.getElem_mem hi'
/-- What the reader holds: bytes, no more than two thousand. -/
def Bytes (b : List Int) : Prop := (∀ x ∈ b, 0 ≤ x ∧ x ≤ 255) ∧ b.length ≤ 2000
theorem pick_ok {k : Nat} (hk : 1 ≤ k) {b : List Int} {p : Int} (n : Int) (hb : Bytes b) (hp : 0 ≤ p) (hp2 : p ≤ 1000000000) :
    ∃ r, spec_reader_pick.f k b p n = some (r, p + 1) ∧ 0 ≤ r ∧ (1 ≤ n → r < n) := by
  obtain ⟨k, rfl⟩ : ∃ m, k = m + 1 := ⟨k - 1, by omega⟩
  obtain ⟨hb, hl⟩ := hb
  unfold spec_reader_pick.f
  rw [w64 (x := p + 1) (by omega) (by omega)]
  by_cases hn : n < 1
  · exact ⟨0, by rw [if_pos hn]; simp only [spec_reader_pick.j0, if_true], by omega, fun h => by omega⟩
  rw [if_neg hn]
  by_cases h0 : (b.length : Int) = 0
  · exact ⟨0, by rw [beq_iff_eq.2 h0]; simp only [spec_reader_pick.j0, if_true], by omega, fun h => by omega⟩
  rw [beq_eq_false_iff_ne.2 h0]
  simp only [spec_reader_pick.j0]
  rw [w64 (x := p + 1 - 1) (by omega) (by omega), show p + 1 - 1 = p by omega, if_neg (by simp)]
  by_cases h1 : p < (b.length : Int)
  · have hr := rd_in hb hp h1
    rw [if_pos h1, if_pos hp, if_neg (by omega), w64 (by omega) (by omega), tm hr.1]
    exact ⟨_, rfl, Int.emod_nonneg _ (by omega), fun _ => Int.emod_lt_of_pos _ (by omega)⟩
  · have hL : 0 < (b.length : Int) := by omega
    have m1 := Int.emod_nonneg p (b := b.length) (by omega)
    have m2 := Int.emod_lt_of_pos p hL
    have m3 := Int.emod_nonneg (p * 7 + 3) (b := b.length) (by omega)
    have m4 := Int.emod_lt_of_pos (p * 7 + 3) hL
    have d1 := Int.ediv_nonneg hp (b := b.length) (by omega)
    have d2 : p / (b.length : Int) ≤ p := Int.ediv_le_self _ hp
    have r1 := rd_in hb m1 m2
    have r2 := rd_in hb m3 m4
    rw [w64 (x := p * 7) (by omega) (by omega), w64 (x := p * 7 + 3) (by omega) (by omega), tm hp, tm (show 0 ≤ p * 7 + 3 by omega), td hp]
    rw [if_neg h1, if_neg h0, if_pos m1, if_pos m2, if_pos m3, if_pos m4, if_neg (by omega)]
    generalize rd b (p % (b.length : Int)) = A at r1 ⊢
    generalize rd b ((p * 7 + 3) % (b.length : Int)) = B at r2 ⊢
    generalize p / (b.length : Int) = q at d1 d2 ⊢
    rw [w64 (x := A) (by omega) (by omega), w64 (x := B) (by omega) (by omega), w64 (x := q) (by omega) (by omega), w64 (x := A * 131) (by omega) (by omega), w64 (x := B * 1117) (by omega) (by omega), w64 (x := p * 29) (by omega) (by omega), w64 (x := q * 53) (by omega) (by omega), w64 (x := A * 131 + B * 1117) (by omega) (by omega), w64 (x := A * 131 + B * 1117 + p * 29) (by omega) (by omega), w64 (x := A * 131 + B * 1117 + p * 29 + q * 53) (by omega) (by omega)]
    rw [td (show 0 ≤ A * 131 + B * 1117 + p * 29 + q * 53 by omega), w64 (x := (A * 131 + B * 1117 + p * 29 + q * 53) / 64) (by omega) (by omega)]
    have hx := xor_ge (A * 131 + B * 1117 + p * 29 + q * 53) ((A * 131 + B * 1117 + p * 29 + q * 53) / 64) (by omega) (by omega) (by omega) (by omega)
    rw [tm hx]
    exact ⟨_, rfl, Int.emod_nonneg _ (by omega), fun _ => Int.emod_lt_of_pos _ (by omega)⟩
theorem newReader_ok {l : List Int} (hb : ∀ x ∈ l, (Lit.int .u8 x).wf = true) : ∃ b, spec_newReader.f l = some (b, 0) ∧ Bytes b := by
  have hb' : ∀ x ∈ l, 0 ≤ x ∧ x ≤ 255 := fun x hx => by
    have := hb x hx
    simp [Lit.wf, IntKind.min, IntKind.max, IntKind.signed, IntKind.bits] at this
    omega
  unfold spec_newReader.f
  by_cases h : (l.length : Int) > 2000
  · exact ⟨l.take 2000, by rw [if_pos h, if_pos (by omega)], fun x hx => hb' x (List.mem_of_mem_take hx), by simp; omega⟩
  · exact ⟨l, by rw [if_neg h], hb', by omega⟩
theorem one_ok {k : Nat} (hk : 1 ≤ k) {b : List Int} {p : Int} (l : List Int) (hb : Bytes b) (hp : 0 ≤ p) (hp2 : p ≤ 1000000000) (hl : 1 ≤ (l.length : Int)) :
    ∃ r, spec_reader_one.f k b p l = some (r, p + 1) ∧ r ∈ l := by
  obtain ⟨r, e, h0, h1⟩ := pick_ok hk (l.length : Int) hb hp hp2
  unfold spec_reader_one.f
  rw [e]
  simp only [Option.bind_some]
  rw [if_pos h0, if_pos (h1 hl)]
  exact ⟨_, rfl, rd_mem h0 (h1 hl)⟩
theorem within_eq (n lo hi : Int) : impl_within.f n lo hi = some (decide (lo ≤ n ∧ n ≤ hi)) := by
  unfold impl_within.f
  by_cases h : lo ≤ n <;> simp [h]
theorem inRange_eq (n lo hi : Int) : spec_inRange.f n lo hi = some (decide (lo ≤ n ∧ n ≤ hi)) := by
  unfold spec_inRange.f
  by_cases h : lo ≤ n <;> simp [h]
/-- A bucket in its ranges. -/
def inB (x : S37) : Bool := decide (0 ≤ x.f0 ∧ x.f0 ≤ 99) && (decide (0 ≤ x.f1 ∧ x.f1 ≤ 5) && decide (0 ≤ x.f2 ∧ x.f2 ≤ 3786479999))
/-- Buckets in their ranges whose clients ascend, behind one that may stand ahead of them. -/
def goodB : Option Int → List S37 → Bool
  | _, [] => true
  | none, x :: xs => inB x && goodB (some x.f0) xs
  | some p, x :: xs => inB x && (decide (p < x.f0) && goodB (some x.f0) xs)
def okB (l : List S37) : Bool := goodB none l && decide (l.length ≤ 8)
theorem rdb_at (l : List S37) (i : Nat) (h : i < l.length) : rd_T37 l (i : Int) = l[i] := by unfold rd_T37; simp [List.getD_eq_getElem?_getD, h]
def prevB (l : List S37) (i : Nat) : Option Int := if i = 0 then none else some (rd_T37 l ((i : Int) - 1)).f0
theorem prevB_succ (l : List S37) (i : Nat) : prevB l (i + 1) = some (rd_T37 l (i : Int)).f0 := by unfold prevB; rw [if_neg (by omega)]; congr 3; omega
theorem dropB_at (l : List S37) (i : Nat) (h : i < l.length) : l.drop i = rd_T37 l (i : Int) :: l.drop (i + 1) := by
  rw [rdb_at l i h, List.drop_eq_getElem_cons h]
theorem goodB_cons {pr : Option Int} {x : S37} {xs : List S37} (h : goodB pr (x :: xs) = true) : inB x = true ∧ (∀ p, pr = some p → p < x.f0) ∧ goodB (some x.f0) xs = true := by
  cases pr with
  | none => simp [goodB] at h; exact ⟨h.1, fun p e => (by cases e), h.2⟩
  | some p => simp [goodB] at h; exact ⟨h.1, fun q e => (by cases e; exact h.2.1), h.2.2⟩
theorem goodB_mk {pr : Option Int} {x : S37} {xs : List S37} (h1 : inB x = true) (h2 : ∀ p, pr = some p → p < x.f0) (h3 : goodB (some x.f0) xs = true) : goodB pr (x :: xs) = true := by
  cases pr with
  | none => simp [goodB, h1, h3]
  | some p => simp [goodB, h1, h3, h2 p rfl]
theorem goodB_tail {pr : Option Int} {x : S37} {xs : List S37} (h : goodB pr (x :: xs) = true) : goodB pr xs = true := by
  obtain ⟨h1, h2, h3⟩ := goodB_cons h
  cases xs with
  | nil => cases pr <;> rfl
  | cons y ys =>
    obtain ⟨g1, g2, g3⟩ := goodB_cons h3
    exact goodB_mk g1 (fun p e => by have := h2 p e; have := g2 x.f0 rfl; omega) g3
theorem goodB_sub {a l : List S37} (h : List.Sublist a l) : ∀ pr, goodB pr l = true → goodB pr a = true := by
  induction h with
  | slnil => intro pr h; exact h
  | cons x _ ih => intro pr h; exact ih pr (goodB_tail h)
  | cons_cons x _ ih =>
    intro pr h
    obtain ⟨h1, h2, h3⟩ := goodB_cons h
    exact goodB_mk h1 h2 (ih _ h3)
theorem okB_sub {a l : List S37} (h : List.Sublist a l) (hl : okB l = true) : okB a = true := by
  have hlen := h.length_le
  simp only [okB, Bool.and_eq_true, decide_eq_true_eq] at hl ⊢
  exact ⟨goodB_sub h _ hl.1, by omega⟩
theorem goodB_range {l : List S37} : ∀ pr, goodB pr l = true → ∀ x ∈ l, inB x = true := by
  induction l with
  | nil => intro pr _ x hx; cases hx
  | cons y ys ih =>
    intro pr h x hx
    obtain ⟨h1, _, h3⟩ := goodB_cons h
    rcases List.mem_cons.1 hx with rfl | hx
    · exact h1
    · exact ih _ h3 x hx
theorem goodB_lt {l : List S37} : ∀ {p : Int}, goodB (some p) l = true → ∀ x ∈ l, p < x.f0 := by
  induction l with
  | nil => intro p _ x hx; cases hx
  | cons y ys ih =>
    intro p h x hx
    obtain ⟨_, h2, h3⟩ := goodB_cons h
    have := h2 p rfl
    rcases List.mem_cons.1 hx with rfl | hx
    · exact this
    · have := ih h3 x hx; omega
theorem inB_of {x : S37} (h : inB x = true) : (0 ≤ x.f0 ∧ x.f0 ≤ 99) ∧ (0 ≤ x.f1 ∧ x.f1 ≤ 5) ∧ (0 ≤ x.f2 ∧ x.f2 ≤ 3786479999) := by
  simpa [inB] using h
theorem inB_mk {x : S37} (h1 : 0 ≤ x.f0 ∧ x.f0 ≤ 99) (h2 : 0 ≤ x.f1 ∧ x.f1 ≤ 5) (h3 : 0 ≤ x.f2 ∧ x.f2 ≤ 3786479999) : inB x = true := by
  simp [inB, h1, h2, h3]
theorem validB_i_time (t : Int) : impl_isTime.f t = some (decide (0 ≤ t ∧ t ≤ 3786479999)) := by
  unfold impl_isTime.f
  rw [within_eq, Option.bind_some]
theorem validB_i_l (l : List S37) (hl : l.length ≤ 4000000) (n : Nat) : ∀ (i k : Nat), i + n = l.length → n < k → impl_ValidBuckets.l0 k l l (l.length : Int) (i : Int) = some (goodB (prevB l i) (l.drop i) && decide (l.length ≤ 8)) := by
  induction n with
  | zero =>
    intro i k h hk
    obtain ⟨k, rfl⟩ : ∃ m, k = m + 1 := ⟨k - 1, by omega⟩
    simp only [impl_ValidBuckets.l0]
    rw [if_neg (by omega), List.drop_eq_nil_of_le (by omega)]
    unfold prevB
    split <;> (simp only [goodB, Bool.true_and]; exact congrArg some (decide_eq_decide.2 (by omega)))
  | succ n ih =>
    intro i k h hk
    obtain ⟨k, rfl⟩ : ∃ m, k = m + 1 := ⟨k - 1, by omega⟩
    have IH := ih (i + 1) k (by omega) (by omega)
    rw [prevB_succ, show ((i + 1 : Nat) : Int) = (i : Int) + 1 by omega] at IH
    simp only [impl_ValidBuckets.l0]
    rw [if_pos (by omega), if_pos (by omega), if_pos (by omega), within_eq, Option.bind_some, within_eq, Option.bind_some, validB_i_time, Option.bind_some, dropB_at l i (by omega), w64 (x := (i : Int) + 1) (by omega) (by omega), IH]
    by_cases h1 : 0 ≤ (rd_T37 l (i : Int)).f0 ∧ (rd_T37 l (i : Int)).f0 ≤ 99
    rotate_left
    · rw [if_neg (by simpa using h1)]
      unfold prevB
      split <;> simp only [goodB, inB, decide_eq_false h1, Bool.false_and]
    rw [if_pos (decide_eq_true h1)]
    by_cases h2 : 0 ≤ (rd_T37 l (i : Int)).f1 ∧ (rd_T37 l (i : Int)).f1 ≤ 5
    rotate_left
    · rw [if_neg (by simpa using h2)]
      unfold prevB
      split <;> simp only [goodB, inB, decide_eq_true h1, decide_eq_false h2, Bool.false_and, Bool.true_and]
    rw [if_pos (decide_eq_true h2)]
    by_cases h3 : 0 ≤ (rd_T37 l (i : Int)).f2 ∧ (rd_T37 l (i : Int)).f2 ≤ 3786479999
    rotate_left
    · rw [if_neg (by simpa using h3)]
      unfold prevB
      split <;> simp only [goodB, inB, decide_eq_true h1, decide_eq_true h2, decide_eq_false h3, Bool.false_and, Bool.true_and]
    rw [if_pos (decide_eq_true h3)]
    by_cases h0 : i = 0
    · subst h0
      rw [if_neg (by omega)]
      simp only [prevB, if_true, goodB, inB, decide_eq_true h1, decide_eq_true h2, decide_eq_true h3, Bool.true_and]
    · rw [if_pos (by omega), w64 (by omega) (by omega), if_pos (by omega), if_pos (by omega)]
      unfold prevB
      rw [if_neg h0]
      simp only [goodB, inB, decide_eq_true h1, decide_eq_true h2, decide_eq_true h3, Bool.true_and]
      by_cases h4 : (rd_T37 l ((i : Int) - 1)).f0 < (rd_T37 l (i : Int)).f0
      · rw [if_neg (by omega), decide_eq_true h4, Bool.true_and]
      · rw [if_pos (by omega), decide_eq_false h4, Bool.false_and, Bool.false_and]
theorem validB_i {k : Nat} (l : List S37) (hl : l.length ≤ 4000000) (hk : l.length < k) : impl_ValidBuckets.f k l = some (okB l) := by
  have := validB_i_l l hl l.length 0 k (by omega) hk
  simpa [impl_ValidBuckets.f, okB, prevB] using this
theorem validB_s_time (t : Int) : spec_validTime.f t = some (decide (0 ≤ t ∧ t ≤ 3786479999)) := by
  unfold spec_validTime.f
  rw [inRange_eq, Option.bind_some]
theorem validB_s_l (l : List S37) (hl : l.length ≤ 4000000) (n : Nat) : ∀ (i k : Nat), i + n = l.length → n < k → spec_validBuckets.l0 k l (i : Int) = some (goodB (prevB l i) (l.drop i) && decide (l.length ≤ 8)) := by
  induction n with
  | zero =>
    intro i k h hk
    obtain ⟨k, rfl⟩ : ∃ m, k = m + 1 := ⟨k - 1, by omega⟩
    simp only [spec_validBuckets.l0]
    rw [if_neg (by omega), List.drop_eq_nil_of_le (by omega)]
    unfold prevB
    split <;> (simp only [goodB, Bool.true_and]; exact congrArg some (decide_eq_decide.2 (by omega)))
  | succ n ih =>
    intro i k h hk
    obtain ⟨k, rfl⟩ : ∃ m, k = m + 1 := ⟨k - 1, by omega⟩
    have IH := ih (i + 1) k (by omega) (by omega)
    rw [prevB_succ, show ((i + 1 : Nat) : Int) = (i : Int) + 1 by omega] at IH
    simp only [spec_validBuckets.l0]
    rw [if_pos (by omega), if_pos (by omega), inRange_eq, Option.bind_some, inRange_eq, Option.bind_some, validB_s_time, Option.bind_some, dropB_at l i (by omega), w64 (x := (i : Int) + 1) (by omega) (by omega), IH]
    by_cases h1 : 0 ≤ (rd_T37 l (i : Int)).f0 ∧ (rd_T37 l (i : Int)).f0 ≤ 99
    rotate_left
    · rw [if_neg (by simpa using h1)]
      unfold prevB
      split <;> simp only [goodB, inB, decide_eq_false h1, Bool.false_and]
    rw [if_pos (decide_eq_true h1)]
    by_cases h2 : 0 ≤ (rd_T37 l (i : Int)).f1 ∧ (rd_T37 l (i : Int)).f1 ≤ 5
    rotate_left
    · rw [if_neg (by simpa using h2)]
      unfold prevB
      split <;> simp only [goodB, inB, decide_eq_true h1, decide_eq_false h2, Bool.false_and, Bool.true_and]
    rw [if_pos (decide_eq_true h2)]
    by_cases h3 : 0 ≤ (rd_T37 l (i : Int)).f2 ∧ (rd_T37 l (i : Int)).f2 ≤ 3786479999
    rotate_left
    · rw [if_neg (by simpa using h3)]
      unfold prevB
      split <;> simp only [goodB, inB, decide_eq_true h1, decide_eq_true h2, decide_eq_false h3, Bool.false_and, Bool.true_and]
    rw [if_pos (decide_eq_true h3)]
    by_cases h0 : i = 0
    · subst h0
      rw [if_neg (by omega)]
      simp only [prevB, if_true, goodB, inB, decide_eq_true h1, decide_eq_true h2, decide_eq_true h3, Bool.true_and]
    · rw [if_pos (by omega), w64 (by omega) (by omega), if_pos (by omega), if_pos (by omega)]
      unfold prevB
      rw [if_neg h0]
      simp only [goodB, inB, decide_eq_true h1, decide_eq_true h2, decide_eq_true h3, Bool.true_and]
      by_cases h4 : (rd_T37 l ((i : Int) - 1)).f0 < (rd_T37 l (i : Int)).f0
      · rw [if_neg (by omega), decide_eq_true h4, Bool.true_and]
      · rw [if_pos (by omega), decide_eq_false h4, Bool.false_and, Bool.false_and]
theorem validB_s {k : Nat} (l : List S37) (hl : l.length ≤ 4000000) (hk : l.length < k) : spec_validBuckets.f k l = some (okB l) := by
  have := validB_s_l l hl l.length 0 k (by omega) hk
  simpa [spec_validBuckets.f, okB, prevB] using this
/-- The tokens of a bucket at a time. -/
def tokB (x : S37) (t : Int) : Int := mn 5 (x.f1 + mx 0 (t - x.f2) / 8)
/-- The tokens of a client at a time. -/
def toks (l : List S37) (c t : Int) : Int := if okB l = true ∧ 0 ≤ t ∧ t ≤ 3786479999 then (match l.find? (fun x => x.f0 == c) with | some x => tokB x t | none => 5) else -1
def earlyB (l : List S37) (c t : Int) : Bool := l.any (fun x => x.f0 == c && decide (t < x.f2))
theorem mx0_nonneg (x : Int) : 0 ≤ mx 0 x := by unfold mx; split <;> omega
theorem mx0_le {x m : Int} (h : x ≤ m) (h0 : 0 ≤ m) : mx 0 x ≤ m := by unfold mx; split <;> omega
theorem tokB_range {x : S37} (t : Int) (h : 0 ≤ x.f1) : 0 ≤ tokB x t ∧ tokB x t ≤ 5 := by
  have := mx0_nonneg (t - x.f2)
  have := Int.ediv_nonneg this (show (0 : Int) ≤ 8 by omega)
  unfold tokB mn
  split <;> omega
theorem toks_range (l : List S37) (c t : Int) : -1 ≤ toks l c t ∧ toks l c t ≤ 5 := by
  unfold toks
  split
  next h =>
    split
    next x hx =>
      have hm := List.mem_of_find?_eq_some hx
      have hg : goodB none l = true := by have := h.1; simp [okB] at this; exact this.1
      have := inB_of (goodB_range _ hg x hm)
      have := tokB_range t (x := x) (by omega)
      omega
    next => omega
  next => omega
theorem okB_len {l : List S37} (h : okB l = true) : l.length ≤ 8 := by simp [okB] at h; exact h.2
theorem okB_good {l : List S37} (h : okB l = true) : goodB none l = true := by simp [okB] at h; exact h.1
theorem tokB_s {x : S37} {t : Int} (h : inB x = true) (h0 : 0 ≤ t) (h1 : t ≤ 3786479999) : spec_tokensAt.f x.f0 x.f1 x.f2 t = some (tokB x t) := by
  have hx := inB_of h
  unfold spec_tokensAt.f tokB
  have h2 := mx0_nonneg (t - x.f2)
  have h3 := mx0_le (x := t - x.f2) (m := 3786479999) (by omega) (by omega)
  rw [w64 (x := t - x.f2) (by omega) (by omega)]
  have h4 := Int.ediv_nonneg h2 (show (0 : Int) ≤ 8 by omega)
  have h5 : mx 0 (t - x.f2) / 8 ≤ mx 0 (t - x.f2) := Int.ediv_le_self _ h2
  rw [w64 (x := mx 0 (t - x.f2) / 8) (by omega) (by omega), w64 (by omega) (by omega)]
theorem toks_sl (l : List S37) (c t : Int) (hl : l.length ≤ 1048600) (h0 : 0 ≤ t) (h1 : t ≤ 3786479999) (hin : ∀ x ∈ l, inB x = true) (n : Nat) : ∀ (i k : Nat), i + n = l.length → n < k → spec_TokensAt.l0 k l c t (i : Int) = some (match (l.drop i).find? (fun x => x.f0 == c) with | some x => tokB x t | none => 5) := by
  induction n with
  | zero =>
    intro i k h hk
    obtain ⟨k, rfl⟩ : ∃ m, k = m + 1 := ⟨k - 1, by omega⟩
    simp only [spec_TokensAt.l0]
    rw [if_neg (by omega), List.drop_eq_nil_of_le (by omega)]
    rfl
  | succ n ih =>
    intro i k h hk
    obtain ⟨k, rfl⟩ : ∃ m, k = m + 1 := ⟨k - 1, by omega⟩
    have IH := ih (i + 1) k (by omega) (by omega)
    rw [show ((i + 1 : Nat) : Int) = (i : Int) + 1 by omega] at IH
    simp only [spec_TokensAt.l0]
    rw [if_pos (by omega), if_pos (by omega), w64 (x := (i : Int) + 1) (by omega) (by omega), IH, dropB_at l i (by omega)]
    have hx : inB (rd_T37 l (i : Int)) = true := hin _ (by rw [rdb_at l i (by omega)]; exact List.getElem_mem _)
    by_cases hc : (rd_T37 l (i : Int)).f0 = c
    · rw [if_pos hc, tokB_s hx h0 h1, Option.bind_some, List.find?_cons_of_pos (by simpa using hc)]
    · rw [if_neg hc, List.find?_cons_of_neg (by simpa using hc)]
theorem toks_s {k : Nat} (l : List S37) (c t : Int) (hl : l.length ≤ 1048600) (hk : l.length + 1 < k) : spec_TokensAt.f k l c t = some (toks l c t) := by
  obtain ⟨k, rfl⟩ : ∃ m, k = m + 1 := ⟨k - 1, by omega⟩
  unfold spec_TokensAt.f toks
  rw [validB_s l (by omega) (by omega), Option.bind_some]
  cases h : okB l with
  | false => simp [spec_TokensAt.j0]
  | true =>
    rw [if_pos rfl, validB_s_time, Option.bind_some]
    by_cases ht : 0 ≤ t ∧ t ≤ 3786479999
    · simp only [spec_TokensAt.j0, decide_eq_true ht, Bool.not_true, Bool.false_eq_true, if_false, true_and, if_pos ht]
      have := toks_sl l c t hl ht.1 ht.2 (goodB_range _ (okB_good h)) l.length 0 k (by omega) (by omega)
      simpa using this
    · simp only [spec_TokensAt.j0, decide_eq_false ht, Bool.not_false, if_true, true_and, if_neg ht]
theorem inTime_sl (l : List S37) (c t : Int) (hl : l.length ≤ 1048600) (n : Nat) : ∀ (i k : Nat), i + n = l.length → n < k → spec_inTime.l0 k l c t (i : Int) = some (!earlyB (l.drop i) c t) := by
  induction n with
  | zero =>
    intro i k h hk
    obtain ⟨k, rfl⟩ : ∃ m, k = m + 1 := ⟨k - 1, by omega⟩
    simp only [spec_inTime.l0]
    rw [if_neg (by omega), List.drop_eq_nil_of_le (by omega)]
    rfl
  | succ n ih =>
    intro i k h hk
    obtain ⟨k, rfl⟩ : ∃ m, k = m + 1 := ⟨k - 1, by omega⟩
    have IH := ih (i + 1) k (by omega) (by omega)
    rw [show ((i + 1 : Nat) : Int) = (i : Int) + 1 by omega] at IH
    simp only [spec_inTime.l0]
    rw [if_pos (by omega), if_pos (by omega), w64 (x := (i : Int) + 1) (by omega) (by omega), IH, dropB_at l i (by omega)]
    unfold earlyB
    rw [List.any_cons]
    by_cases hc : (rd_T37 l (i : Int)).f0 = c
    · rw [if_pos hc, beq_iff_eq.2 hc, Bool.true_and]
      by_cases ht : t < (rd_T37 l (i : Int)).f2
      · rw [if_pos ht, decide_eq_true ht]; rfl
      · rw [if_neg ht, decide_eq_false ht, Bool.false_or]
    · rw [if_neg hc, beq_false_of_ne hc, Bool.false_and, Bool.false_or]
theorem inTime_s {k : Nat} (l : List S37) (c t : Int) (hl : l.length ≤ 1048600) (hk : l.length < k) : spec_inTime.f k l c t = some (!earlyB l c t) := by
  have := inTime_sl l c t hl l.length 0 k (by omega) hk
  simpa [spec_inTime.f] using this
/-- The buckets behind a client's question that is answered. -/
def putB (l : List S37) (c n t : Int) : List S37 := l.filter (fun x => decide (x.f0 < c)) ++ [⟨c, n, t⟩] ++ l.filter (fun x => decide (c < x.f0))
def takeB (l : List S37) (c t : Int) : List S37 × Bool × Bool :=
  if toks l c t < 0 ∨ ¬ (0 ≤ c ∧ c ≤ 99) ∨ earlyB l c t = true then ([], false, false)
  else if toks l c t = 0 then (l, false, true)
  else if okB (putB l c (toks l c t - 1) t) = true then (putB l c (toks l c t - 1) t, true, true) else ([], false, false)
theorem take_sl1 (l : List S37) (c : Int) (hl : l.length ≤ 1048600) (n : Nat) : ∀ (i k : Nat) (o : List S37), i + n = l.length → o.length + n ≤ 3000000 → o.length + n + n + 1 < k → spec_TakeToken.l1 k l c o (i : Int) = some (if okB (o ++ (l.drop i).filter (fun x => decide (c < x.f0))) = true then (o ++ (l.drop i).filter (fun x => decide (c < x.f0)), true, true) else ([], false, false)) := by
  induction n with
  | zero =>
    intro i k o h ho hk
    obtain ⟨k, rfl⟩ : ∃ m, k = m + 1 := ⟨k - 1, by omega⟩
    simp only [spec_TakeToken.l1]
    rw [if_neg (by omega), List.drop_eq_nil_of_le (by omega), List.filter_nil, List.append_nil, validB_s o (by omega) (by omega), Option.bind_some]
    cases okB o <;> rfl
  | succ n ih =>
    intro i k o h ho hk
    obtain ⟨k, rfl⟩ : ∃ m, k = m + 1 := ⟨k - 1, by omega⟩
    simp only [spec_TakeToken.l1]
    rw [if_pos (by omega), if_pos (by omega), w64 (x := (i : Int) + 1) (by omega) (by omega), dropB_at l i (by omega)]
    by_cases hc : c < (rd_T37 l (i : Int)).f0
    · rw [if_pos hc, if_pos (by omega), List.filter_cons_of_pos (by simpa using hc)]
      have IH := ih (i + 1) k (o ++ [rd_T37 l (i : Int)]) (by omega) (by simp; omega) (by simp; omega)
      rw [show ((i + 1 : Nat) : Int) = (i : Int) + 1 by omega, List.append_assoc, List.singleton_append] at IH
      exact IH
    · rw [if_neg (by omega), List.filter_cons_of_neg (by simpa using hc)]
      have IH := ih (i + 1) k o (by omega) (by omega) (by omega)
      rw [show ((i + 1 : Nat) : Int) = (i : Int) + 1 by omega] at IH
      exact IH
theorem take_sl (l : List S37) (c t m : Int) (hm : -10 < m ∧ m < 10) (hl : l.length ≤ 1048600) (n : Nat) : ∀ (i k : Nat) (o : List S37), i + n = l.length → o.length ≤ i → 4 * l.length + 10 < k + i → spec_TakeToken.l0 k l c t o m (i : Int) = some (if okB (o ++ (l.drop i).filter (fun x => decide (x.f0 < c)) ++ [⟨c, m - 1, t⟩] ++ l.filter (fun x => decide (c < x.f0))) = true then (o ++ (l.drop i).filter (fun x => decide (x.f0 < c)) ++ [⟨c, m - 1, t⟩] ++ l.filter (fun x => decide (c < x.f0)), true, true) else ([], false, false)) := by
  induction n with
  | zero =>
    intro i k o h ho hk
    obtain ⟨k, rfl⟩ : ∃ m, k = m + 1 := ⟨k - 1, by omega⟩
    simp only [spec_TakeToken.l0]
    rw [if_neg (by omega), List.drop_eq_nil_of_le (by omega), List.filter_nil, List.append_nil, if_pos (by omega), w64 (x := m - 1) (by omega) (by omega)]
    have := take_sl1 l c (by omega) l.length 0 k (o ++ [⟨c, m - 1, t⟩]) (by omega) (by simp; omega) (by simp; omega)
    simpa using this
  | succ n ih =>
    intro i k o h ho hk
    obtain ⟨k, rfl⟩ : ∃ m, k = m + 1 := ⟨k - 1, by omega⟩
    simp only [spec_TakeToken.l0]
    rw [if_pos (by omega), if_pos (by omega), w64 (x := (i : Int) + 1) (by omega) (by omega), dropB_at l i (by omega)]
    by_cases hc : (rd_T37 l (i : Int)).f0 < c
    · rw [if_pos hc, if_pos (by omega), List.filter_cons_of_pos (by simpa using hc)]
      have IH := ih (i + 1) k (o ++ [rd_T37 l (i : Int)]) (by omega) (by simp; omega) (by omega)
      rw [show ((i + 1 : Nat) : Int) = (i : Int) + 1 by omega, List.append_assoc o, List.singleton_append] at IH
      exact IH
    · rw [if_neg (by omega), List.filter_cons_of_neg (by simpa using hc)]
      have IH := ih (i + 1) k o (by omega) (by omega) (by omega)
      rw [show ((i + 1 : Nat) : Int) = (i : Int) + 1 by omega] at IH
      exact IH
theorem take_s {k : Nat} (l : List S37) (c t : Int) (hl : l.length ≤ 1048600) (hk : 4 * l.length + 20 < k) : spec_TakeToken.f k l c t = some (takeB l c t) := by
  obtain ⟨k, rfl⟩ : ∃ m, k = m + 1 := ⟨k - 1, by omega⟩
  have hr := toks_range l c t
  unfold spec_TakeToken.f takeB
  rw [Option.bind_some, toks_s l c t (by omega) (by omega), Option.bind_some, inRange_eq, Option.bind_some]
  simp only [spec_TakeToken.j0]
  by_cases h1 : toks l c t < 0
  · rw [if_pos h1, if_pos trivial, if_pos (Or.inl h1)]
  rw [if_neg h1]
  by_cases h2 : 0 ≤ c ∧ c ≤ 99
  rotate_left
  · rw [if_pos (show (!decide (0 ≤ c ∧ c ≤ 99)) = true by rw [decide_eq_false h2]; rfl), if_pos (Or.inr (Or.inl h2))]
  rw [if_neg (show ¬ (!decide (0 ≤ c ∧ c ≤ 99)) = true by rw [decide_eq_true h2]; simp), inTime_s l c t (by omega) (by omega), Option.bind_some]
  cases h3 : earlyB l c t with
  | true => rw [if_neg (by simp), if_pos (Or.inr (Or.inr rfl))]
  | false =>
    rw [if_pos (show (!false) = true from rfl), if_neg (show ¬ (toks l c t < 0 ∨ ¬ (0 ≤ c ∧ c ≤ 99) ∨ false = true) by simp; omega)]
    by_cases h4 : toks l c t = 0
    · rw [if_pos h4, if_pos h4, if_pos (by simp; omega)]
      rfl
    · rw [if_neg h4, if_neg h4]
      have := take_sl l c t (toks l c t) (by omega) hl l.length 0 k [] (by omega) (by simp) (by omega)
      simpa [putB] using this
theorem takeB_ok {l : List S37} {c t : Int} (h : (takeB l c t).2.2 = true) : okB (takeB l c t).1 = true := by
  unfold takeB at h ⊢
  split at h
  · cases h
  next h1 =>
    rw [if_neg h1]
    have hl : okB l = true := by
      by_cases hh : okB l = true ∧ 0 ≤ t ∧ t ≤ 3786479999
      · exact hh.1
      · exact absurd (show toks l c t < 0 by unfold toks; rw [if_neg hh]; omega) (fun h => h1 (Or.inl h))
    split at h
    next h2 => rw [if_pos h2]; exact hl
    next h2 =>
      rw [if_neg h2]
      split at h
      next h3 => rw [if_pos h3]; exact h3
      next h3 => cases h
theorem someB_l {b : List Int} (hb : Bytes b) (d : Nat) : ∀ (k : Nat) (x : List S37) (t q : Int), d + 60 < k → 0 ≤ q → q ≤ 1000 + 2 * (40 - d) → d ≤ 40 → okB x = true → 0 ≤ t → t ≤ 1000000 + 8 * (40 - d) →
    ∃ l p, spec_someBuckets.l0 k x t (d : Int) b q = some (l, p) ∧ okB l = true ∧ 0 ≤ p ∧ p ≤ 10000 := by
  induction d with
  | zero =>
    intro k x t q hk h0 h1 h2 hx _ _
    obtain ⟨k, rfl⟩ : ∃ m, k = m + 1 := ⟨k - 1, by omega⟩
    simp only [spec_someBuckets.l0]
    rw [if_neg (by omega)]
    exact ⟨x, q, rfl, hx, by omega, by omega⟩
  | succ d ih =>
    intro k x t q hk h0 h1 h2 hx g0 g1
    obtain ⟨k, rfl⟩ : ∃ m, k = m + 1 := ⟨k - 1, by omega⟩
    have hlen := okB_len hx
    obtain ⟨c, e1, _, _⟩ := pick_ok (k := k) (by omega) (p := q) 10 hb (by omega) (by omega)
    obtain ⟨v, e2, hv⟩ := one_ok (k := k) (by omega) (p := q + 1) [0, 1, 2, 8, 0] hb (by omega) (by omega) (by simp)
    simp at hv
    simp only [spec_someBuckets.l0]
    rw [if_pos (by omega), e1, Option.bind_some, take_s x c t (by omega) (by omega), Option.bind_some, e2, Option.bind_some, Option.bind_some, w64 (x := ((d + 1 : Nat) : Int) - 1) (by omega) (by omega), show ((d + 1 : Nat) : Int) - 1 = (d : Int) by omega, w64 (x := t + v) (by omega) (by omega)]
    by_cases hk' : (takeB x c t).2.2 = true
    · rw [if_pos hk']
      exact ih k _ _ (q + 1 + 1) (by omega) (by omega) (by omega) (by omega) (takeB_ok hk') (by omega) (by omega)
    · rw [if_neg hk']
      exact ih k _ _ (q + 1 + 1) (by omega) (by omega) (by omega) (by omega) hx (by omega) (by omega)
theorem someB_ok {k : Nat} (hk : 102 ≤ k) {b : List Int} (hb : Bytes b) : ∃ l p, spec_someBuckets.f k b 0 = some (l, p) ∧ okB l = true ∧ 0 ≤ p ∧ p ≤ 10000 := by
  obtain ⟨r1, e1, l1, u1⟩ := pick_ok (k := k) (by omega) (p := 0) 50 hb (by omega) (by omega)
  obtain ⟨r2, e2, l2⟩ := one_ok (k := k) (by omega) (p := 0 + 1) [5, 8, 12, 3, 0, 20] hb (by omega) (by omega) (by simp)
  simp at l2
  obtain ⟨d, rfl⟩ : ∃ d : Nat, r2 = d := ⟨r2.toNat, by omega⟩
  unfold spec_someBuckets.f
  rw [e1, Option.bind_some, e2, Option.bind_some, w64 (by omega) (by omega)]
  exact someB_l hb d k [] (1000 * r1) (0 + 1 + 1) (by omega) (by omega) (by omega) (by omega) rfl (by omega) (by omega)
theorem anyB_ok {k : Nat} (hk : 102 ≤ k) {b : List Int} (hb : Bytes b) : ∃ l p, spec_anyBuckets.f k b 0 = some (l, p) ∧ l.length ≤ 9 ∧ (∀ x ∈ l, -1 ≤ x.f2 ∧ x.f2 ≤ 3786479999) ∧ 0 ≤ p ∧ p ≤ 20000 := by
  obtain ⟨l, p, e, hl, h0, h1⟩ := someB_ok hk hb
  have hlen := okB_len hl
  have hin : ∀ x ∈ l, -1 ≤ x.f2 ∧ x.f2 ≤ 3786479999 := fun x hx => by have := inB_of (goodB_range _ (okB_good hl) x hx); omega
  obtain ⟨r1, e1, l1, u1⟩ := pick_ok (k := k) (by omega) (p := p) 16 hb (by omega) (by omega)
  unfold spec_anyBuckets.f
  rw [e, Option.bind_some, e1, Option.bind_some]
  by_cases hz : r1 = 0
  · obtain ⟨v1, e2, _⟩ := one_ok (k := k) (by omega) (p := p + 1) [0, 99, 100] hb (by omega) (by omega) (by simp)
    obtain ⟨v2, e3, _⟩ := one_ok (k := k) (by omega) (p := p + 1 + 1) [0, 6, -1] hb (by omega) (by omega) (by simp)
    obtain ⟨v3, e4, l4⟩ := one_ok (k := k) (by omega) (p := p + 1 + 1 + 1) [0, -1] hb (by omega) (by omega) (by simp)
    simp at l4
    rw [if_pos hz, e2, Option.bind_some, e3, Option.bind_some, e4, Option.bind_some, if_pos (show l.length < 5864062014805 by omega)]
    refine ⟨_, _, rfl, by simp; omega, ?_, by omega, by omega⟩
    intro x hx
    rcases List.mem_append.1 hx with hx | hx
    · exact hin x hx
    · rw [List.mem_singleton.1 hx]
      show -1 ≤ v3 ∧ v3 ≤ 3786479999
      omega
  · rw [if_neg hz]
    exact ⟨l, _, rfl, by omega, hin, by omega, by omega⟩
theorem goodB_asc {l : List S37} : ∀ pr, goodB pr l = true → ∀ a b : Nat, a < b → b < l.length → (rd_T37 l (a : Int)).f0 < (rd_T37 l (b : Int)).f0 := by
  induction l with
  | nil => intro pr _ a b _ hb; simp at hb
  | cons y ys ih =>
    intro pr h a b hab hb
    obtain ⟨_, _, h3⟩ := goodB_cons h
    obtain ⟨b, rfl⟩ : ∃ m, b = m + 1 := ⟨b - 1, by omega⟩
    have hb' : b < ys.length := by simpa using hb
    rw [rdb_at (y :: ys) (b + 1) hb, List.getElem_cons_succ]
    cases a with
    | zero =>
      rw [rdb_at (y :: ys) 0 (by omega), List.getElem_cons_zero]
      exact goodB_lt h3 _ (List.getElem_mem _)
    | succ a =>
      have := ih _ h3 a b (by omega) hb'
      rw [rdb_at ys a (by omega), rdb_at ys b hb'] at this
      rw [rdb_at (y :: ys) (a + 1) (by omega), List.getElem_cons_succ]
      exact this
theorem cmpB (a b d c : Int) : impl_bucketPlace_1.f a b d c = some (if a < c then -1 else if a > c then 1 else 0) := by
  unfold impl_bucketPlace_1.f cmp_Compare_int.f cmp_isNaN_int.f
  simp only [bne_self_eq_false, Option.bind_some, Bool.false_eq_true, if_false]
  by_cases h1 : a < c
  · rw [if_pos h1, if_pos h1]; rfl
  · rw [if_neg h1, if_neg h1]
    by_cases h2 : a > c
    · rw [if_pos h2, if_pos h2]; rfl
    · rw [if_neg h2, if_neg h2]; rfl
/-- The place of a client: the buckets ahead of it have lesser clients, the others don't. -/
def At (l : List S37) (c : Int) (p : Nat) : Prop := p ≤ l.length ∧ (∀ m : Nat, m < p → (rd_T37 l (m : Int)).f0 < c) ∧ ∀ m : Nat, p ≤ m → m < l.length → c ≤ (rd_T37 l (m : Int)).f0
theorem half {i j : Nat} (h : i + j ≤ 100000000) : wrap64 ((IntKind.u64.wrap (wrap64 ((i : Int) + (j : Int)))) / 2) = (((i + j) / 2 : Nat) : Int) := by
  rw [w64 (x := (i : Int) + (j : Int)) (by omega) (by omega)]
  have e : IntKind.u64.wrap ((i : Int) + (j : Int)) = (i : Int) + (j : Int) := by
    show ((i : Int) + (j : Int)) % 18446744073709551616 = (i : Int) + (j : Int)
    omega
  rw [e, w64 (by omega) (by omega)]
  omega
theorem place_l (l : List S37) (c : Int) (hl : l.length ≤ 4000000) (hg : goodB none l = true) (d : Nat) : ∀ (i j k : Nat), j - i ≤ d → d < k → i ≤ j → j ≤ l.length → (∀ m : Nat, m < i → (rd_T37 l (m : Int)).f0 < c) → (∀ m : Nat, j ≤ m → m < l.length → c ≤ (rd_T37 l (m : Int)).f0) →
    ∃ p, At l c p ∧ impl_Bucket_int.l0 k l c (l.length : Int) (i : Int) (j : Int) = some ((p : Int), decide (p < l.length ∧ (rd_T37 l (p : Int)).f0 = c)) := by
  induction d with
  | zero =>
    intro i j k h hk hij hj h1 h2
    obtain ⟨k, rfl⟩ : ∃ m, k = m + 1 := ⟨k - 1, by omega⟩
    obtain rfl : i = j := by omega
    refine ⟨i, ⟨hj, h1, h2⟩, ?_⟩
    simp only [impl_Bucket_int.l0]
    rw [if_neg (by omega)]
    by_cases hi : i < l.length
    · have hge := h2 i (Nat.le_refl _) hi
      rw [if_pos (by omega), if_pos (by omega), if_pos (by omega), cmpB, Option.bind_some, if_neg (by omega)]
      by_cases he : (rd_T37 l (i : Int)).f0 = c
      · rw [if_neg (by omega), decide_eq_true ⟨hi, he⟩]; rfl
      · rw [if_pos (by omega), decide_eq_false (fun h => he h.2)]; rfl
    · rw [if_neg (by omega), decide_eq_false (fun h => hi h.1)]
  | succ d ih =>
    intro i j k h hk hij hj h1 h2
    obtain ⟨k, rfl⟩ : ∃ m, k = m + 1 := ⟨k - 1, by omega⟩
    by_cases hlt : i < j
    · simp only [impl_Bucket_int.l0]
      rw [if_pos (by omega), half (by omega), if_pos (by omega), if_pos (by omega), cmpB, Option.bind_some]
      by_cases hc : (rd_T37 l (((i + j) / 2 : Nat) : Int)).f0 < c
      · rw [if_pos (by rw [if_pos hc]; omega), w64 (by omega) (by omega)]
        have := ih ((i + j) / 2 + 1) j k (by omega) (by omega) (by omega) hj (fun m hm => by
          by_cases he : m = (i + j) / 2
          · rw [he]; exact hc
          · have := goodB_asc _ hg m ((i + j) / 2) (by omega) (by omega)
            omega) h2
        simpa using this
      · rw [if_neg (by rw [if_neg hc]; split <;> omega)]
        exact ih i ((i + j) / 2) k (by omega) (by omega) (by omega) (by omega) h1 (fun m hm hm' => by
          by_cases he : m = (i + j) / 2
          · rw [he]; omega
          · have := goodB_asc _ hg ((i + j) / 2) m (by omega) hm'
            omega)
    · obtain rfl : i = j := by omega
      obtain ⟨p, hp, e⟩ := ih i i (k + 1) (by omega) (by omega) (Nat.le_refl _) hj h1 h2
      exact ⟨p, hp, e⟩
theorem place_ok {k : Nat} (l : List S37) (c : Int) (hl : l.length ≤ 4000000) (hg : goodB none l = true) (hk : l.length < k) : ∃ p, At l c p ∧ impl_bucketPlace.f k l c = some ((p : Int), decide (p < l.length ∧ (rd_T37 l (p : Int)).f0 = c)) := by
  obtain ⟨p, hp, e⟩ := place_l l c hl hg l.length 0 l.length k (by omega) hk (by omega) (by omega) (fun m hm => by omega) (fun m hm hm' => by omega)
  refine ⟨p, hp, ?_⟩
  unfold impl_bucketPlace.f impl_Bucket_int.f
  have e' : impl_Bucket_int.l0 k l c (l.length : Int) 0 (l.length : Int) = some ((p : Int), decide (p < l.length ∧ (rd_T37 l (p : Int)).f0 = c)) := e
  rw [e', Option.bind_some]
theorem find_at {l : List S37} {c : Int} {p : Nat} (h : At l c p) (hg : goodB none l = true) : l.find? (fun x => x.f0 == c) = if p < l.length ∧ (rd_T37 l (p : Int)).f0 = c then some (rd_T37 l (p : Int)) else none := by
  obtain ⟨h0, h1, h2⟩ := h
  have none_of : ∀ a : List S37, (∀ x ∈ a, x.f0 ≠ c) → a.find? (fun x => x.f0 == c) = none := fun a ha => List.find?_eq_none.2 (fun x hx => by simpa using ha x hx)
  conv => lhs; rw [← List.take_append_drop p l]
  rw [List.find?_append, none_of (l.take p) (fun x hx => by
    obtain ⟨m, hm, rfl⟩ := List.getElem_of_mem hx
    rw [List.length_take] at hm
    rw [List.getElem_take]
    have := h1 m (by omega)
    rw [rdb_at l m (by omega)] at this
    omega), Option.none_or]
  by_cases hp : p < l.length
  · rw [dropB_at l p hp]
    by_cases hc : (rd_T37 l (p : Int)).f0 = c
    · rw [List.find?_cons_of_pos (by simpa using hc), if_pos ⟨hp, hc⟩]
    · rw [List.find?_cons_of_neg (by simpa using hc), if_neg (fun h => hc h.2)]
      refine none_of _ (fun x hx => ?_)
      obtain ⟨m, hm, rfl⟩ := List.getElem_of_mem hx
      rw [List.length_drop] at hm
      rw [List.getElem_drop]
      have a1 := goodB_asc _ hg p (p + 1 + m) (by omega) (by omega)
      have a2 := h2 p (Nat.le_refl _) hp
      rw [rdb_at l (p + 1 + m) (by omega)] at a1
      omega
  · rw [List.drop_eq_nil_of_le (by omega), if_neg (fun h => hp h.1)]
    rfl
theorem tokB_i {x : S37} {t : Int} (h : inB x = true) (h0 : 0 ≤ t) (h1 : t ≤ 3786479999) : impl_Bucket_tokensAt.f x.f0 x.f1 x.f2 t = some (tokB x t) := by
  have hx := inB_of h
  unfold impl_Bucket_tokensAt.f tokB
  have h2 := mx0_nonneg (t - x.f2)
  have h3 := mx0_le (x := t - x.f2) (m := 3786479999) (by omega) (by omega)
  have e0 : mx (t - x.f2) 0 = mx 0 (t - x.f2) := by unfold mx; split <;> split <;> omega
  rw [w64 (x := t - x.f2) (by omega) (by omega), e0]
  have h4 := Int.ediv_nonneg h2 (show (0 : Int) ≤ 8 by omega)
  have h5 : mx 0 (t - x.f2) / 8 ≤ mx 0 (t - x.f2) := Int.ediv_le_self _ h2
  rw [w64 (x := mx 0 (t - x.f2) / 8) (by omega) (by omega), w64 (by omega) (by omega)]
  congr 1
  unfold mn
  split <;> split <;> omega
theorem toks_i {k : Nat} (l : List S37) (c t : Int) (hl : l.length ≤ 4000000) (hk : l.length + 1 < k) : impl_TokensAt.f k l c t = some (toks l c t) := by
  obtain ⟨k, rfl⟩ : ∃ m, k = m + 1 := ⟨k - 1, by omega⟩
  unfold impl_TokensAt.f toks
  rw [validB_i l (by omega) (by omega), Option.bind_some]
  cases h : okB l with
  | false => simp [impl_TokensAt.j0]
  | true =>
    rw [if_pos rfl, validB_i_time, Option.bind_some]
    by_cases ht : 0 ≤ t ∧ t ≤ 3786479999
    · simp only [impl_TokensAt.j0, decide_eq_true ht, Bool.not_true, Bool.false_eq_true, if_false, true_and, if_pos ht]
      obtain ⟨p, hp, e⟩ := place_ok (k := k) l c hl (okB_good h) (by omega)
      rw [e, Option.bind_some, find_at hp (okB_good h)]
      by_cases hc : p < l.length ∧ (rd_T37 l (p : Int)).f0 = c
      · rw [if_pos (decide_eq_true hc), if_pos (by omega), if_pos (by omega), if_pos hc, tokB_i (goodB_range _ (okB_good h) _ (by rw [rdb_at l p hc.1]; exact List.getElem_mem _)) ht.1 ht.2, Option.bind_some]
      · rw [if_neg (by rw [decide_eq_true_eq]; exact hc), if_neg hc]
    · simp only [impl_TokensAt.j0, decide_eq_false ht, Bool.not_false, if_true, true_and, if_neg ht]
theorem mem_take_at {l : List S37} {p : Nat} {x : S37} (h : x ∈ l.take p) : ∃ m : Nat, m < p ∧ m < l.length ∧ x = rd_T37 l (m : Int) := by
  obtain ⟨m, hm, rfl⟩ := List.getElem_of_mem h
  rw [List.length_take] at hm
  exact ⟨m, by omega, by omega, by rw [List.getElem_take, rdb_at l m (by omega)]⟩
theorem mem_drop_at {l : List S37} {p : Nat} {x : S37} (h : x ∈ l.drop p) : ∃ m : Nat, p ≤ m ∧ m < l.length ∧ x = rd_T37 l (m : Int) := by
  obtain ⟨m, hm, rfl⟩ := List.getElem_of_mem h
  rw [List.length_drop] at hm
  exact ⟨p + m, by omega, by omega, by rw [List.getElem_drop, rdb_at l (p + m) (by omega)]⟩
theorem filt_lt {l : List S37} {c : Int} {p : Nat} (h : At l c p) : l.filter (fun x => decide (x.f0 < c)) = l.take p := by
  obtain ⟨h0, h1, h2⟩ := h
  conv => lhs; rw [← List.take_append_drop p l]
  rw [List.filter_append, List.filter_eq_self.2 (fun x hx => by
    obtain ⟨m, hm, _, rfl⟩ := mem_take_at hx
    exact decide_eq_true (h1 m hm)), List.filter_eq_nil_iff.2 (fun x hx => by
    obtain ⟨m, hm, hl, rfl⟩ := mem_drop_at hx
    have := h2 m hm hl
    rw [decide_eq_true_eq]; omega), List.append_nil]
theorem filt_gt {l : List S37} {c : Int} {p : Nat} (h : At l c p) (hg : goodB none l = true) (q : Nat) (hq : q = if p < l.length ∧ (rd_T37 l (p : Int)).f0 = c then p + 1 else p) : l.filter (fun x => decide (c < x.f0)) = l.drop q := by
  obtain ⟨h0, h1, h2⟩ := h
  conv => lhs; rw [← List.take_append_drop q l]
  rw [List.filter_append, List.filter_eq_nil_iff.2 (fun x hx => by
    obtain ⟨m, hm, hl, rfl⟩ := mem_take_at hx
    rw [decide_eq_true_eq]
    by_cases hk : p < l.length ∧ (rd_T37 l (p : Int)).f0 = c
    · rw [if_pos hk] at hq
      by_cases he : m = p
      · subst he; omega
      · have := h1 m (by omega); omega
    · rw [if_neg hk] at hq
      have := h1 m (by omega); omega), List.filter_eq_self.2 (fun x hx => by
    obtain ⟨m, hm, hl, rfl⟩ := mem_drop_at hx
    rw [decide_eq_true_eq]
    by_cases hk : p < l.length ∧ (rd_T37 l (p : Int)).f0 = c
    · rw [if_pos hk] at hq
      have := goodB_asc _ hg p m (by omega) hl; omega
    · rw [if_neg hk] at hq
      by_cases he : m = p
      · subst he
        have := h2 m (by omega) hl
        have : (rd_T37 l (m : Int)).f0 ≠ c := fun e => hk ⟨hl, e⟩
        omega
      · have := goodB_asc _ hg p m (by omega) hl
        have := h2 p (Nat.le_refl _) (by omega)
        omega), List.nil_append]
theorem put_known {l : List S37} {c : Int} {p : Nat} (h : At l c p) (hg : goodB none l = true) (hk : p < l.length ∧ (rd_T37 l (p : Int)).f0 = c) (n t : Int) : putB l c n t = l.set p ⟨c, n, t⟩ := by
  unfold putB
  rw [filt_lt h, filt_gt h hg (p + 1) (by rw [if_pos hk]), List.set_eq_take_append_cons_drop, if_pos hk.1, List.append_assoc]
  rfl
theorem put_new {l : List S37} {c : Int} {p : Nat} (h : At l c p) (hg : goodB none l = true) (hk : ¬ (p < l.length ∧ (rd_T37 l (p : Int)).f0 = c)) (n t : Int) : putB l c n t = l.take p ++ [⟨c, n, t⟩] ++ l.drop p := by
  unfold putB
  rw [filt_lt h, filt_gt h hg p (by rw [if_neg hk])]
theorem early_at {l : List S37} {c t : Int} {p : Nat} (h : At l c p) (hg : goodB none l = true) : earlyB l c t = decide ((p < l.length ∧ (rd_T37 l (p : Int)).f0 = c) ∧ t < (rd_T37 l (p : Int)).f2) := by
  obtain ⟨h0, h1, h2⟩ := h
  unfold earlyB
  by_cases hd : (p < l.length ∧ (rd_T37 l (p : Int)).f0 = c) ∧ t < (rd_T37 l (p : Int)).f2
  · rw [decide_eq_true hd]
    refine List.any_eq_true.2 ⟨rd_T37 l (p : Int), by rw [rdb_at l p hd.1.1]; exact List.getElem_mem _, ?_⟩
    rw [beq_iff_eq.2 hd.1.2, decide_eq_true hd.2]; rfl
  · rw [decide_eq_false hd]
    refine List.any_eq_false.2 (fun x hx => ?_)
    obtain ⟨m, _, hl, rfl⟩ := mem_drop_at (p := 0) (by rw [List.drop_zero]; exact hx)
    intro hc
    rw [Bool.and_eq_true, beq_iff_eq, decide_eq_true_eq] at hc
    by_cases hm : m < p
    · have := h1 m hm; omega
    · by_cases he : m = p
      · subst he; exact hd ⟨⟨hl, hc.1⟩, hc.2⟩
      · have := goodB_asc _ hg p m (by omega) hl
        have := h2 p (Nat.le_refl _) (by omega)
        omega
theorem take_i {k : Nat} (l : List S37) (c t : Int) (hl : l.length ≤ 1048600) (hk : l.length + 15 < k) : impl_TakeToken.f k l c t = some (takeB l c t) := by
  obtain ⟨k, rfl⟩ : ∃ m, k = m + 2 := ⟨k - 2, by omega⟩
  have hr := toks_range l c t
  unfold impl_TakeToken.f takeB
  rw [toks_i l c t (by omega) (by omega), Option.bind_some, within_eq, Option.bind_some]
  simp only [impl_TakeToken.j0]
  by_cases h1 : toks l c t < 0
  · rw [if_pos h1, if_pos trivial, if_pos (Or.inl h1)]
  rw [if_neg h1]
  by_cases h2 : 0 ≤ c ∧ c ≤ 99
  rotate_left
  · rw [if_pos (show (!decide (0 ≤ c ∧ c ≤ 99)) = true by rw [decide_eq_false h2]; rfl), if_pos (Or.inr (Or.inl h2))]
  have hh : okB l = true ∧ 0 ≤ t ∧ t ≤ 3786479999 := by
    by_cases hh : okB l = true ∧ 0 ≤ t ∧ t ≤ 3786479999
    · exact hh
    · exact absurd (show toks l c t < 0 by unfold toks; rw [if_neg hh]; omega) h1
  have hg := okB_good hh.1
  have h8 := okB_len hh.1
  obtain ⟨p, hp, ep⟩ := place_ok (k := k + 1) l c (by omega) hg (by omega)
  have ec : impl_Bucket_48.f l = some l := by
    unfold impl_Bucket_48.f
    simp only [Option.bind_some, List.length_nil, List.nil_append]
    rw [if_pos (by omega)]
  rw [if_neg (show ¬ (!decide (0 ≤ c ∧ c ≤ 99)) = true by rw [decide_eq_true h2]; simp), ep, Option.bind_some, ec, Option.bind_some, early_at hp hg]
  simp only []
  have hpl := hp.1
  by_cases hc : p < l.length ∧ (rd_T37 l (p : Int)).f0 = c
  · rw [if_pos (decide_eq_true hc), if_pos (by omega), if_pos (by omega)]
    simp only [impl_TakeToken.j1]
    by_cases h3 : t < (rd_T37 l (p : Int)).f2
    · rw [if_pos (decide_eq_true h3), if_pos (Or.inr (Or.inr (decide_eq_true ⟨hc, h3⟩)))]
    · rw [if_neg (by rw [decide_eq_true_eq]; exact h3), if_neg (show ¬ (toks l c t < 0 ∨ ¬ (0 ≤ c ∧ c ≤ 99) ∨ decide ((p < l.length ∧ (rd_T37 l (p : Int)).f0 = c) ∧ t < (rd_T37 l (p : Int)).f2) = true) by rw [decide_eq_true_eq]; omega)]
      by_cases h4 : toks l c t = 0
      · rw [if_pos h4, if_pos h4]
      · rw [if_neg h4, if_neg h4, if_pos (decide_eq_true hc), if_pos (by omega), if_pos (by omega), Option.bind_some, Int.toNat_natCast, w64 (x := toks l c t - 1) (by omega) (by omega), ← put_known hp hg hc]
        have hlen : (putB l c (toks l c t - 1) t).length ≤ 9 := by rw [put_known hp hg hc, List.length_set]; omega
        rw [validB_i _ (by omega) (by omega), Option.bind_some]
        cases okB (putB l c (toks l c t - 1) t) <;> rfl
  · rw [if_neg (by rw [decide_eq_true_eq]; exact hc)]
    simp only [impl_TakeToken.j1]
    have h5 : toks l c t = 5 := by
      unfold toks
      rw [if_pos hh, find_at hp hg, if_neg hc]
    rw [if_neg (by simp), if_neg (show ¬ (toks l c t < 0 ∨ ¬ (0 ≤ c ∧ c ≤ 99) ∨ decide ((p < l.length ∧ (rd_T37 l (p : Int)).f0 = c) ∧ t < (rd_T37 l (p : Int)).f2) = true) by rw [decide_eq_true_eq]; exact fun h => by rcases h with h | h | h; omega; exact h h2; exact hc h.1), if_neg (show ¬ toks l c t = 0 by omega), if_neg (show ¬ toks l c t = 0 by omega), if_neg (by rw [decide_eq_true_eq]; exact hc)]
    have ei : impl_Bucket_51.f l (p : Int) [⟨c, wrap64 (toks l c t - 1), t⟩] = some (putB l c (toks l c t - 1) t) := by
      unfold impl_Bucket_51.f
      rw [if_pos ⟨by omega, by omega, rfl, by omega⟩, Int.toNat_natCast, put_new hp hg hc, w64 (x := toks l c t - 1) (by omega) (by omega)]
    have hlen : (putB l c (toks l c t - 1) t).length ≤ 9 := by rw [put_new hp hg hc]; simp; omega
    rw [ei, Option.bind_some, validB_i _ (by omega) (by omega), Option.bind_some]
    cases okB (putB l c (toks l c t - 1) t) <;> rfl
theorem equalB_l (l : List S37) (hl : l.length ≤ 1048600) (d : Nat) : ∀ (i k : Nat), i + d = l.length → d < k → laws_equalBuckets.l0 k l l (i : Int) = some true := by
  induction d with
  | zero =>
    intro i k h hk
    obtain ⟨k, rfl⟩ : ∃ m, k = m + 1 := ⟨k - 1, by omega⟩
    simp only [laws_equalBuckets.l0]
    rw [if_neg (by omega)]
  | succ d ih =>
    intro i k h hk
    obtain ⟨k, rfl⟩ : ∃ m, k = m + 1 := ⟨k - 1, by omega⟩
    simp only [laws_equalBuckets.l0]
    rw [if_pos (by omega), if_pos (by omega), if_pos (by omega), if_neg (by simp), w64 (by omega) (by omega)]
    exact ih (i + 1) k (by omega) (by omega)
theorem equalB_ok {k : Nat} (l : List S37) (hl : l.length ≤ 1048600) (hk : l.length < k) : laws_equalBuckets.f k l l = some true := by
  unfold laws_equalBuckets.f
  rw [if_pos rfl]
  exact equalB_l l hl l.length 0 k (by omega) hk
theorem drawT_ok {k : Nat} (hk : 170 ≤ k) {code : List Int} (hb : ∀ x ∈ code, (Lit.int .u8 x).wf = true) : ∃ l c t, spec_DrawTokensAt.f k code = some (l, c, t) ∧ l.length ≤ 9 ∧ -10 ≤ t ∧ t ≤ 3786481000 := by
  obtain ⟨k, rfl⟩ : ∃ m, k = m + 1 := ⟨k - 1, by omega⟩
  obtain ⟨b, eb, hB⟩ := newReader_ok hb
  obtain ⟨l, p, em, hm, hin, h0, h1⟩ := anyB_ok (k := k + 1) (by omega) hB
  obtain ⟨r1, e1, _, _⟩ := pick_ok (k := k + 1) (by omega) (p := p) 12 hB (by omega) (by omega)
  obtain ⟨r2, e2, g2, g2'⟩ := pick_ok (k := k + 1) (by omega) (p := p + 1) 60 hB (by omega) (by omega)
  obtain ⟨r3, e3, _, _⟩ := pick_ok (k := k + 1) (by omega) (p := p + 1 + 1) 4 hB (by omega) (by omega)
  unfold spec_DrawTokensAt.f
  rw [eb, Option.bind_some, em, Option.bind_some, e1, Option.bind_some, e2, Option.bind_some]
  simp only []
  rw [w64 (x := 1000 * r2) (by omega) (by omega)]
  by_cases hz : (l.length : Int) > 0
  · rw [if_pos hz, e3, Option.bind_some]
    simp only [spec_DrawTokensAt.j0]
    by_cases h3 : r3 > 0
    · rw [if_pos (decide_eq_true h3)]
      obtain ⟨q, e4, g4, g4'⟩ := pick_ok (k := k) (by omega) (p := p + 1 + 1 + 1) (l.length : Int) hB (by omega) (by omega)
      obtain ⟨v, e5, g5⟩ := one_ok (k := k) (by omega) (p := p + 1 + 1 + 1 + 1) [0, 1, 7, 8, 16, 40, -1] hB (by omega) (by omega) (by simp)
      simp at g5
      have hq := g4' (by omega)
      obtain ⟨i, rfl⟩ := Int.eq_ofNat_of_zero_le g4
      have hr := hin (rd_T37 l (i : Int)) (by rw [rdb_at l i (by omega)]; exact List.getElem_mem _)
      rw [e4, Option.bind_some, if_pos (by omega), if_pos (by omega), e5, Option.bind_some]
      simp only []
      rw [w64 (by omega) (by omega)]
      exact ⟨_, _, _, rfl, hm, by omega, by omega⟩
    · rw [if_neg (by rw [decide_eq_true_eq]; exact h3)]
      exact ⟨_, _, _, rfl, hm, by omega, by omega⟩
  · rw [if_neg hz]
    simp only [spec_DrawTokensAt.j0, Bool.false_eq_true, if_false]
    exact ⟨_, _, _, rfl, hm, by omega, by omega⟩
theorem drawK_ok {k : Nat} (hk : 170 ≤ k) {code : List Int} (hb : ∀ x ∈ code, (Lit.int .u8 x).wf = true) : ∃ l c t, spec_DrawTakeToken.f k code = some (l, c, t) ∧ l.length ≤ 9 ∧ -10 ≤ t ∧ t ≤ 3786481000 := by
  obtain ⟨l, c, t, e, h⟩ := drawT_ok (k := k) hk hb
  refine ⟨l, c, t, ?_, h⟩
  unfold spec_DrawTakeToken.f
  rw [e, Option.bind_some]
theorem takeB_len (l : List S37) (c t : Int) : (takeB l c t).1.length ≤ l.length + 9 := by
  unfold takeB
  split
  · simp
  · split
    · simp
    · split
      next h => have := okB_len h; show (putB l c (toks l c t - 1) t).length ≤ _; omega
      next => simp
theorem takeB_cases (l : List S37) (c t : Int) : takeB l c t = ([], false, false) ∨ (toks l c t = 0 ∧ okB l = true ∧ (0 ≤ c ∧ c ≤ 99) ∧ (0 ≤ t ∧ t ≤ 3786479999) ∧ earlyB l c t = false ∧ takeB l c t = (l, false, true)) ∨
    (0 < toks l c t ∧ toks l c t ≤ 5 ∧ okB l = true ∧ (0 ≤ c ∧ c ≤ 99) ∧ (0 ≤ t ∧ t ≤ 3786479999) ∧ earlyB l c t = false ∧ okB (putB l c (toks l c t - 1) t) = true ∧ takeB l c t = (putB l c (toks l c t - 1) t, true, true)) := by
  have hr := toks_range l c t
  by_cases h1 : toks l c t < 0 ∨ ¬ (0 ≤ c ∧ c ≤ 99) ∨ earlyB l c t = true
  · left; unfold takeB; rw [if_pos h1]
  have hh : okB l = true ∧ 0 ≤ t ∧ t ≤ 3786479999 := by
    by_cases hh : okB l = true ∧ 0 ≤ t ∧ t ≤ 3786479999
    · exact hh
    · exact absurd (show toks l c t < 0 by unfold toks; rw [if_neg hh]; omega) (fun h => h1 (Or.inl h))
  have hc : 0 ≤ c ∧ c ≤ 99 := Classical.byContradiction fun h => h1 (Or.inr (Or.inl h))
  have he : earlyB l c t = false := by
    cases e : earlyB l c t with
    | false => rfl
    | true => exact absurd (Or.inr (Or.inr e)) h1
  by_cases h2 : toks l c t = 0
  · right; left
    exact ⟨h2, hh.1, hc, hh.2, he, by unfold takeB; rw [if_neg h1, if_pos h2]⟩
  by_cases h3 : okB (putB l c (toks l c t - 1) t) = true
  · right; right
    exact ⟨by omega, hr.2, hh.1, hc, hh.2, he, h3, by unfold takeB; rw [if_neg h1, if_neg h2, if_pos h3]⟩
  · left; unfold takeB; rw [if_neg h1, if_neg h2, if_neg h3]
theorem find_put (l : List S37) (c m t : Int) : (putB l c m t).find? (fun x => x.f0 == c) = some ⟨c, m, t⟩ := by
  unfold putB
  rw [List.append_assoc, List.find?_append, List.find?_eq_none.2 (fun x hx => by
    have := of_decide_eq_true (List.mem_filter.1 hx).2
    simp
    omega), Option.none_or, List.singleton_append, List.find?_cons_of_pos (by simp)]
theorem goodB_set {l : List S37} {x : S37} (hx : inB x = true) : ∀ (pr : Option Int) (p : Nat), goodB pr l = true → (hp : p < l.length) → x.f0 = l[p].f0 → goodB pr (l.set p x) = true := by
  induction l with
  | nil => intro pr p _ hp; simp at hp
  | cons y ys ih =>
    intro pr p h hp e
    obtain ⟨h1, h2, h3⟩ := goodB_cons h
    cases p with
    | zero =>
      rw [List.set_cons_zero]
      have e' : x.f0 = y.f0 := e
      exact goodB_mk hx (by rw [e']; exact h2) (by rw [e']; exact h3)
    | succ p =>
      rw [List.set_cons_succ]
      exact goodB_mk h1 h2 (ih _ p h3 (by simpa using hp) (by simpa using e))
theorem take_known {L : List S37} {x : S37} {c t : Int} (hok : okB L = true) (hc : 0 ≤ c ∧ c ≤ 99) (ht : 0 ≤ t ∧ t ≤ 3786479999) (hf : L.find? (fun x => x.f0 == c) = some x) (h2 : x.f2 ≤ t) (h1 : 1 ≤ tokB x t) : ∃ o, takeB L c t = (o, true, true) := by
  have hg := okB_good hok
  have h8 := okB_len hok
  have e : toks L c t = tokB x t := by unfold toks; rw [if_pos ⟨hok, ht⟩, hf]
  have hr := toks_range L c t
  obtain ⟨p, hp, _⟩ := place_ok (k := 100) L c (by omega) hg (by omega)
  have hfa := find_at hp hg
  rw [hf] at hfa
  by_cases hk : p < L.length ∧ (rd_T37 L (p : Int)).f0 = c
  rotate_left
  · rw [if_neg hk] at hfa; cases hfa
  rw [if_pos hk] at hfa
  have hx : x = rd_T37 L (p : Int) := Option.some.inj hfa
  have hput : okB (putB L c (toks L c t - 1) t) = true := by
    rw [put_known hp hg hk]
    have hgs := goodB_set (x := ⟨c, toks L c t - 1, t⟩) (inB_mk hc (by simp only []; omega) ht) none p hg hk.1 (by rw [← rdb_at L p hk.1, hk.2])
    simp only [okB, Bool.and_eq_true, decide_eq_true_eq]
    exact ⟨hgs, by rw [List.length_set]; omega⟩
  refine ⟨putB L c (toks L c t - 1) t, ?_⟩
  unfold takeB
  rw [early_at hp hg, if_neg (by rw [decide_eq_true_eq, ← hx]; rw [e]; omega), if_neg (by omega), if_pos hput]
end KFnTakeTokenWait
open KFnTakeTokenWait
theorem FnTakeTokenWait (code : List Int) (_hl : code.length ≤ maxLen) (_hs : code.length * 1 ≤ 140737488351232) (hb : ∀ x ∈ code, (Lit.int .u8 x).wf = true) : ∃ k, laws_FnTakeTokenWait.f k code = some true := by
  refine ⟨201, ?_⟩
  unfold laws_FnTakeTokenWait.f
  by_cases h0 : (code.length : Int) > 1048576
  · rw [if_pos h0]
  obtain ⟨l, c, t, ed, hl, ht0, ht1⟩ := drawK_ok (k := 201) (by omega) hb
  have hd := takeB_len l c t
  rw [if_neg h0, ed, Option.bind_some]
  simp only []
  rw [take_i l c t (by omega) (by omega), Option.bind_some, take_s l c t (by omega) (by omega), Option.bind_some, equalB_ok _ (by omega) (by omega), Option.bind_some, if_pos rfl, if_neg (by simp), if_neg (by simp), w64 (x := t + 8) (by omega) (by omega)]
  simp only [laws_FnTakeTokenWait.j0]
  rw [equalB_ok _ (by omega) (by omega), Option.bind_some, if_pos rfl, beq_self_eq_true, beq_self_eq_true, if_pos rfl, w64 (x := t + 8) (by omega) (by omega)]
  have fin : ∀ (o : List S37) (x : S37), okB o = true → 0 ≤ c ∧ c ≤ 99 → 0 ≤ t → t + 8 ≤ 3786479999 → o.find? (fun x => x.f0 == c) = some x → x.f2 ≤ t → 1 ≤ tokB x (t + 8) →
      ((impl_TakeToken.f 200 o c (t + 8)).bind fun bt306 => (if bt306.2.2 = true then (some bt306.2.1) else (some false))) = some true := fun o x hok hc g0 g1 hf h2 h1 => by
    have h8 := okB_len hok
    obtain ⟨o2, e⟩ := take_known hok hc (t := t + 8) (by omega) hf (by omega) h1
    rw [take_i o c (t + 8) (by omega) (by omega), Option.bind_some, e]
    rfl
  rcases takeB_cases l c t with h | ⟨h0, hok, hc, ht, he, h⟩ | ⟨h0, h5, hok, hc, ht, he, hput, h⟩
  · rw [h]; rfl
  · rw [h, if_pos rfl]
    by_cases h2 : t + 8 > 3786479999
    · rw [if_pos (decide_eq_true h2)]
    rw [if_neg (by rw [decide_eq_true_eq]; exact h2)]
    unfold toks at h0
    rw [if_pos ⟨hok, ht⟩] at h0
    cases hf : l.find? (fun x => x.f0 == c) with
    | none => rw [hf] at h0; simp at h0
    | some x =>
      rw [hf] at h0
      have h0' : tokB x t = 0 := h0
      have hm := List.mem_of_find?_eq_some hf
      have hcx := List.find?_some hf
      have hx := inB_of (goodB_range _ (okB_good hok) x hm)
      have hlt : ¬ t < x.f2 := fun hlt => by
        have : earlyB l c t = true := by
          unfold earlyB
          exact List.any_eq_true.2 ⟨x, hm, by rw [hcx, decide_eq_true hlt]; rfl⟩
        rw [this] at he; cases he
      refine fin l x hok hc ht.1 (by omega) hf (by omega) ?_
      unfold tokB mn mx
      repeat' split
      all_goals omega
  · rw [h, if_pos rfl]
    by_cases h2 : t + 8 > 3786479999
    · rw [if_pos (decide_eq_true h2)]
    rw [if_neg (by rw [decide_eq_true_eq]; exact h2)]
    refine fin _ ⟨c, toks l c t - 1, t⟩ hput hc ht.1 (by omega) (find_put l c _ t) (Int.le_refl _) ?_
    generalize toks l c t = n at *
    unfold tokB mn mx
    simp only []
    repeat' split
    all_goals omega

end Go.Proofs.Ytjhioifohbpdhaa.Pure
