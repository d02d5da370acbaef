/- Proved: the program's TakeToken returns what the reference's returns, for all arguments, and its result shares no memory (FnExactTakeToken); no condition beyond the statement's own. -/
import Derived.Test.YtjhioifohbpdhaaPFnExactTakeTokenx
import Derived.Laws.BitsLemmas
namespace Go.Proofs.Ytjhioifohbpdhaa.Pure
open Go Go.RowKit Go.Proofs.Ytjhioifohbpdhaa.PFnExactTakeToken Go.Proofs.YtjhioifohbpdhaaW.PrintWords Go.Proofs.YtjhioifohbpdhaaW.PrintLast Go.Proofs.YtjhioifohbpdhaaW.PrintMore

namespace KFnExactTakeToken
theorem w64 {x : Int} (h1 : -9223372036854775808 ≤ x) (h2 : x < 9223372036854775808) : wrap64 x = x := by unfold wrap64; omega
theorem i64wrap (x : Int) : IntKind.i64.wrap x = wrap64 x := by rw [IntKind.wrap_i64]; unfold wrap64; rfl
theorem tm {a b : Int} (h : 0 ≤ a) : Int.tmod a b = a % b := Int.tmod_eq_emod_of_nonneg h
theorem td {a b : Int} (h : 0 ≤ a) : Int.tdiv a b = a / b := Int.tdiv_eq_ediv_of_nonneg h
theorem sval {α : Type} {x : Option α} {a : α} (h : x = some a) {β : Type} (f : α → Option β) : x.bind f = f a := by rw [h]; rfl
theorem within_eq (n lo hi : Int) : impl_within.f n lo hi = some (decide (lo ≤ n ∧ n ≤ hi)) := by
  unfold impl_within.f
  by_cases h : lo ≤ n <;> simp [h]
theorem inRange_eq (n lo hi : Int) : spec_inRange.f n lo hi = some (decide (lo ≤ n ∧ n ≤ hi)) := by
  unfold spec_inRange.f
  by_cases h : lo ≤ n <;> simp [h]
theorem fill_step {α : Type} (l : List α) (z v : α) (i : Nat) (h : i < l.length) (hv : v = l[i]) : (l.take i ++ List.replicate (l.length - i) z).set i v = l.take (i + 1) ++ List.replicate (l.length - (i + 1)) z := by
  have e : l.length - i = (l.length - (i + 1)) + 1 := by omega
  have ht : (l.take i).length = i := by rw [List.length_take]; omega
  rw [List.set_append_right i v (by omega), ht, Nat.sub_self, e, List.replicate_succ, List.set_cons_zero, hv, show List.take (i + 1) l = List.take i l ++ [l[i]] from List.take_succ_eq_append_getElem h, List.append_assoc]
  rfl
theorem fill_end {α : Type} (l : List α) (z : α) : l.take l.length ++ List.replicate (l.length - l.length) z = l := by simp
theorem rd_at (l : List Int) (i : Nat) (h : i < l.length) : rd l (i : Int) = l[i] := by unfold rd; simp [List.getD_eq_getElem?_getD, h]
def toB (x : S46) : S37 := ⟨x.f0, x.f1, x.f2⟩
theorem rdg_at (l : List S46) (i : Nat) (h : i < l.length) : rd_T46 l (i : Int) = l[i] := by unfold rd_T46; simp [List.getD_eq_getElem?_getD, h]
theorem fill_map {α β : Type} (g : α → β) (l : List α) (z v : β) (i : Nat) (h : i < l.length) (hv : v = g l[i]) : ((l.map g).take i ++ List.replicate (l.length - i) z).set i v = (l.map g).take (i + 1) ++ List.replicate (l.length - (i + 1)) z := by
  have := fill_step (l.map g) z v i (by simpa using h) (by simpa using hv)
  simpa using this
theorem toBucketS_l (l : List S46) (hl : l.length ≤ 1048576) (d : Nat) : ∀ (i k : Nat), i + d = l.length → d < k → laws_toBucketS.l0 k l ((l.map toB).take i ++ List.replicate (l.length - i) z37) (i : Int) = some (l.map toB) := by
  induction d with
  | zero =>
    intro i k h hk
    obtain ⟨k, rfl⟩ : ∃ m, k = m + 1 := ⟨k - 1, by omega⟩
    obtain rfl : i = l.length := by omega
    simp only [laws_toBucketS.l0]
    rw [if_neg (by omega), List.take_of_length_le (by simp)]
    simp
  | succ d ih =>
    intro i k h hk
    obtain ⟨k, rfl⟩ : ∃ m, k = m + 1 := ⟨k - 1, by omega⟩
    simp only [laws_toBucketS.l0]
    unfold laws_toBucket.f
    rw [if_pos (by omega), if_pos (by omega), Option.bind_some, if_pos (by simp; omega), w64 (by omega) (by omega), Int.toNat_natCast, fill_map toB l z37 _ i (by omega) (by rw [rdg_at l i (by omega)]; rfl)]
    exact ih (i + 1) k (by omega) (by omega)
theorem toBucketS_ok {k : Nat} (l : List S46) (hl : l.length ≤ 1048576) (hk : l.length < k) : laws_toBucketS.f k l = some (l.map toB) := by
  unfold laws_toBucketS.f
  rw [if_pos (by omega), if_pos (by omega), Int.toNat_natCast]
  exact toBucketS_l l hl l.length 0 k (by omega) hk
theorem eqBucketS_l (l : List S37) (hl : l.length ≤ 1048576) (d : Nat) : ∀ (i k : Nat), i + d = l.length → d < k → laws_eqBucketS.l0 k l l (i : Int) = some true := by
  induction d with
  | zero =>
    intro i k h hk
    obtain ⟨k, rfl⟩ : ∃ m, k = m + 1 := ⟨k - 1, by omega⟩
    simp only [laws_eqBucketS.l0]
    rw [if_neg (by omega)]
  | succ d ih =>
    intro i k h hk
    obtain ⟨k, rfl⟩ : ∃ m, k = m + 1 := ⟨k - 1, by omega⟩
    simp only [laws_eqBucketS.l0]
    unfold laws_eqBucket.f
    rw [if_pos (by omega), if_pos (by omega), if_pos (by omega), w64 (by omega) (by omega)]
    simp only [if_true, Option.bind_some]
    exact ih (i + 1) k (by omega) (by omega)
theorem eqBucketS_ok {k : Nat} (l : List S37) (hl : l.length ≤ 1048576) (hk : l.length < k) : laws_eqBucketS.f k l l = some true := by
  unfold laws_eqBucketS.f
  rw [if_pos rfl]
  exact eqBucketS_l l hl l.length 0 k (by omega) hk
theorem szBucketS_eq (l : List S46) (hs : l.length * 24 ≤ 140737488351232) : laws_szBucketS.f l 1048576 = some (if l.length ≤ 1048576 then 1048576 - (l.length : Int) else -1) := by
  unfold laws_szBucketS.f
  rw [w64 (by omega) (by omega)]
  by_cases h : l.length ≤ 1048576
  · rw [if_neg (by omega), if_pos h]
  · rw [if_pos (by omega), if_neg h]
/-- A bucket in its ranges. -/
def inB (x : S37) : Bool := decide (0 ≤ x.f0 ∧ x.f0 ≤ 99) && (decide (0 ≤ x.f1 ∧ x.f1 ≤ 5) && decide (0 ≤ x.f2 ∧ x.f2 ≤ 3786479999))
/-- Buckets in their ranges whose clients ascend, behind one that may stand ahead of them. -/
def goodB : Option Int → List S37 → Bool
  | _, [] => true
  | none, x :: xs => inB x && goodB (some x.f0) xs
  | some p, x :: xs => inB x && (decide (p < x.f0) && goodB (some x.f0) xs)
def okB (l : List S37) : Bool := goodB none l && decide (l.length ≤ 8)
theorem rdb_at (l : List S37) (i : Nat) (h : i < l.length) : rd_T37 l (i : Int) = l[i] := by unfold rd_T37; simp [List.getD_eq_getElem?_getD, h]
def prevB (l : List S37) (i : Nat) : Option Int := if i = 0 then none else some (rd_T37 l ((i : Int) - 1)).f0
theorem prevB_succ (l : List S37) (i : Nat) : prevB l (i + 1) = some (rd_T37 l (i : Int)).f0 := by unfold prevB; rw [if_neg (by omega)]; congr 3; omega
theorem dropB_at (l : List S37) (i : Nat) (h : i < l.length) : l.drop i = rd_T37 l (i : Int) :: l.drop (i + 1) := by
  rw [rdb_at l i h, List.drop_eq_getElem_cons h]
theorem goodB_cons {pr : Option Int} {x : S37} {xs : List S37} (h : goodB pr (x :: xs) = true) : inB x = true ∧ (∀ p, pr = some p → p < x.f0) ∧ goodB (some x.f0) xs = true := by
  cases pr with
  | none => simp [goodB] at h; exact ⟨h.1, fun p e => (by cases e), h.2⟩
  | some p => simp [goodB] at h; exact ⟨h.1, fun q e => (by cases e; exact h.2.1), h.2.2⟩
theorem goodB_mk {pr : Option Int} {x : S37} {xs : List S37} (h1 : inB x = true) (h2 : ∀ p, pr = some p → p < x.f0) (h3 : goodB (some x.f0) xs = true) : goodB pr (x :: xs) = true := by
  cases pr with
  | none => simp [goodB, h1, h3]
  | some p => simp [goodB, h1, h3, h2 p rfl]
theorem goodB_tail {pr : Option Int} {x : S37} {xs : List S37} (h : goodB pr (x :: xs) = true) : goodB pr xs = true := by
  obtain ⟨h1, h2, h3⟩ := goodB_cons h
  cases xs with
  | nil => cases pr <;> rfl
  | cons y ys =>
    obtain ⟨g1, g2, g3⟩ := goodB_cons h3
    exact goodB_mk g1 (fun p e => by have := h2 p e; have := g2 x.f0 rfl; omega) g3
theorem goodB_sub {a l : List S37} (h : List.Sublist a l) : ∀ pr, goodB pr l = true → goodB pr a = true := by
  induction h with
  | slnil => intro pr h; exact h
  | cons x _ ih => intro pr h; exact ih pr (goodB_tail h)
  | cons_cons x _ ih =>
    intro pr h
    obtain ⟨h1, h2, h3⟩ := goodB_cons h
    exact goodB_mk h1 h2 (ih _ h3)
theorem okB_sub {a l : List S37} (h : List.Sublist a l) (hl : okB l = true) : okB a = true := by
  have hlen := h.length_le
  simp only [okB, Bool.and_eq_true, decide_eq_true_eq] at hl ⊢
  exact ⟨goodB_sub h _ hl.1, by omega⟩
theorem goodB_range {l : List S37} : ∀ pr, goodB pr l = true → ∀ x ∈ l, inB x = true := by
  induction l with
  | nil => intro pr _ x hx; cases hx
  | cons y ys ih =>
    intro pr h x hx
    obtain ⟨h1, _, h3⟩ := goodB_cons h
    rcases List.mem_cons.1 hx with rfl | hx
    · exact h1
    · exact ih _ h3 x hx
theorem goodB_lt {l : List S37} : ∀ {p : Int}, goodB (some p) l = true → ∀ x ∈ l, p < x.f0 := by
  induction l with
  | nil => intro p _ x hx; cases hx
  | cons y ys ih =>
    intro p h x hx
    obtain ⟨_, h2, h3⟩ := goodB_cons h
    have := h2 p rfl
    rcases List.mem_cons.1 hx with rfl | hx
    · exact this
    · have := ih h3 x hx; omega
theorem inB_of {x : S37} (h : inB x = true) : (0 ≤ x.f0 ∧ x.f0 ≤ 99) ∧ (0 ≤ x.f1 ∧ x.f1 ≤ 5) ∧ (0 ≤ x.f2 ∧ x.f2 ≤ 3786479999) := by
  simpa [inB] using h
theorem inB_mk {x : S37} (h1 : 0 ≤ x.f0 ∧ x.f0 ≤ 99) (h2 : 0 ≤ x.f1 ∧ x.f1 ≤ 5) (h3 : 0 ≤ x.f2 ∧ x.f2 ≤ 3786479999) : inB x = true := by
  simp [inB, h1, h2, h3]
theorem validB_i_time (t : Int) : impl_isTime.f t = some (decide (0 ≤ t ∧ t ≤ 3786479999)) := by
  unfold impl_isTime.f
  rw [within_eq, Option.bind_some]
theorem validB_i_l (l : List S37) (hl : l.length ≤ 4000000) (n : Nat) : ∀ (i k : Nat), i + n = l.length → n < k → impl_ValidBuckets.l0 k l l (l.length : Int) (i : Int) = some (goodB (prevB l i) (l.drop i) && decide (l.length ≤ 8)) := by
  induction n with
  | zero =>
    intro i k h hk
    obtain ⟨k, rfl⟩ : ∃ m, k = m + 1 := ⟨k - 1, by omega⟩
    simp only [impl_ValidBuckets.l0]
    rw [if_neg (by omega), List.drop_eq_nil_of_le (by omega)]
    unfold prevB
    split <;> (simp only [goodB, Bool.true_and]; exact congrArg some (decide_eq_decide.2 (by omega)))
  | succ n ih =>
    intro i k h hk
    obtain ⟨k, rfl⟩ : ∃ m, k = m + 1 := ⟨k - 1, by omega⟩
    have IH := ih (i + 1) k (by omega) (by omega)
    rw [prevB_succ, show ((i + 1 : Nat) : Int) = (i : Int) + 1 by omega] at IH
    simp only [impl_ValidBuckets.l0]
    rw [if_pos (by omega), if_pos (by omega), if_pos (by omega), within_eq, Option.bind_some, within_eq, Option.bind_some, validB_i_time, Option.bind_some, dropB_at l i (by omega), w64 (x := (i : Int) + 1) (by omega) (by omega), IH]
    by_cases h1 : 0 ≤ (rd_T37 l (i : Int)).f0 ∧ (rd_T37 l (i : Int)).f0 ≤ 99
    rotate_left
    · rw [if_neg (by simpa using h1)]
      unfold prevB
      split <;> simp only [goodB, inB, decide_eq_false h1, Bool.false_and]
    rw [if_pos (decide_eq_true h1)]
    by_cases h2 : 0 ≤ (rd_T37 l (i : Int)).f1 ∧ (rd_T37 l (i : Int)).f1 ≤ 5
    rotate_left
    · rw [if_neg (by simpa using h2)]
      unfold prevB
      split <;> simp only [goodB, inB, decide_eq_true h1, decide_eq_false h2, Bool.false_and, Bool.true_and]
    rw [if_pos (decide_eq_true h2)]
    by_cases h3 : 0 ≤ (rd_T37 l (i : Int)).f2 ∧ (rd_T37 l (i : Int)).f2 ≤ 3786479999
    rotate_left
    · rw [if_neg (by simpa using h3)]
      unfold prevB
      split <;> simp only [goodB, inB, decide_eq_true h1, decide_eq_true h2, decide_eq_false h3, Bool.false_and, Bool.true_and]
    rw [if_pos (decide_eq_true h3)]
    by_cases h0 : i = 0
    · subst h0
      rw [if_neg (by omega)]
      simp only [prevB, if_true, goodB, inB, decide_eq_true h1, decide_eq_true h2, decide_eq_true h3, Bool.true_and]
    · rw [if_pos (by omega), w64 (by omega) (by omega), if_pos (by omega), if_pos (by omega)]
      unfold prevB
      rw [if_neg h0]
      simp only [goodB, inB, decide_eq_true h1, decide_eq_true h2, decide_eq_true h3, Bool.true_and]
      by_cases h4 : (rd_T37 l ((i : Int) - 1)).f0 < (rd_T37 l (i : Int)).f0
      · rw [if_neg (by omega), decide_eq_true h4, Bool.true_and]
      · rw [if_pos (by omega), decide_eq_false h4, Bool.false_and, Bool.false_and]
theorem validB_i {k : Nat} (l : List S37) (hl : l.length ≤ 4000000) (hk : l.length < k) : impl_ValidBuckets.f k l = some (okB l) := by
  have := validB_i_l l hl l.length 0 k (by omega) hk
  simpa [impl_ValidBuckets.f, okB, prevB] using this
theorem validB_s_time (t : Int) : spec_validTime.f t = some (decide (0 ≤ t ∧ t ≤ 3786479999)) := by
  unfold spec_validTime.f
  rw [inRange_eq, Option.bind_some]
theorem validB_s_l (l : List S37) (hl : l.length ≤ 4000000) (n : Nat) : ∀ (i k : Nat), i + n = l.length → n < k → spec_validBuckets.l0 k l (i : Int) = some (goodB (prevB l i) (l.drop i) && decide (l.length ≤ 8)) := by
  induction n with
  | zero =>
    intro i k h hk
    obtain ⟨k, rfl⟩ : ∃ m, k = m + 1 := ⟨k - 1, by omega⟩
    simp only [spec_validBuckets.l0]
    rw [if_neg (by omega), List.drop_eq_nil_of_le (by omega)]
    unfold prevB
    split <;> (simp only [goodB, Bool.true_and]; exact congrArg some (decide_eq_decide.2 (by omega)))
  | succ n ih =>
    intro i k h hk
    obtain ⟨k, rfl⟩ : ∃ m, k = m + 1 := ⟨k - 1, by omega⟩
    have IH := ih (i + 1) k (by omega) (by omega)
    rw [prevB_succ, show ((i + 1 : Nat) : Int) = (i : Int) + 1 by omega] at IH
    simp only [spec_validBuckets.l0]
    rw [if_pos (by omega), if_pos (by omega), inRange_eq, Option.bind_some, inRange_eq, Option.bind_some, validB_s_time, Option.bind_some, dropB_at l i (by omega), w64 (x := (i : Int) + 1) (by omega) (by omega), IH]
    by_cases h1 : 0 ≤ (rd_T37 l (i : Int)).f0 ∧ (rd_T37 l (i : Int)).f0 ≤ 99
    rotate_left
    · rw [if_neg (by simpa using h1)]
      unfold prevB
      split <;> simp only [goodB, inB, decide_eq_false h1, Bool.false_and]
    rw [if_pos (decide_eq_true h1)]
    by_cases h2 : 0 ≤ (rd_T37 l (i : Int)).f1 ∧ (rd_T37 l (i : Int)).f1 ≤ 5
    rotate_left
    · rw [if_neg (by simpa using h2)]
      unfold prevB
      split <;> simp only [goodB, inB, decide_eq_true h1, decide_eq_false h2, Bool.false_and, Bool.true_and]
    rw [if_pos (decide_eq_true h2)]
    by_cases h3 : 0 ≤ (rd_T37 l (i : Int)).f2 ∧ (rd_T37 l (i : Int)).f2 ≤ 3786479999
    rotate_left
    · rw [if_neg (by simpa using h3)]
      unfold prevB
      split <;> simp only [goodB, inB, decide_eq_true h1, decide_eq_true h2, decide_eq_false h3, Bool.false_and, Bool.true_and]
    rw [if_pos (decide_eq_true h3)]
    by_cases h0 : i = 0
    · subst h0
      rw [if_neg (by omega)]
      simp only [prevB, if_true, goodB, inB, decide_eq_true h1, decide_eq_true h2, decide_eq_true h3, Bool.true_and]
    · rw [if_pos (by omega), w64 (by omega) (by omega), if_pos (by omega), if_pos (by omega)]
      unfold prevB
      rw [if_neg h0]
      simp only [goodB, inB, decide_eq_true h1, decide_eq_true h2, decide_eq_true h3, Bool.true_and]
      by_cases h4 : (rd_T37 l ((i : Int) - 1)).f0 < (rd_T37 l (i : Int)).f0
      · rw [if_neg (by omega), decide_eq_true h4, Bool.true_and]
      · rw [if_pos (by omega), decide_eq_false h4, Bool.false_and, Bool.false_and]
theorem validB_s {k : Nat} (l : List S37) (hl : l.length ≤ 4000000) (hk : l.length < k) : spec_validBuckets.f k l = some (okB l) := by
  have := validB_s_l l hl l.length 0 k (by omega) hk
  simpa [spec_validBuckets.f, okB, prevB] using this
/-- The tokens of a bucket at a time. -/
def tokB (x : S37) (t : Int) : Int := mn 5 (x.f1 + mx 0 (t - x.f2) / 8)
/-- The tokens of a client at a time. -/
def toks (l : List S37) (c t : Int) : Int := if okB l = true ∧ 0 ≤ t ∧ t ≤ 3786479999 then (match l.find? (fun x => x.f0 == c) with | some x => tokB x t | none => 5) else -1
def earlyB (l : List S37) (c t : Int) : Bool := l.any (fun x => x.f0 == c && decide (t < x.f2))
theorem mx0_nonneg (x : Int) : 0 ≤ mx 0 x := by unfold mx; split <;> omega
theorem mx0_le {x m : Int} (h : x ≤ m) (h0 : 0 ≤ m) : mx 0 x ≤ m := by unfold mx; split <;> omega
theorem tokB_range {x : S37} (t : Int) (h : 0 ≤ x.f1) : 0 ≤ tokB x t ∧ tokB x t ≤ 5 := by
  have := mx0_nonneg (t - x.f2)
  have := Int.ediv_nonneg this (show (0 : Int) ≤ 8 by omega)
  unfold tokB mn
  split <;> omega
theorem toks_range (l : List S37) (c t : Int) : -1 ≤ toks l c t ∧ toks l c t ≤ 5 := by
  unfold toks
  split
  next h =>
    split
    next x hx =>
      have hm := List.mem_of_find?_eq_some hx
      have hg : goodB none l = true := by have := h.1; simp [okB] at this; exact this.1
      have := inB_of (goodB_range _ hg x hm)
      have := tokB_range t (x := x) (by omega)
      omega
    next => omega
  next => omega
theorem okB_len {l : List S37} (h : okB l = true) : l.length ≤ 8 := by simp [okB] at h; exact h.2
theorem okB_good {l : List S37} (h : okB l = true) : goodB none l = true := by simp [okB] at h; exact h.1
theorem tokB_s {x : S37} {t : Int} (h : inB x = true) (h0 : 0 ≤ t) (h1 : t ≤ 3786479999) : spec_tokensAt.f x.f0 x.f1 x.f2 t = some (tokB x t) := by
  have hx := inB_of h
  unfold spec_tokensAt.f tokB
  have h2 := mx0_nonneg (t - x.f2)
  have h3 := mx0_le (x := t - x.f2) (m := 3786479999) (by omega) (by omega)
  rw [w64 (x := t - x.f2) (by omega) (by omega)]
  have h4 := Int.ediv_nonneg h2 (show (0 : Int) ≤ 8 by omega)
  have h5 : mx 0 (t - x.f2) / 8 ≤ mx 0 (t - x.f2) := Int.ediv_le_self _ h2
  rw [w64 (x := mx 0 (t - x.f2) / 8) (by omega) (by omega), w64 (by omega) (by omega)]
theorem toks_sl (l : List S37) (c t : Int) (hl : l.length ≤ 1048600) (h0 : 0 ≤ t) (h1 : t ≤ 3786479999) (hin : ∀ x ∈ l, inB x = true) (n : Nat) : ∀ (i k : Nat), i + n = l.length → n < k → spec_TokensAt.l0 k l c t (i : Int) = some (match (l.drop i).find? (fun x => x.f0 == c) with | some x => tokB x t | none => 5) := by
  induction n with
  | zero =>
    intro i k h hk
    obtain ⟨k, rfl⟩ : ∃ m, k = m + 1 := ⟨k - 1, by omega⟩
    simp only [spec_TokensAt.l0]
    rw [if_neg (by omega), List.drop_eq_nil_of_le (by omega)]
    rfl
  | succ n ih =>
    intro i k h hk
    obtain ⟨k, rfl⟩ : ∃ m, k = m + 1 := ⟨k - 1, by omega⟩
    have IH := ih (i + 1) k (by omega) (by omega)
    rw [show ((i + 1 : Nat) : Int) = (i : Int) + 1 by omega] at IH
    simp only [spec_TokensAt.l0]
    rw [if_pos (by omega), if_pos (by omega), w64 (x := (i : Int) + 1) (by omega) (by omega), IH, dropB_at l i (by omega)]
    have hx : inB (rd_T37 l (i : Int)) = true := hin _ (by rw [rdb_at l i (by omega)]; exact List.getElem_mem _)
    by_cases hc : (rd_T37 l (i : Int)).f0 = c
    · rw [if_pos hc, tokB_s hx h0 h1, Option.bind_some, List.find?_cons_of_pos (by simpa using hc)]
    · rw [if_neg hc, List.find?_cons_of_neg (by simpa using hc)]
theorem toks_s {k : Nat} (l : List S37) (c t : Int) (hl : l.length ≤ 1048600) (hk : l.length + 1 < k) : spec_TokensAt.f k l c t = some (toks l c t) := by
  obtain ⟨k, rfl⟩ : ∃ m, k = m + 1 := ⟨k - 1, by omega⟩
  unfold spec_TokensAt.f toks
  rw [validB_s l (by omega) (by omega), Option.bind_some]
  cases h : okB l with
  | false => simp [spec_TokensAt.j0]
  | true =>
    rw [if_pos rfl, validB_s_time, Option.bind_some]
    by_cases ht : 0 ≤ t ∧ t ≤ 3786479999
    · simp only [spec_TokensAt.j0, decide_eq_true ht, Bool.not_true, Bool.false_eq_true, if_false, true_and, if_pos ht]
      have := toks_sl l c t hl ht.1 ht.2 (goodB_range _ (okB_good h)) l.length 0 k (by omega) (by omega)
      simpa using this
    · simp only [spec_TokensAt.j0, decide_eq_false ht, Bool.not_false, if_true, true_and, if_neg ht]
theorem inTime_sl (l : List S37) (c t : Int) (hl : l.length ≤ 1048600) (n : Nat) : ∀ (i k : Nat), i + n = l.length → n < k → spec_inTime.l0 k l c t (i : Int) = some (!earlyB (l.drop i) c t) := by
  induction n with
  | zero =>
    intro i k h hk
    obtain ⟨k, rfl⟩ : ∃ m, k = m + 1 := ⟨k - 1, by omega⟩
    simp only [spec_inTime.l0]
    rw [if_neg (by omega), List.drop_eq_nil_of_le (by omega)]
    rfl
  | succ n ih =>
    intro i k h hk
    obtain ⟨k, rfl⟩ : ∃ m, k = m + 1 := ⟨k - 1, by omega⟩
    have IH := ih (i + 1) k (by omega) (by omega)
    rw [show ((i + 1 : Nat) : Int) = (i : Int) + 1 by omega] at IH
    simp only [spec_inTime.l0]
    rw [if_pos (by omega), if_pos (by omega), w64 (x := (i : Int) + 1) (by omega) (by omega), IH, dropB_at l i (by omega)]
    unfold earlyB
    rw [List.any_cons]
    by_cases hc : (rd_T37 l (i : Int)).f0 = c
    · rw [if_pos hc, beq_iff_eq.2 hc, Bool.true_and]
      by_cases ht : t < (rd_T37 l (i : Int)).f2
      · rw [if_pos ht, decide_eq_true ht]; rfl
      · rw [if_neg ht, decide_eq_false ht, Bool.false_or]
    · rw [if_neg hc, beq_false_of_ne hc, Bool.false_and, Bool.false_or]
theorem inTime_s {k : Nat} (l : List S37) (c t : Int) (hl : l.length ≤ 1048600) (hk : l.length < k) : spec_inTime.f k l c t = some (!earlyB l c t) := by
  have := inTime_sl l c t hl l.length 0 k (by omega) hk
  simpa [spec_inTime.f] using this
/-- The buckets behind a client's question that is answered. -/
def putB (l : List S37) (c n t : Int) : List S37 := l.filter (fun x => decide (x.f0 < c)) ++ [⟨c, n, t⟩] ++ l.filter (fun x => decide (c < x.f0))
def takeB (l : List S37) (c t : Int) : List S37 × Bool × Bool :=
  if toks l c t < 0 ∨ ¬ (0 ≤ c ∧ c ≤ 99) ∨ earlyB l c t = true then ([], false, false)
  else if toks l c t = 0 then (l, false, true)
  else if okB (putB l c (toks l c t - 1) t) = true then (putB l c (toks l c t - 1) t, true, true) else ([], false, false)
theorem take_sl1 (l : List S37) (c : Int) (hl : l.length ≤ 1048600) (n : Nat) : ∀ (i k : Nat) (o : List S37), i + n = l.length → o.length + n ≤ 3000000 → o.length + n + n + 1 < k → spec_TakeToken.l1 k l c o (i : Int) = some (if okB (o ++ (l.drop i).filter (fun x => decide (c < x.f0))) = true then (o ++ (l.drop i).filter (fun x => decide (c < x.f0)), true, true) else ([], false, false)) := by
  induction n with
  | zero =>
    intro i k o h ho hk
    obtain ⟨k, rfl⟩ : ∃ m, k = m + 1 := ⟨k - 1, by omega⟩
    simp only [spec_TakeToken.l1]
    rw [if_neg (by omega), List.drop_eq_nil_of_le (by omega), List.filter_nil, List.append_nil, validB_s o (by omega) (by omega), Option.bind_some]
    cases okB o <;> rfl
  | succ n ih =>
    intro i k o h ho hk
    obtain ⟨k, rfl⟩ : ∃ m, k = m + 1 := ⟨k - 1, by omega⟩
    simp only [spec_TakeToken.l1]
    rw [if_pos (by omega), if_pos (by omega), w64 (x := (i : Int) + 1) (by omega) (by omega), dropB_at l i (by omega)]
    by_cases hc : c < (rd_T37 l (i : Int)).f0
    · rw [if_pos hc, if_pos (by omega), List.filter_cons_of_pos (by simpa using hc)]
      have IH := ih (i + 1) k (o ++ [rd_T37 l (i : Int)]) (by omega) (by simp; omega) (by simp; omega)
      rw [show ((i + 1 : Nat) : Int) = (i : Int) + 1 by omega, List.append_assoc, List.singleton_append] at IH
      exact IH
    · rw [if_neg (by omega), List.filter_cons_of_neg (by simpa using hc)]
      have IH := ih (i + 1) k o (by omega) (by omega) (by omega)
      rw [show ((i + 1 : Nat) : Int) = (i : Int) + 1 by omega] at IH
      exact IH
theorem take_sl (l : List S37) (c t m : Int) (hm : -10 < m ∧ m < 10) (hl : l.length ≤ 1048600) (n : Nat) : ∀ (i k : Nat) (o : List S37), i + n = l.length → o.length ≤ i → 4 * l.length + 10 < k + i → spec_TakeToken.l0 k l c t o m (i : Int) = some (if okB (o ++ (l.drop i).filter (fun x => decide (x.f0 < c)) ++ [⟨c, m - 1, t⟩] ++ l.filter (fun x => decide (c < x.f0))) = true then (o ++ (l.drop i).filter (fun x => decide (x.f0 < c)) ++ [⟨c, m - 1, t⟩] ++ l.filter (fun x => decide (c < x.f0)), true, true) else ([], false, false)) := by
  induction n with
  | zero =>
    intro i k o h ho hk
    obtain ⟨k, rfl⟩ : ∃ m, k = m + 1 := ⟨k - 1, by omega⟩
    simp only [spec_TakeToken.l0]
    rw [if_neg (by omega), List.drop_eq_nil_of_le (by omega), List.filter_nil, List.append_nil, if_pos (by omega), w64 (x := m - 1) (by omega) (by omega)]
    have := take_sl1 l c (by omega) l.length 0 k (o ++ [⟨c, m - 1, t⟩]) (by omega) (by simp; omega) (by simp; omega)
    simpa using this
  | succ n ih =>
    intro i k o h ho hk
    obtain ⟨k, rfl⟩ : ∃ m, k = m + 1 := ⟨k - 1, by omega⟩
    simp only [spec_TakeToken.l0]
    rw [if_pos (by omega), if_pos (by omega), w64 (x := (i : Int) + 1) (by omega) (by omega), dropB_at l i (by omega)]
    by_cases hc : (rd_T37 l (i : Int)).f0 < c
    · rw [if_pos hc, if_pos (by omega), List.filter_cons_of_pos (by simpa using hc)]
      have IH := ih (i + 1) k (o ++ [rd_T37 l (i : Int)]) (by omega) (by simp; omega) (by omega)
      rw [show ((i + 1 : Nat) : Int) = (i : Int) + 1 by omega, List.append_assoc o, List.singleton_append] at IH
      exact IH
    · rw [if_neg (by omega), List.filter_cons_of_neg (by simpa using hc)]
      have IH := ih (i + 1) k o (by omega) (by omega) (by omega)
      rw [show ((i + 1 : Nat) : Int) = (i : Int) + 1 by omega] at IH
      exact IH
theorem take_s {k : Nat} (l : List S37) (c t : Int) (hl : l.length ≤ 1048600) (hk : 4 * l.length + 20 < k) : spec_TakeToken.f k l c t = some (takeB l c t) := by
  obtain ⟨k, rfl⟩ : ∃ m, k = m + 1 := ⟨k - 1, by omega⟩
  have hr := toks_range l c t
  unfold spec_TakeToken.f takeB
  rw [Option.bind_some, toks_s l c t (by omega) (by omega), Option.bind_some, inRange_eq, Option.bind_some]
  simp only [spec_TakeToken.j0]
  by_cases h1 : toks l c t < 0
  · rw [if_pos h1, if_pos trivial, if_pos (Or.inl h1)]
  rw [if_neg h1]
  by_cases h2 : 0 ≤ c ∧ c ≤ 99
  rotate_left
  · rw [if_pos (show (!decide (0 ≤ c ∧ c ≤ 99)) = true by rw [decide_eq_false h2]; rfl), if_pos (Or.inr (Or.inl h2))]
  rw [if_neg (show ¬ (!decide (0 ≤ c ∧ c ≤ 99)) = true by rw [decide_eq_true h2]; simp), inTime_s l c t (by omega) (by omega), Option.bind_some]
  cases h3 : earlyB l c t with
  | true => rw [if_neg (by simp), if_pos (Or.inr (Or.inr rfl))]
  | false =>
    rw [if_pos (show (!false) = true from rfl), if_neg (show ¬ (toks l c t < 0 ∨ ¬ (0 ≤ c ∧ c ≤ 99) ∨ false = true) by simp; omega)]
    by_cases h4 : toks l c t = 0
    · rw [if_pos h4, if_pos h4, if_pos (by simp; omega)]
      rfl
    · rw [if_neg h4, if_neg h4]
      have := take_sl l c t (toks l c t) (by omega) hl l.length 0 k [] (by omega) (by simp) (by omega)
      simpa [putB] using this
theorem takeB_ok {l : List S37} {c t : Int} (h : (takeB l c t).2.2 = true) : okB (takeB l c t).1 = true := by
  unfold takeB at h ⊢
  split at h
  · cases h
  next h1 =>
    rw [if_neg h1]
    have hl : okB l = true := by
      by_cases hh : okB l = true ∧ 0 ≤ t ∧ t ≤ 3786479999
      · exact hh.1
      · exact absurd (show toks l c t < 0 by unfold toks; rw [if_neg hh]; omega) (fun h => h1 (Or.inl h))
    split at h
    next h2 => rw [if_pos h2]; exact hl
    next h2 =>
      rw [if_neg h2]
      split at h
      next h3 => rw [if_pos h3]; exact h3
      next h3 => cases h
theorem goodB_asc {l : List S37} : ∀ pr, goodB pr l = true → ∀ a b : Nat, a < b → b < l.length → (rd_T37 l (a : Int)).f0 < (rd_T37 l (b : Int)).f0 := by
  induction l with
  | nil => intro pr _ a b _ hb; simp at hb
  | cons y ys ih =>
    intro pr h a b hab hb
    obtain ⟨_, _, h3⟩ := goodB_cons h
    obtain ⟨b, rfl⟩ : ∃ m, b = m + 1 := ⟨b - 1, by omega⟩
    have hb' : b < ys.length := by simpa using hb
    rw [rdb_at (y :: ys) (b + 1) hb, List.getElem_cons_succ]
    cases a with
    | zero =>
      rw [rdb_at (y :: ys) 0 (by omega), List.getElem_cons_zero]
      exact goodB_lt h3 _ (List.getElem_mem _)
    | succ a =>
      have := ih _ h3 a b (by omega) hb'
      rw [rdb_at ys a (by omega), rdb_at ys b hb'] at this
      rw [rdb_at (y :: ys) (a + 1) (by omega), List.getElem_cons_succ]
      exact this
theorem cmpB (a b d c : Int) : impl_bucketPlace_1.f a b d c = some (if a < c then -1 else if a > c then 1 else 0) := by
  unfold impl_bucketPlace_1.f cmp_Compare_int.f cmp_isNaN_int.f
  simp only [bne_self_eq_false, Option.bind_some, Bool.false_eq_true, if_false]
  by_cases h1 : a < c
  · rw [if_pos h1, if_pos h1]; rfl
  · rw [if_neg h1, if_neg h1]
    by_cases h2 : a > c
    · rw [if_pos h2, if_pos h2]; rfl
    · rw [if_neg h2, if_neg h2]; rfl
/-- The place of a client: the buckets ahead of it have lesser clients, the others don't. -/
def At (l : List S37) (c : Int) (p : Nat) : Prop := p ≤ l.length ∧ (∀ m : Nat, m < p → (rd_T37 l (m : Int)).f0 < c) ∧ ∀ m : Nat, p ≤ m → m < l.length → c ≤ (rd_T37 l (m : Int)).f0
theorem half {i j : Nat} (h : i + j ≤ 100000000) : wrap64 ((IntKind.u64.wrap (wrap64 ((i : Int) + (j : Int)))) / 2) = (((i + j) / 2 : Nat) : Int) := by
  rw [w64 (x := (i : Int) + (j : Int)) (by omega) (by omega)]
  have e : IntKind.u64.wrap ((i : Int) + (j : Int)) = (i : Int) + (j : Int) := by
    show ((i : Int) + (j : Int)) % 18446744073709551616 = (i : Int) + (j : Int)
    omega
  rw [e, w64 (by omega) (by omega)]
  omega
theorem place_l (l : List S37) (c : Int) (hl : l.length ≤ 4000000) (hg : goodB none l = true) (d : Nat) : ∀ (i j k : Nat), j - i ≤ d → d < k → i ≤ j → j ≤ l.length → (∀ m : Nat, m < i → (rd_T37 l (m : Int)).f0 < c) → (∀ m : Nat, j ≤ m → m < l.length → c ≤ (rd_T37 l (m : Int)).f0) →
    ∃ p, At l c p ∧ impl_Bucket_int.l0 k l c (l.length : Int) (i : Int) (j : Int) = some ((p : Int), decide (p < l.length ∧ (rd_T37 l (p : Int)).f0 = c)) := by
  induction d with
  | zero =>
    intro i j k h hk hij hj h1 h2
    obtain ⟨k, rfl⟩ : ∃ m, k = m + 1 := ⟨k - 1, by omega⟩
    obtain rfl : i = j := by omega
    refine ⟨i, ⟨hj, h1, h2⟩, ?_⟩
    simp only [impl_Bucket_int.l0]
    rw [if_neg (by omega)]
    by_cases hi : i < l.length
    · have hge := h2 i (Nat.le_refl _) hi
      rw [if_pos (by omega), if_pos (by omega), if_pos (by omega), cmpB, Option.bind_some, if_neg (by omega)]
      by_cases he : (rd_T37 l (i : Int)).f0 = c
      · rw [if_neg (by omega), decide_eq_true ⟨hi, he⟩]; rfl
      · rw [if_pos (by omega), decide_eq_false (fun h => he h.2)]; rfl
    · rw [if_neg (by omega), decide_eq_false (fun h => hi h.1)]
  | succ d ih =>
    intro i j k h hk hij hj h1 h2
    obtain ⟨k, rfl⟩ : ∃ m, k = m + 1 := ⟨k - 1, by omega⟩
    by_cases hlt : i < j
    · simp only [impl_Bucket_int.l0]
      rw [if_pos (by omega), half (by omega), if_pos (by omega), if_pos (by omega), cmpB, Option.bind_some]
      by_cases hc : (rd_T37 l (((i + j) / 2 : Nat) : Int)).f0 < c
      · rw [if_pos (by rw [if_pos hc]; omega), w64 (by omega) (by omega)]
        have := ih ((i + j) / 2 + 1) j k (by omega) (by omega) (by omega) hj (fun m hm => by
          by_cases he : m = (i + j) / 2
          · rw [he]; exact hc
          · have := goodB_asc _ hg m ((i + j) / 2) (by omega) (by omega)
            omega) h2
        simpa using this
      · rw [if_neg (by rw [if_neg hc]; split <;> omega)]
        exact ih i ((i + j) / 2) k (by omega) (by omega) (by omega) (by omega) h1 (fun m hm hm' => by
          by_cases he : m = (i + j) / 2
          · rw [he]; omega
          · have := goodB_asc _ hg ((i + j) / 2) m (by omega) hm'
            omega)
    · obtain rfl : i = j := by omega
      obtain ⟨p, hp, e⟩ := ih i i (k + 1) (by omega) (by omega) (Nat.le_refl _) hj h1 h2
      exact ⟨p, hp, e⟩
theorem place_ok {k : Nat} (l : List S37) (c : Int) (hl : l.length ≤ 4000000) (hg : goodB none l = true) (hk : l.length < k) : ∃ p, At l c p ∧ impl_bucketPlace.f k l c = some ((p : Int), decide (p < l.length ∧ (rd_T37 l (p : Int)).f0 = c)) := by
  obtain ⟨p, hp, e⟩ := place_l l c hl hg l.length 0 l.length k (by omega) hk (by omega) (by omega) (fun m hm => by omega) (fun m hm hm' => by omega)
  refine ⟨p, hp, ?_⟩
  unfold impl_bucketPlace.f impl_Bucket_int.f
  have e' : impl_Bucket_int.l0 k l c (l.length : Int) 0 (l.length : Int) = some ((p : Int), decide (p < l.length ∧ (rd_T37 l (p : Int)).f0 = c)) := e
  rw [e', Option.bind_some]
theorem find_at {l : List S37} {c : Int} {p : Nat} (h : At l c p) (hg : goodB none l = true) : l.find? (fun x => x.f0 == c) = if p < l.length ∧ (rd_T37 l (p : Int)).f0 = c then some (rd_T37 l (p : Int)) else none := by
  obtain ⟨h0, h1, h2⟩ := h
  have none_of : ∀ a : List S37, (∀ x ∈ a, x.f0 ≠ c) → a.find? (fun x => x.f0 == c) = none := fun a ha => List.find?_eq_none.2 (fun x hx => by simpa using ha x hx)
  conv => lhs; rw [← List.take_append_drop p l]
  rw [List.find?_append, none_of (l.take p) (fun x hx => by
    obtain ⟨m, hm, rfl⟩ := List.getElem_of_mem hx
    rw [List.length_take] at hm
    rw [List.getElem_take]
    have := h1 m (by omega)
    rw [rdb_at l m (by omega)] at this
    omega), Option.none_or]
  by_cases hp : p < l.length
  · rw [dropB_at l p hp]
    by_cases hc : (rd_T37 l (p : Int)).f0 = c
    · rw [List.find?_cons_of_pos (by simpa using hc), if_pos ⟨hp, hc⟩]
    · rw [List.find?_cons_of_neg (by simpa using hc), if_neg (fun h => hc h.2)]
      refine none_of _ (fun x hx => ?_)
      obtain ⟨m, hm, rfl⟩ := List.getElem_of_mem hx
      rw [List.length_drop] at hm
      rw [List.getElem_drop]
      have a1 := goodB_asc _ hg p (p + 1 + m) (by omega) (by omega)
      have a2 := h2 p (Nat.le_refl _) hp
      rw [rdb_at l (p + 1 + m) (by omega)] at a1
      omega
  · rw [List.drop_eq_nil_of_le (by omega), if_neg (fun h => hp h.1)]
    rfl
theorem tokB_i {x : S37} {t : Int} (h : inB x = true) (h0 : 0 ≤ t) (h1 : t ≤ 3786479999) : impl_Bucket_tokensAt.f x.f0 x.f1 x.f2 t = some (tokB x t) := by
  have hx := inB_of h
  unfold impl_Bucket_tokensAt.f tokB
  have h2 := mx0_nonneg (t - x.f2)
  have h3 := mx0_le (x := t - x.f2) (m := 3786479999) (by omega) (by omega)
  have e0 : mx (t - x.f2) 0 = mx 0 (t - x.f2) := by unfold mx; split <;> split <;> omega
  rw [w64 (x := t - x.f2) (by omega) (by omega), e0]
  have h4 := Int.ediv_nonneg h2 (show (0 : Int) ≤ 8 by omega)
  have h5 : mx 0 (t - x.f2) / 8 ≤ mx 0 (t - x.f2) := Int.ediv_le_self _ h2
  rw [w64 (x := mx 0 (t - x.f2) / 8) (by omega) (by omega), w64 (by omega) (by omega)]
  congr 1
  unfold mn
  split <;> split <;> omega
theorem toks_i {k : Nat} (l : List S37) (c t : Int) (hl : l.length ≤ 4000000) (hk : l.length + 1 < k) : impl_TokensAt.f k l c t = some (toks l c t) := by
  obtain ⟨k, rfl⟩ : ∃ m, k = m + 1 := ⟨k - 1, by omega⟩
  unfold impl_TokensAt.f toks
  rw [validB_i l (by omega) (by omega), Option.bind_some]
  cases h : okB l with
  | false => simp [impl_TokensAt.j0]
  | true =>
    rw [if_pos rfl, validB_i_time, Option.bind_some]
    by_cases ht : 0 ≤ t ∧ t ≤ 3786479999
    · simp only [impl_TokensAt.j0, decide_eq_true ht, Bool.not_true, Bool.false_eq_true, if_false, true_and, if_pos ht]
      obtain ⟨p, hp, e⟩ := place_ok (k := k) l c hl (okB_good h) (by omega)
      rw [e, Option.bind_some, find_at hp (okB_good h)]
      by_cases hc : p < l.length ∧ (rd_T37 l (p : Int)).f0 = c
      · rw [if_pos (decide_eq_true hc), if_pos (by omega), if_pos (by omega), if_pos hc, tokB_i (goodB_range _ (okB_good h) _ (by rw [rdb_at l p hc.1]; exact List.getElem_mem _)) ht.1 ht.2, Option.bind_some]
      · rw [if_neg (by rw [decide_eq_true_eq]; exact hc), if_neg hc]
    · simp only [impl_TokensAt.j0, decide_eq_false ht, Bool.not_false, if_true, true_and, if_neg ht]
theorem mem_take_at {l : List S37} {p : Nat} {x : S37} (h : x ∈ l.take p) : ∃ m : Nat, m < p ∧ m < l.length ∧ x = rd_T37 l (m : Int) := by
  obtain ⟨m, hm, rfl⟩ := List.getElem_of_mem h
  rw [List.length_take] at hm
  exact ⟨m, by omega, by omega, by rw [List.getElem_take, rdb_at l m (by omega)]⟩
theorem mem_drop_at {l : List S37} {p : Nat} {x : S37} (h : x ∈ l.drop p) : ∃ m : Nat, p ≤ m ∧ m < l.length ∧ x = rd_T37 l (m : Int) := by
  obtain ⟨m, hm, rfl⟩ := List.getElem_of_mem h
  rw [List.length_drop] at hm
  exact ⟨p + m, by omega, by omega, by rw [List.getElem_drop, rdb_at l (p + m) (by omega)]⟩
theorem filt_lt {l : List S37} {c : Int} {p : Nat} (h : At l c p) : l.filter (fun x => decide (x.f0 < c)) = l.take p := by
  obtain ⟨h0, h1, h2⟩ := h
  conv => lhs; rw [← List.take_append_drop p l]
  rw [List.filter_append, List.filter_eq_self.2 (fun x hx => by
    obtain ⟨m, hm, _, rfl⟩ := mem_take_at hx
    exact decide_eq_true (h1 m hm)), List.filter_eq_nil_iff.2 (fun x hx => by
    obtain ⟨m, hm, hl, rfl⟩ := mem_drop_at hx
    have := h2 m hm hl
    rw [decide_eq_true_eq]; omega), List.append_nil]
theorem filt_gt {l : List S37} {c : Int} {p : Nat} (h : At l c p) (hg : goodB none l = true) (q : Nat) (hq : q = if p < l.length ∧ (rd_T37 l (p : Int)).f0 = c then p + 1 else p) : l.filter (fun x => decide (c < x.f0)) = l.drop q := by
  obtain ⟨h0, h1, h2⟩ := h
  conv => lhs; rw [← List.take_append_drop q l]
  rw [List.filter_append, List.filter_eq_nil_iff.2 (fun x hx => by
    obtain ⟨m, hm, hl, rfl⟩ := mem_take_at hx
    rw [decide_eq_true_eq]
    by_cases hk : p < l.length ∧ (rd_T37 l (p : Int)).f0 = c
    · rw [if_pos hk] at hq
      by_cases he : m = p
      · subst he; omega
      · have := h1 m (by omega); omega
    · rw [if_neg hk] at hq
      have := h1 m (by omega); omega), List.filter_eq_self.2 (fun x hx => by
    obtain ⟨m, hm, hl, rfl⟩ := mem_drop_at hx
    rw [decide_eq_true_eq]
    by_cases hk : p < l.length ∧ (rd_T37 l (p : Int)).f0 = c
    · rw [if_pos hk] at hq
      have := goodB_asc _ hg p m (by omega) hl; omega
    · rw [if_neg hk] at hq
      by_cases he : m = p
      · subst he
        have := h2 m (by omega) hl
        have : (rd_T37 l (m : Int)).f0 ≠ c := fun e => hk ⟨hl, e⟩
        omega
      · have := goodB_asc _ hg p m (by omega) hl
        have := h2 p (Nat.le_refl _) (by omega)
        omega), List.nil_append]
theorem put_known {l : List S37} {c : Int} {p : Nat} (h : At l c p) (hg : goodB none l = true) (hk : p < l.length ∧ (rd_T37 l (p : Int)).f0 = c) (n t : Int) : putB l c n t = l.set p ⟨c, n, t⟩ := by
  unfold putB
  rw [filt_lt h, filt_gt h hg (p + 1) (by rw [if_pos hk]), List.set_eq_take_append_cons_drop, if_pos hk.1, List.append_assoc]
  rfl
theorem put_new {l : List S37} {c : Int} {p : Nat} (h : At l c p) (hg : goodB none l = true) (hk : ¬ (p < l.length ∧ (rd_T37 l (p : Int)).f0 = c)) (n t : Int) : putB l c n t = l.take p ++ [⟨c, n, t⟩] ++ l.drop p := by
  unfold putB
  rw [filt_lt h, filt_gt h hg p (by rw [if_neg hk])]
theorem early_at {l : List S37} {c t : Int} {p : Nat} (h : At l c p) (hg : goodB none l = true) : earlyB l c t = decide ((p < l.length ∧ (rd_T37 l (p : Int)).f0 = c) ∧ t < (rd_T37 l (p : Int)).f2) := by
  obtain ⟨h0, h1, h2⟩ := h
  unfold earlyB
  by_cases hd : (p < l.length ∧ (rd_T37 l (p : Int)).f0 = c) ∧ t < (rd_T37 l (p : Int)).f2
  · rw [decide_eq_true hd]
    refine List.any_eq_true.2 ⟨rd_T37 l (p : Int), by rw [rdb_at l p hd.1.1]; exact List.getElem_mem _, ?_⟩
    rw [beq_iff_eq.2 hd.1.2, decide_eq_true hd.2]; rfl
  · rw [decide_eq_false hd]
    refine List.any_eq_false.2 (fun x hx => ?_)
    obtain ⟨m, _, hl, rfl⟩ := mem_drop_at (p := 0) (by rw [List.drop_zero]; exact hx)
    intro hc
    rw [Bool.and_eq_true, beq_iff_eq, decide_eq_true_eq] at hc
    by_cases hm : m < p
    · have := h1 m hm; omega
    · by_cases he : m = p
      · subst he; exact hd ⟨⟨hl, hc.1⟩, hc.2⟩
      · have := goodB_asc _ hg p m (by omega) hl
        have := h2 p (Nat.le_refl _) (by omega)
        omega
theorem take_i {k : Nat} (l : List S37) (c t : Int) (hl : l.length ≤ 1048600) (hk : l.length + 15 < k) : impl_TakeToken.f k l c t = some (takeB l c t) := by
  obtain ⟨k, rfl⟩ : ∃ m, k = m + 2 := ⟨k - 2, by omega⟩
  have hr := toks_range l c t
  unfold impl_TakeToken.f takeB
  rw [toks_i l c t (by omega) (by omega), Option.bind_some, within_eq, Option.bind_some]
  simp only [impl_TakeToken.j0]
  by_cases h1 : toks l c t < 0
  · rw [if_pos h1, if_pos trivial, if_pos (Or.inl h1)]
  rw [if_neg h1]
  by_cases h2 : 0 ≤ c ∧ c ≤ 99
  rotate_left
  · rw [if_pos (show (!decide (0 ≤ c ∧ c ≤ 99)) = true by rw [decide_eq_false h2]; rfl), if_pos (Or.inr (Or.inl h2))]
  have hh : okB l = true ∧ 0 ≤ t ∧ t ≤ 3786479999 := by
    by_cases hh : okB l = true ∧ 0 ≤ t ∧ t ≤ 3786479999
    · exact hh
    · exact absurd (show toks l c t < 0 by unfold toks; rw [if_neg hh]; omega) h1
  have hg := okB_good hh.1
  have h8 := okB_len hh.1
  obtain ⟨p, hp, ep⟩ := place_ok (k := k + 1) l c (by omega) hg (by omega)
  have ec : impl_Bucket_48.f l = some l := by
    unfold impl_Bucket_48.f
    simp only [Option.bind_some, List.length_nil, List.nil_append]
    rw [if_pos (by omega)]
  rw [if_neg (show ¬ (!decide (0 ≤ c ∧ c ≤ 99)) = true by rw [decide_eq_true h2]; simp), ep, Option.bind_some, ec, Option.bind_some, early_at hp hg]
  simp only []
  have hpl := hp.1
  by_cases hc : p < l.length ∧ (rd_T37 l (p : Int)).f0 = c
  · rw [if_pos (decide_eq_true hc), if_pos (by omega), if_pos (by omega)]
    simp only [impl_TakeToken.j1]
    by_cases h3 : t < (rd_T37 l (p : Int)).f2
    · rw [if_pos (decide_eq_true h3), if_pos (Or.inr (Or.inr (decide_eq_true ⟨hc, h3⟩)))]
    · rw [if_neg (by rw [decide_eq_true_eq]; exact h3), if_neg (show ¬ (toks l c t < 0 ∨ ¬ (0 ≤ c ∧ c ≤ 99) ∨ decide ((p < l.length ∧ (rd_T37 l (p : Int)).f0 = c) ∧ t < (rd_T37 l (p : Int)).f2) = true) by rw [decide_eq_true_eq]; omega)]
      by_cases h4 : toks l c t = 0
      · rw [if_pos h4, if_pos h4]
      · rw [if_neg h4, if_neg h4, if_pos (decide_eq_true hc), if_pos (by omega), if_pos (by omega), Option.bind_some, Int.toNat_natCast, w64 (x := toks l c t - 1) (by omega) (by omega), ← put_known hp hg hc]
        have hlen : (putB l c (toks l c t - 1) t).length ≤ 9 := by rw [put_known hp hg hc, List.length_set]; omega
        rw [validB_i _ (by omega) (by omega), Option.bind_some]
        cases okB (putB l c (toks l c t - 1) t) <;> rfl
  · rw [if_neg (by rw [decide_eq_true_eq]; exact hc)]
    simp only [impl_TakeToken.j1]
    have h5 : toks l c t = 5 := by
      unfold toks
      rw [if_pos hh, find_at hp hg, if_neg hc]
    rw [if_neg (by simp), if_neg (show ¬ (toks l c t < 0 ∨ ¬ (0 ≤ c ∧ c ≤ 99) ∨ decide ((p < l.length ∧ (rd_T37 l (p : Int)).f0 = c) ∧ t < (rd_T37 l (p : Int)).f2) = true) by rw [decide_eq_true_eq]; exact fun h => by rcases h with h | h | h; omega; exact h h2; exact hc h.1), if_neg (show ¬ toks l c t = 0 by omega), if_neg (show ¬ toks l c t = 0 by omega), if_neg (by rw [decide_eq_true_eq]; exact hc)]
    have ei : impl_Bucket_51.f l (p : Int) [⟨c, wrap64 (toks l c t - 1), t⟩] = some (putB l c (toks l c t - 1) t) := by
      unfold impl_Bucket_51.f
      rw [if_pos ⟨by omega, by omega, rfl, by omega⟩, Int.toNat_natCast, put_new hp hg hc, w64 (x := toks l c t - 1) (by omega) (by omega)]
    have hlen : (putB l c (toks l c t - 1) t).length ≤ 9 := by rw [put_new hp hg hc]; simp; omega
    rw [ei, Option.bind_some, validB_i _ (by omega) (by omega), Option.bind_some]
    cases okB (putB l c (toks l c t - 1) t) <;> rfl
def fromB (a : Int) : Nat → List S37
  | 0 => []
  | n + 1 => ⟨a, a + 1, a + 2⟩ :: fromB (a + 3) n
theorem fromB_succ (a : Int) (n : Nat) : fromB a (n + 1) = ⟨a, a + 1, a + 2⟩ :: fromB (a + 3) n := rfl
theorem markB_l (n : Nat) : ∀ (pre l : List S37) (a : Int) (k : Nat), l.length = n → n < k → 0 ≤ a → a + 3 * n ≤ 100000000 → pre.length + n ≤ 10000000 →
    laws_markBucketS.l0 k (pre ++ l) a (pre.length : Int) = some (a + 3 * n, pre ++ fromB a n) := by
  induction n with
  | zero =>
    intro pre l a k hl hk h0 h1 h2
    obtain ⟨k, rfl⟩ : ∃ m, k = m + 1 := ⟨k - 1, by omega⟩
    obtain rfl : l = [] := List.eq_nil_of_length_eq_zero hl
    simp only [laws_markBucketS.l0]
    rw [if_neg (by simp), List.append_nil]
    simp [fromB]
  | succ n ih =>
    intro pre l a k hl hk h0 h1 h2
    obtain ⟨k, rfl⟩ : ∃ m, k = m + 1 := ⟨k - 1, by omega⟩
    obtain ⟨x, xs, rfl⟩ : ∃ x xs, l = x :: xs := by cases l with
      | nil => simp at hl
      | cons x xs => exact ⟨x, xs, rfl⟩
    have hr1 : ∀ y : S37, rd_T37 (pre ++ y :: xs) (pre.length : Int) = y := fun y => by rw [rdb_at _ _ (by simp)]; simp
    have hs1 : ∀ y z : S37, (pre ++ y :: xs).set pre.length z = pre ++ z :: xs := fun y z => by rw [List.set_append_right _ _ (by omega), Nat.sub_self, List.set_cons_zero]
    simp only [laws_markBucketS.l0]
    rw [if_pos (by simp; try omega), if_pos (by omega), Int.toNat_natCast, hr1, hs1, Option.bind_some, hr1, hs1, Option.bind_some, hr1, hs1, w64 (x := a + 1) (by omega) (by omega), w64 (x := a + 1 + 1) (by omega) (by omega), w64 (x := a + 1 + 1 + 1) (by omega) (by omega), w64 (x := (pre.length : Int) + 1) (by omega) (by omega)]
    have IH := ih (pre ++ [⟨a, a + 1, a + 2⟩]) xs (a + 3) k (by simpa using hl) (by omega) (by omega) (by omega) (by simp; omega)
    rw [show (((pre ++ [(⟨a, a + 1, a + 2⟩ : S37)]).length : Nat) : Int) = (pre.length : Int) + 1 by simp, List.append_assoc, List.append_assoc] at IH
    rw [show a + 1 + 1 + 1 = a + 3 by omega, show a + 1 + 1 = a + 2 by omega, fromB_succ]
    have IH' : laws_markBucketS.l0 k (pre ++ (⟨a, a + 1, a + 2⟩ : S37) :: xs) (a + 3) ((pre.length : Int) + 1) = some (a + 3 + 3 * n, pre ++ (⟨a, a + 1, a + 2⟩ : S37) :: fromB (a + 3) n) := IH
    rw [IH']
    congr 2
    omega
theorem markB_ok {k : Nat} (l : List S37) (a : Int) (hk : l.length < k) (h0 : 0 ≤ a ∧ a ≤ 10000000) (hl : l.length ≤ 1048576) : ∃ m, laws_markBucketS.f k l a = some (a + 3 * l.length, m) := by
  have := markB_l l.length [] l a k rfl hk h0.1 (by omega) (by simp; omega)
  exact ⟨_, this⟩
theorem heldB_l (n : Nat) : ∀ (pre : List S37) (a : Int) (k : Nat), n < k → 0 ≤ a → a + 3 * n ≤ 100000000 → pre.length + n ≤ 10000000 →
    laws_heldBucketS.l0 k (pre ++ fromB a n) a (pre.length : Int) = some (a + 3 * n) := by
  induction n with
  | zero =>
    intro pre a k hk h0 h1 h2
    obtain ⟨k, rfl⟩ : ∃ m, k = m + 1 := ⟨k - 1, by omega⟩
    simp only [laws_heldBucketS.l0]
    rw [if_neg (by simp [fromB])]
    simp
  | succ n ih =>
    intro pre a k hk h0 h1 h2
    obtain ⟨k, rfl⟩ : ∃ m, k = m + 1 := ⟨k - 1, by omega⟩
    rw [fromB_succ]
    have hr : rd_T37 (pre ++ (⟨a, a + 1, a + 2⟩ : S37) :: fromB (a + 3) n) (pre.length : Int) = ⟨a, a + 1, a + 2⟩ := by rw [rdb_at _ _ (by simp)]; simp
    simp only [laws_heldBucketS.l0]
    rw [if_pos (by simp; try omega), if_pos (by omega), hr, if_pos rfl, w64 (x := a + 1) (by omega) (by omega), if_pos rfl, w64 (x := a + 1 + 1) (by omega) (by omega), if_pos (show a + 2 = a + 1 + 1 by omega), w64 (x := a + 1 + 1 + 1) (by omega) (by omega), w64 (x := (pre.length : Int) + 1) (by omega) (by omega), show a + 1 + 1 + 1 = a + 3 by omega]
    have IH := ih (pre ++ [⟨a, a + 1, a + 2⟩]) (a + 3) k (by omega) (by omega) (by omega) (by simp; omega)
    rw [show (((pre ++ [(⟨a, a + 1, a + 2⟩ : S37)]).length : Nat) : Int) = (pre.length : Int) + 1 by simp, List.append_assoc] at IH
    have IH' : laws_heldBucketS.l0 k (pre ++ (⟨a, a + 1, a + 2⟩ : S37) :: fromB (a + 3) n) (a + 3) ((pre.length : Int) + 1) = some (a + 3 + 3 * n) := IH
    rw [IH']
    congr 1
    omega
theorem markB_held {k : Nat} (l : List S37) (a : Int) (hk : l.length < k) (h0 : 0 ≤ a ∧ a ≤ 1000) (hl : l.length ≤ 1048576) : ∃ m, laws_markBucketS.f k l a = some (a + 3 * l.length, m) ∧ laws_heldBucketS.f k m a = some (a + 3 * l.length) := by
  have h1 := markB_l l.length [] l a k rfl hk h0.1 (by omega) (by simp; omega)
  have h2 := heldB_l l.length [] a k hk h0.1 (by omega) (by simp; omega)
  exact ⟨_, h1, h2⟩
theorem takeB_len (l : List S37) (c t : Int) : (takeB l c t).1.length ≤ l.length + 9 := by
  unfold takeB
  split
  · simp
  · split
    · simp
    · split
      next h => have := okB_len h; show (putB l c (toks l c t - 1) t).length ≤ _; omega
      next => simp
theorem takeB_len8 (l : List S37) (c t : Int) : (takeB l c t).1.length ≤ 8 ∨ (takeB l c t).1.length ≤ l.length := by
  unfold takeB
  split
  · left; simp
  · split
    · right; exact Nat.le_refl _
    · split
      next h => left; exact okB_len h
      next => left; simp
end KFnExactTakeToken
open KFnExactTakeToken
theorem FnExactTakeToken (ls : List S46) (hs : ls.length * 24 ≤ 140737488351232) (c t : Int) : ∃ k, laws_FnExactTakeToken.f k ls c t = some true := by
  refine ⟨4 * ls.length + 43, ?_⟩
  unfold laws_FnExactTakeToken.f
  rw [szBucketS_eq ls hs, Option.bind_some]
  by_cases h1 : ls.length ≤ 1048576
  rotate_left
  · rw [if_neg h1, if_pos (by omega)]
  have hm : (ls.map toB).length = ls.length := List.length_map _
  have hd := takeB_len (ls.map toB) c t
  have hd8 : (takeB (ls.map toB) c t).1.length ≤ 1048576 := by rcases takeB_len8 (ls.map toB) c t with h | h <;> omega
  obtain ⟨m2, e2⟩ := markB_ok (k := 4 * ls.length + 42) (ls.map toB) 1 (by omega) (by omega) (by omega)
  generalize hL : (takeB (ls.map toB) c t).1 = L at hd hd8
  have e3 : laws_markBucketS.f (4 * ls.length + 41) L 1 = some (1 + 3 * (L.length : Int), fromB 1 L.length) := markB_l L.length [] L 1 _ rfl (by omega) (by omega) (by omega) (by simp; omega)
  have hh : ∀ k, L.length < k → laws_heldBucketS.f k (fromB 1 L.length) 1 = some (1 + 3 * (L.length : Int)) := fun k hk => heldB_l L.length [] 1 k hk (by omega) (by omega) (by simp; omega)
  rw [if_pos h1, if_neg (by omega), toBucketS_ok ls h1 (by omega), Option.bind_some, take_s _ c t (by omega) (by omega), Option.bind_some, Option.bind_some, take_i _ c t (by omega) (by omega), Option.bind_some, hL, eqBucketS_ok _ (by omega) (by omega), Option.bind_some, if_pos rfl, bne_self_eq_false, if_neg (by simp)]
  simp only [laws_FnExactTakeToken.j0]
  rw [bne_self_eq_false, if_neg (by simp), toBucketS_ok ls h1 (by omega), Option.bind_some, eqBucketS_ok _ (by omega) (by omega), Option.bind_some, if_pos rfl, e2, Option.bind_some]
  dsimp only
  rw [if_neg (by omega), eqBucketS_ok _ (by omega) (by omega), Option.bind_some, if_pos rfl, bne_self_eq_false, if_neg (by simp)]
  simp only [laws_FnExactTakeToken.j1]
  rw [if_neg (by simp), e3, Option.bind_some]
  dsimp only
  rw [hh _ (by omega), Option.bind_some, if_neg (by omega), if_pos rfl, toBucketS_ok ls h1 (by omega), Option.bind_some, take_i _ c t (by omega) (by omega), Option.bind_some, hL, eqBucketS_ok _ (by omega) (by omega), Option.bind_some, if_pos rfl, bne_self_eq_false, if_neg (by simp)]
  simp only [laws_FnExactTakeToken.j2]
  rw [if_neg (by simp), hh _ (by omega), Option.bind_some, if_neg (by omega), if_pos rfl]

end Go.Proofs.Ytjhioifohbpdhaa.Pure
