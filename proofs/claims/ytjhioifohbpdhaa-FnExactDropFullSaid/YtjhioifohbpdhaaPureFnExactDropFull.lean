/- Proved: the program's DropFull returns what the reference's returns, for all arguments, and its result shares no memory (FnExactDropFull); no condition beyond the statement's own. -/
import Derived.Test.YtjhioifohbpdhaaPFnExactDropFullx
import Derived.Laws.BitsLemmas
namespace Go.Proofs.Ytjhioifohbpdhaa.Pure
open Go Go.RowKit Go.Proofs.Ytjhioifohbpdhaa.PFnExactDropFull Go.Proofs.YtjhioifohbpdhaaW.PrintWords Go.Proofs.YtjhioifohbpdhaaW.PrintLast Go.Proofs.YtjhioifohbpdhaaW.PrintMore

namespace KFnExactDropFull
theorem w64 {x : Int} (h1 : -9223372036854775808 ≤ x) (h2 : x < 9223372036854775808) : wrap64 x = x := by unfold wrap64; omega
theorem i64wrap (x : Int) : IntKind.i64.wrap x = wrap64 x := by rw [IntKind.wrap_i64]; unfold wrap64; rfl
theorem tm {a b : Int} (h : 0 ≤ a) : Int.tmod a b = a % b := Int.tmod_eq_emod_of_nonneg h
theorem td {a b : Int} (h : 0 ≤ a) : Int.tdiv a b = a / b := Int.tdiv_eq_ediv_of_nonneg h
theorem sval {α : Type} {x : Option α} {a : α} (h : x = some a) {β : Type} (f : α → Option β) : x.bind f = f a := by rw [h]; rfl
theorem within_eq (n lo hi : Int) : impl_within.f n lo hi = some (decide (lo ≤ n ∧ n ≤ hi)) := by
  unfold impl_within.f
  by_cases h : lo ≤ n <;> simp [h]
theorem inRange_eq (n lo hi : Int) : spec_inRange.f n lo hi = some (decide (lo ≤ n ∧ n ≤ hi)) := by
  unfold spec_inRange.f
  by_cases h : lo ≤ n <;> simp [h]
theorem fill_step {α : Type} (l : List α) (z v : α) (i : Nat) (h : i < l.length) (hv : v = l[i]) : (l.take i ++ List.replicate (l.length - i) z).set i v = l.take (i + 1) ++ List.replicate (l.length - (i + 1)) z := by
  have e : l.length - i = (l.length - (i + 1)) + 1 := by omega
  have ht : (l.take i).length = i := by rw [List.length_take]; omega
  rw [List.set_append_right i v (by omega), ht, Nat.sub_self, e, List.replicate_succ, List.set_cons_zero, hv, show List.take (i + 1) l = List.take i l ++ [l[i]] from List.take_succ_eq_append_getElem h, List.append_assoc]
  rfl
theorem fill_end {α : Type} (l : List α) (z : α) : l.take l.length ++ List.replicate (l.length - l.length) z = l := by simp
theorem rd_at (l : List Int) (i : Nat) (h : i < l.length) : rd l (i : Int) = l[i] := by unfold rd; simp [List.getD_eq_getElem?_getD, h]
def toB (x : S46) : S37 := ⟨x.f0, x.f1, x.f2⟩
theorem rdg_at (l : List S46) (i : Nat) (h : i < l.length) : rd_T46 l (i : Int) = l[i] := by unfold rd_T46; simp [List.getD_eq_getElem?_getD, h]
theorem fill_map {α β : Type} (g : α → β) (l : List α) (z v : β) (i : Nat) (h : i < l.length) (hv : v = g l[i]) : ((l.map g).take i ++ List.replicate (l.length - i) z).set i v = (l.map g).take (i + 1) ++ List.replicate (l.length - (i + 1)) z := by
  have := fill_step (l.map g) z v i (by simpa using h) (by simpa using hv)
  simpa using this
theorem toBucketS_l (l : List S46) (hl : l.length ≤ 1048576) (d : Nat) : ∀ (i k : Nat), i + d = l.length → d < k → laws_toBucketS.l0 k l ((l.map toB).take i ++ List.replicate (l.length - i) z37) (i : Int) = some (l.map toB) := by
  induction d with
  | zero =>
    intro i k h hk
    obtain ⟨k, rfl⟩ : ∃ m, k = m + 1 := ⟨k - 1, by omega⟩
    obtain rfl : i = l.length := by omega
    simp only [laws_toBucketS.l0]
    rw [if_neg (by omega), List.take_of_length_le (by simp)]
    simp
  | succ d ih =>
    intro i k h hk
    obtain ⟨k, rfl⟩ : ∃ m, k = m + 1 := ⟨k - 1, by omega⟩
    simp only [laws_toBucketS.l0]
    unfold laws_toBucket.f
    rw [if_pos (by omega), if_pos (by omega), Option.bind_some, if_pos (by simp; omega), w64 (by omega) (by omega), Int.toNat_natCast, fill_map toB l z37 _ i (by omega) (by rw [rdg_at l i (by omega)]; rfl)]
    exact ih (i + 1) k (by omega) (by omega)
theorem toBucketS_ok {k : Nat} (l : List S46) (hl : l.length ≤ 1048576) (hk : l.length < k) : laws_toBucketS.f k l = some (l.map toB) := by
  unfold laws_toBucketS.f
  rw [if_pos (by omega), if_pos (by omega), Int.toNat_natCast]
  exact toBucketS_l l hl l.length 0 k (by omega) hk
theorem eqBucketS_l (l : List S37) (hl : l.length ≤ 1048576) (d : Nat) : ∀ (i k : Nat), i + d = l.length → d < k → laws_eqBucketS.l0 k l l (i : Int) = some true := by
  induction d with
  | zero =>
    intro i k h hk
    obtain ⟨k, rfl⟩ : ∃ m, k = m + 1 := ⟨k - 1, by omega⟩
    simp only [laws_eqBucketS.l0]
    rw [if_neg (by omega)]
  | succ d ih =>
    intro i k h hk
    obtain ⟨k, rfl⟩ : ∃ m, k = m + 1 := ⟨k - 1, by omega⟩
    simp only [laws_eqBucketS.l0]
    unfold laws_eqBucket.f
    rw [if_pos (by omega), if_pos (by omega), if_pos (by omega), w64 (by omega) (by omega)]
    simp only [if_true, Option.bind_some]
    exact ih (i + 1) k (by omega) (by omega)
theorem eqBucketS_ok {k : Nat} (l : List S37) (hl : l.length ≤ 1048576) (hk : l.length < k) : laws_eqBucketS.f k l l = some true := by
  unfold laws_eqBucketS.f
  rw [if_pos rfl]
  exact eqBucketS_l l hl l.length 0 k (by omega) hk
theorem szBucketS_eq (l : List S46) (hs : l.length * 24 ≤ 140737488351232) : laws_szBucketS.f l 1048576 = some (if l.length ≤ 1048576 then 1048576 - (l.length : Int) else -1) := by
  unfold laws_szBucketS.f
  rw [w64 (by omega) (by omega)]
  by_cases h : l.length ≤ 1048576
  · rw [if_neg (by omega), if_pos h]
  · rw [if_pos (by omega), if_neg h]
/-- A bucket in its ranges. -/
def inB (x : S37) : Bool := decide (0 ≤ x.f0 ∧ x.f0 ≤ 99) && (decide (0 ≤ x.f1 ∧ x.f1 ≤ 5) && decide (0 ≤ x.f2 ∧ x.f2 ≤ 3786479999))
/-- Buckets in their ranges whose clients ascend, behind one that may stand ahead of them. -/
def goodB : Option Int → List S37 → Bool
  | _, [] => true
  | none, x :: xs => inB x && goodB (some x.f0) xs
  | some p, x :: xs => inB x && (decide (p < x.f0) && goodB (some x.f0) xs)
def okB (l : List S37) : Bool := goodB none l && decide (l.length ≤ 8)
theorem rdb_at (l : List S37) (i : Nat) (h : i < l.length) : rd_T37 l (i : Int) = l[i] := by unfold rd_T37; simp [List.getD_eq_getElem?_getD, h]
def prevB (l : List S37) (i : Nat) : Option Int := if i = 0 then none else some (rd_T37 l ((i : Int) - 1)).f0
theorem prevB_succ (l : List S37) (i : Nat) : prevB l (i + 1) = some (rd_T37 l (i : Int)).f0 := by unfold prevB; rw [if_neg (by omega)]; congr 3; omega
theorem dropB_at (l : List S37) (i : Nat) (h : i < l.length) : l.drop i = rd_T37 l (i : Int) :: l.drop (i + 1) := by
  rw [rdb_at l i h, List.drop_eq_getElem_cons h]
theorem goodB_cons {pr : Option Int} {x : S37} {xs : List S37} (h : goodB pr (x :: xs) = true) : inB x = true ∧ (∀ p, pr = some p → p < x.f0) ∧ goodB (some x.f0) xs = true := by
  cases pr with
  | none => simp [goodB] at h; exact ⟨h.1, fun p e => (by cases e), h.2⟩
  | some p => simp [goodB] at h; exact ⟨h.1, fun q e => (by cases e; exact h.2.1), h.2.2⟩
theorem goodB_mk {pr : Option Int} {x : S37} {xs : List S37} (h1 : inB x = true) (h2 : ∀ p, pr = some p → p < x.f0) (h3 : goodB (some x.f0) xs = true) : goodB pr (x :: xs) = true := by
  cases pr with
  | none => simp [goodB, h1, h3]
  | some p => simp [goodB, h1, h3, h2 p rfl]
theorem goodB_tail {pr : Option Int} {x : S37} {xs : List S37} (h : goodB pr (x :: xs) = true) : goodB pr xs = true := by
  obtain ⟨h1, h2, h3⟩ := goodB_cons h
  cases xs with
  | nil => cases pr <;> rfl
  | cons y ys =>
    obtain ⟨g1, g2, g3⟩ := goodB_cons h3
    exact goodB_mk g1 (fun p e => by have := h2 p e; have := g2 x.f0 rfl; omega) g3
theorem goodB_sub {a l : List S37} (h : List.Sublist a l) : ∀ pr, goodB pr l = true → goodB pr a = true := by
  induction h with
  | slnil => intro pr h; exact h
  | cons x _ ih => intro pr h; exact ih pr (goodB_tail h)
  | cons_cons x _ ih =>
    intro pr h
    obtain ⟨h1, h2, h3⟩ := goodB_cons h
    exact goodB_mk h1 h2 (ih _ h3)
theorem okB_sub {a l : List S37} (h : List.Sublist a l) (hl : okB l = true) : okB a = true := by
  have hlen := h.length_le
  simp only [okB, Bool.and_eq_true, decide_eq_true_eq] at hl ⊢
  exact ⟨goodB_sub h _ hl.1, by omega⟩
theorem goodB_range {l : List S37} : ∀ pr, goodB pr l = true → ∀ x ∈ l, inB x = true := by
  induction l with
  | nil => intro pr _ x hx; cases hx
  | cons y ys ih =>
    intro pr h x hx
    obtain ⟨h1, _, h3⟩ := goodB_cons h
    rcases List.mem_cons.1 hx with rfl | hx
    · exact h1
    · exact ih _ h3 x hx
theorem goodB_lt {l : List S37} : ∀ {p : Int}, goodB (some p) l = true → ∀ x ∈ l, p < x.f0 := by
  induction l with
  | nil => intro p _ x hx; cases hx
  | cons y ys ih =>
    intro p h x hx
    obtain ⟨_, h2, h3⟩ := goodB_cons h
    have := h2 p rfl
    rcases List.mem_cons.1 hx with rfl | hx
    · exact this
    · have := ih h3 x hx; omega
theorem inB_of {x : S37} (h : inB x = true) : (0 ≤ x.f0 ∧ x.f0 ≤ 99) ∧ (0 ≤ x.f1 ∧ x.f1 ≤ 5) ∧ (0 ≤ x.f2 ∧ x.f2 ≤ 3786479999) := by
  simpa [inB] using h
theorem inB_mk {x : S37} (h1 : 0 ≤ x.f0 ∧ x.f0 ≤ 99) (h2 : 0 ≤ x.f1 ∧ x.f1 ≤ 5) (h3 : 0 ≤ x.f2 ∧ x.f2 ≤ 3786479999) : inB x = true := by
  simp [inB, h1, h2, h3]
theorem validB_i_time (t : Int) : impl_isTime.f t = some (decide (0 ≤ t ∧ t ≤ 3786479999)) := by
  unfold impl_isTime.f
  rw [within_eq, Option.bind_some]
theorem validB_i_l (l : List S37) (hl : l.length ≤ 4000000) (n : Nat) : ∀ (i k : Nat), i + n = l.length → n < k → impl_ValidBuckets.l0 k l l (l.length : Int) (i : Int) = some (goodB (prevB l i) (l.drop i) && decide (l.length ≤ 8)) := by
  induction n with
  | zero =>
    intro i k h hk
    obtain ⟨k, rfl⟩ : ∃ m, k = m + 1 := ⟨k - 1, by omega⟩
    simp only [impl_ValidBuckets.l0]
    rw [if_neg (by omega), List.drop_eq_nil_of_le (by omega)]
    unfold prevB
    split <;> (simp only [goodB, Bool.true_and]; exact congrArg some (decide_eq_decide.2 (by omega)))
  | succ n ih =>
    intro i k h hk
    obtain ⟨k, rfl⟩ : ∃ m, k = m + 1 := ⟨k - 1, by omega⟩
    have IH := ih (i + 1) k (by omega) (by omega)
    rw [prevB_succ, show ((i + 1 : Nat) : Int) = (i : Int) + 1 by omega] at IH
    simp only [impl_ValidBuckets.l0]
    rw [if_pos (by omega), if_pos (by omega), if_pos (by omega), within_eq, Option.bind_some, within_eq, Option.bind_some, validB_i_time, Option.bind_some, dropB_at l i (by omega), w64 (x := (i : Int) + 1) (by omega) (by omega), IH]
    by_cases h1 : 0 ≤ (rd_T37 l (i : Int)).f0 ∧ (rd_T37 l (i : Int)).f0 ≤ 99
    rotate_left
    · rw [if_neg (by simpa using h1)]
      unfold prevB
      split <;> simp only [goodB, inB, decide_eq_false h1, Bool.false_and]
    rw [if_pos (decide_eq_true h1)]
    by_cases h2 : 0 ≤ (rd_T37 l (i : Int)).f1 ∧ (rd_T37 l (i : Int)).f1 ≤ 5
    rotate_left
    · rw [if_neg (by simpa using h2)]
      unfold prevB
      split <;> simp only [goodB, inB, decide_eq_true h1, decide_eq_false h2, Bool.false_and, Bool.true_and]
    rw [if_pos (decide_eq_true h2)]
    by_cases h3 : 0 ≤ (rd_T37 l (i : Int)).f2 ∧ (rd_T37 l (i : Int)).f2 ≤ 3786479999
    rotate_left
    · rw [if_neg (by simpa using h3)]
      unfold prevB
      split <;> simp only [goodB, inB, decide_eq_true h1, decide_eq_true h2, decide_eq_false h3, Bool.false_and, Bool.true_and]
    rw [if_pos (decide_eq_true h3)]
    by_cases h0 : i = 0
    · subst h0
      rw [if_neg (by omega)]
      simp only [prevB, if_true, goodB, inB, decide_eq_true h1, decide_eq_true h2, decide_eq_true h3, Bool.true_and]
    · rw [if_pos (by omega), w64 (by omega) (by omega), if_pos (by omega), if_pos (by omega)]
      unfold prevB
      rw [if_neg h0]
      simp only [goodB, inB, decide_eq_true h1, decide_eq_true h2, decide_eq_true h3, Bool.true_and]
      by_cases h4 : (rd_T37 l ((i : Int) - 1)).f0 < (rd_T37 l (i : Int)).f0
      · rw [if_neg (by omega), decide_eq_true h4, Bool.true_and]
      · rw [if_pos (by omega), decide_eq_false h4, Bool.false_and, Bool.false_and]
theorem validB_i {k : Nat} (l : List S37) (hl : l.length ≤ 4000000) (hk : l.length < k) : impl_ValidBuckets.f k l = some (okB l) := by
  have := validB_i_l l hl l.length 0 k (by omega) hk
  simpa [impl_ValidBuckets.f, okB, prevB] using this
theorem validB_s_time (t : Int) : spec_validTime.f t = some (decide (0 ≤ t ∧ t ≤ 3786479999)) := by
  unfold spec_validTime.f
  rw [inRange_eq, Option.bind_some]
theorem validB_s_l (l : List S37) (hl : l.length ≤ 4000000) (n : Nat) : ∀ (i k : Nat), i + n = l.length → n < k → spec_validBuckets.l0 k l (i : Int) = some (goodB (prevB l i) (l.drop i) && decide (l.length ≤ 8)) := by
  induction n with
  | zero =>
    intro i k h hk
    obtain ⟨k, rfl⟩ : ∃ m, k = m + 1 := ⟨k - 1, by omega⟩
    simp only [spec_validBuckets.l0]
    rw [if_neg (by omega), List.drop_eq_nil_of_le (by omega)]
    unfold prevB
    split <;> (simp only [goodB, Bool.true_and]; exact congrArg some (decide_eq_decide.2 (by omega)))
  | succ n ih =>
    intro i k h hk
    obtain ⟨k, rfl⟩ : ∃ m, k = m + 1 := ⟨k - 1, by omega⟩
    have IH := ih (i + 1) k (by omega) (by omega)
    rw [prevB_succ, show ((i + 1 : Nat) : Int) = (i : Int) + 1 by omega] at IH
    simp only [spec_validBuckets.l0]
    rw [if_pos (by omega), if_pos (by omega), inRange_eq, Option.bind_some, inRange_eq, Option.bind_some, validB_s_time, Option.bind_some, dropB_at l i (by omega), w64 (x := (i : Int) + 1) (by omega) (by omega), IH]
    by_cases h1 : 0 ≤ (rd_T37 l (i : Int)).f0 ∧ (rd_T37 l (i : Int)).f0 ≤ 99
    rotate_left
    · rw [if_neg (by simpa using h1)]
      unfold prevB
      split <;> simp only [goodB, inB, decide_eq_false h1, Bool.false_and]
    rw [if_pos (decide_eq_true h1)]
    by_cases h2 : 0 ≤ (rd_T37 l (i : Int)).f1 ∧ (rd_T37 l (i : Int)).f1 ≤ 5
    rotate_left
    · rw [if_neg (by simpa using h2)]
      unfold prevB
      split <;> simp only [goodB, inB, decide_eq_true h1, decide_eq_false h2, Bool.false_and, Bool.true_and]
    rw [if_pos (decide_eq_true h2)]
    by_cases h3 : 0 ≤ (rd_T37 l (i : Int)).f2 ∧ (rd_T37 l (i : Int)).f2 ≤ 3786479999
    rotate_left
    · rw [if_neg (by simpa using h3)]
      unfold prevB
      split <;> simp only [goodB, inB, decide_eq_true h1, decide_eq_true h2, decide_eq_false h3, Bool.false_and, Bool.true_and]
    rw [if_pos (decide_eq_true h3)]
    by_cases h0 : i = 0
    · subst h0
      rw [if_neg (by omega)]
      simp only [prevB, if_true, goodB, inB, decide_eq_true h1, decide_eq_true h2, decide_eq_true h3, Bool.true_and]
    · rw [if_pos (by omega), w64 (by omega) (by omega), if_pos (by omega), if_pos (by omega)]
      unfold prevB
      rw [if_neg h0]
      simp only [goodB, inB, decide_eq_true h1, decide_eq_true h2, decide_eq_true h3, Bool.true_and]
      by_cases h4 : (rd_T37 l ((i : Int) - 1)).f0 < (rd_T37 l (i : Int)).f0
      · rw [if_neg (by omega), decide_eq_true h4, Bool.true_and]
      · rw [if_pos (by omega), decide_eq_false h4, Bool.false_and, Bool.false_and]
theorem validB_s {k : Nat} (l : List S37) (hl : l.length ≤ 4000000) (hk : l.length < k) : spec_validBuckets.f k l = some (okB l) := by
  have := validB_s_l l hl l.length 0 k (by omega) hk
  simpa [spec_validBuckets.f, okB, prevB] using this
/-- The tokens of a bucket at a time. -/
def tokB (x : S37) (t : Int) : Int := mn 5 (x.f1 + mx 0 (t - x.f2) / 8)
/-- The tokens of a client at a time. -/
def toks (l : List S37) (c t : Int) : Int := if okB l = true ∧ 0 ≤ t ∧ t ≤ 3786479999 then (match l.find? (fun x => x.f0 == c) with | some x => tokB x t | none => 5) else -1
def earlyB (l : List S37) (c t : Int) : Bool := l.any (fun x => x.f0 == c && decide (t < x.f2))
theorem mx0_nonneg (x : Int) : 0 ≤ mx 0 x := by unfold mx; split <;> omega
theorem mx0_le {x m : Int} (h : x ≤ m) (h0 : 0 ≤ m) : mx 0 x ≤ m := by unfold mx; split <;> omega
theorem tokB_range {x : S37} (t : Int) (h : 0 ≤ x.f1) : 0 ≤ tokB x t ∧ tokB x t ≤ 5 := by
  have := mx0_nonneg (t - x.f2)
  have := Int.ediv_nonneg this (show (0 : Int) ≤ 8 by omega)
  unfold tokB mn
  split <;> omega
theorem toks_range (l : List S37) (c t : Int) : -1 ≤ toks l c t ∧ toks l c t ≤ 5 := by
  unfold toks
  split
  next h =>
    split
    next x hx =>
      have hm := List.mem_of_find?_eq_some hx
      have hg : goodB none l = true := by have := h.1; simp [okB] at this; exact this.1
      have := inB_of (goodB_range _ hg x hm)
      have := tokB_range t (x := x) (by omega)
      omega
    next => omega
  next => omega
theorem okB_len {l : List S37} (h : okB l = true) : l.length ≤ 8 := by simp [okB] at h; exact h.2
theorem okB_good {l : List S37} (h : okB l = true) : goodB none l = true := by simp [okB] at h; exact h.1
theorem tokB_s {x : S37} {t : Int} (h : inB x = true) (h0 : 0 ≤ t) (h1 : t ≤ 3786479999) : spec_tokensAt.f x.f0 x.f1 x.f2 t = some (tokB x t) := by
  have hx := inB_of h
  unfold spec_tokensAt.f tokB
  have h2 := mx0_nonneg (t - x.f2)
  have h3 := mx0_le (x := t - x.f2) (m := 3786479999) (by omega) (by omega)
  rw [w64 (x := t - x.f2) (by omega) (by omega)]
  have h4 := Int.ediv_nonneg h2 (show (0 : Int) ≤ 8 by omega)
  have h5 : mx 0 (t - x.f2) / 8 ≤ mx 0 (t - x.f2) := Int.ediv_le_self _ h2
  rw [w64 (x := mx 0 (t - x.f2) / 8) (by omega) (by omega), w64 (by omega) (by omega)]
theorem tokB_i {x : S37} {t : Int} (h : inB x = true) (h0 : 0 ≤ t) (h1 : t ≤ 3786479999) : impl_Bucket_tokensAt.f x.f0 x.f1 x.f2 t = some (tokB x t) := by
  have hx := inB_of h
  unfold impl_Bucket_tokensAt.f tokB
  have h2 := mx0_nonneg (t - x.f2)
  have h3 := mx0_le (x := t - x.f2) (m := 3786479999) (by omega) (by omega)
  have e0 : mx (t - x.f2) 0 = mx 0 (t - x.f2) := by unfold mx; split <;> split <;> omega
  rw [w64 (x := t - x.f2) (by omega) (by omega), e0]
  have h4 := Int.ediv_nonneg h2 (show (0 : Int) ≤ 8 by omega)
  have h5 : mx 0 (t - x.f2) / 8 ≤ mx 0 (t - x.f2) := Int.ediv_le_self _ h2
  rw [w64 (x := mx 0 (t - x.f2) / 8) (by omega) (by omega), w64 (by omega) (by omega)]
  congr 1
  unfold mn
  split <;> split <;> omega
def keepB (t : Int) (x : S37) : Bool := decide (tokB x t < 5)
/-- The buckets that are not full. -/
def dropL (l : List S37) (t : Int) : List S37 := if okB l = true ∧ 0 ≤ t ∧ t ≤ 3786479999 then l.filter (keepB t) else []
theorem dropL_length (l : List S37) (t : Int) : (dropL l t).length ≤ l.length := by
  unfold dropL
  split
  · exact List.length_filter_le _ _
  · simp
theorem dropL_ok {l : List S37} {t : Int} (h : okB l = true) : okB (dropL l t) = true := by
  unfold dropL
  split
  · exact okB_sub List.filter_sublist h
  · rfl
theorem drop_sl (l : List S37) (t : Int) (hl : l.length ≤ 1048600) (h0 : 0 ≤ t) (h1 : t ≤ 3786479999) (hin : ∀ x ∈ l, inB x = true) (n : Nat) : ∀ (i k : Nat) (o : List S37), i + n = l.length → n < k → o.length ≤ i → spec_DropFull.l0 k l t o (i : Int) = some (o ++ (l.drop i).filter (keepB t)) := by
  induction n with
  | zero =>
    intro i k o h hk ho
    obtain ⟨k, rfl⟩ : ∃ m, k = m + 1 := ⟨k - 1, by omega⟩
    simp only [spec_DropFull.l0]
    rw [if_neg (by omega), List.drop_eq_nil_of_le (by omega), List.filter_nil, List.append_nil]
  | succ n ih =>
    intro i k o h hk ho
    obtain ⟨k, rfl⟩ : ∃ m, k = m + 1 := ⟨k - 1, by omega⟩
    have hx : inB (rd_T37 l (i : Int)) = true := hin _ (by rw [rdb_at l i (by omega)]; exact List.getElem_mem _)
    simp only [spec_DropFull.l0]
    rw [if_pos (by omega), if_pos (by omega), tokB_s hx h0 h1, Option.bind_some, w64 (x := (i : Int) + 1) (by omega) (by omega), dropB_at l i (by omega)]
    by_cases hc : tokB (rd_T37 l (i : Int)) t < 5
    · rw [if_pos hc, if_pos (by omega), List.filter_cons_of_pos (by simpa [keepB] using hc)]
      have IH := ih (i + 1) k (o ++ [rd_T37 l (i : Int)]) (by omega) (by omega) (by simp; omega)
      rw [show ((i + 1 : Nat) : Int) = (i : Int) + 1 by omega, List.append_assoc, List.singleton_append] at IH
      exact IH
    · rw [if_neg hc, List.filter_cons_of_neg (by simpa [keepB] using hc)]
      have IH := ih (i + 1) k o (by omega) (by omega) (by omega)
      rw [show ((i + 1 : Nat) : Int) = (i : Int) + 1 by omega] at IH
      exact IH
theorem drop_s {k : Nat} (l : List S37) (t : Int) (hl : l.length ≤ 1048600) (hk : l.length + 1 < k) : spec_DropFull.f k l t = some (dropL l t) := by
  obtain ⟨k, rfl⟩ : ∃ m, k = m + 1 := ⟨k - 1, by omega⟩
  unfold spec_DropFull.f dropL
  rw [Option.bind_some, validB_s l (by omega) (by omega), Option.bind_some]
  cases h : okB l with
  | false => simp [spec_DropFull.j0]
  | true =>
    rw [if_pos rfl, validB_s_time, Option.bind_some]
    by_cases ht : 0 ≤ t ∧ t ≤ 3786479999
    · simp only [spec_DropFull.j0, decide_eq_true ht, Bool.not_true, Bool.false_eq_true, if_false, true_and, if_pos ht]
      have := drop_sl l t hl ht.1 ht.2 (goodB_range _ (okB_good h)) l.length 0 k [] (by omega) (by omega) (by simp)
      simpa using this
    · simp only [spec_DropFull.j0, decide_eq_false ht, Bool.not_false, if_true, true_and, if_neg ht]
theorem full_i {x : S37} {t : Int} (h : inB x = true) (h0 : 0 ≤ t) (h1 : t ≤ 3786479999) : impl_DropFull_1.f x.f0 x.f1 x.f2 t = some (!keepB t x) := by
  have hx := inB_of h
  have hr := tokB_range (x := x) t (by omega)
  unfold impl_DropFull_1.f
  rw [tokB_i h h0 h1, Option.bind_some]
  unfold keepB
  by_cases hc : tokB x t < 5
  · rw [decide_eq_true hc, beq_eq_false_iff_ne.2 (by omega)]; rfl
  · rw [decide_eq_false hc, beq_iff_eq.2 (by omega)]; rfl
theorem index_l (l : List S37) (t : Int) (hl : l.length ≤ 1048600) (h0 : 0 ≤ t) (h1 : t ≤ 3786479999) (hin : ∀ x ∈ l, inB x = true) (n : Nat) : ∀ (i k : Nat), i + n = l.length → n < k →
    (impl_Bucket_58.l0 k l t (l.length : Int) (i : Int) = some (-1) ∧ (l.drop i).filter (keepB t) = l.drop i) ∨
    ∃ p : Nat, p < l.length ∧ i ≤ p ∧ impl_Bucket_58.l0 k l t (l.length : Int) (i : Int) = some (p : Int) ∧ (l.drop i).filter (keepB t) = (l.drop i).take (p - i) ++ (l.drop (p + 1)).filter (keepB t) := by
  induction n with
  | zero =>
    intro i k h hk
    obtain ⟨k, rfl⟩ : ∃ m, k = m + 1 := ⟨k - 1, by omega⟩
    left
    simp only [impl_Bucket_58.l0]
    rw [if_neg (by omega), List.drop_eq_nil_of_le (by omega)]
    exact ⟨rfl, rfl⟩
  | succ n ih =>
    intro i k h hk
    obtain ⟨k, rfl⟩ : ∃ m, k = m + 1 := ⟨k - 1, by omega⟩
    have hx : inB (rd_T37 l (i : Int)) = true := hin _ (by rw [rdb_at l i (by omega)]; exact List.getElem_mem _)
    have IH := ih (i + 1) k (by omega) (by omega)
    rw [show ((i + 1 : Nat) : Int) = (i : Int) + 1 by omega] at IH
    simp only [impl_Bucket_58.l0]
    rw [if_pos (by omega), if_pos (by omega), if_pos (by omega), full_i hx h0 h1, Option.bind_some, w64 (x := (i : Int) + 1) (by omega) (by omega), dropB_at l i (by omega)]
    cases hc : keepB t (rd_T37 l (i : Int)) with
    | false =>
      right
      refine ⟨i, by omega, Nat.le_refl _, by rw [if_pos (by rfl)], ?_⟩
      rw [List.filter_cons_of_neg (by rw [hc]; simp), Nat.sub_self, List.take_zero, List.nil_append]
    | true =>
      rw [if_neg (by simp), List.filter_cons_of_pos hc]
      rcases IH with ⟨e, hf⟩ | ⟨p, hp, hi, e, hf⟩
      · left; exact ⟨e, by rw [hf]⟩
      · right
        refine ⟨p, hp, by omega, e, ?_⟩
        rw [hf, show p - i = (p - (i + 1)) + 1 by omega, List.take_succ_cons, List.cons_append]
theorem delete_l (l : List S37) (t : Int) (hl : l.length ≤ 1048600) (h0 : 0 ≤ t) (h1 : t ≤ 3786479999) (hin : ∀ x ∈ l, inB x = true) (n : Nat) : ∀ (j k p : Nat) (x : List S37), j + n = l.length → n < k → p < j → x.length = l.length → x.drop j = l.drop j →
    impl_Bucket_47.l0 k x t (p : Int) (j : Int) = some (x.take p ++ (l.drop j).filter (keepB t)) := by
  induction n with
  | zero =>
    intro j k p x h hk hp hx hd
    obtain ⟨k, rfl⟩ : ∃ m, k = m + 1 := ⟨k - 1, by omega⟩
    simp only [impl_Bucket_47.l0]
    rw [if_neg (by omega), if_pos (by omega), if_pos (by omega), Int.toNat_natCast, List.drop_eq_nil_of_le (by omega), List.filter_nil, List.append_nil]
  | succ n ih =>
    intro j k p x h hk hp hxl hd
    obtain ⟨k, rfl⟩ : ∃ m, k = m + 1 := ⟨k - 1, by omega⟩
    have hd2 := hd
    rw [dropB_at x j (by omega), dropB_at l j (by omega)] at hd2
    have hy : rd_T37 x (j : Int) = rd_T37 l (j : Int) := by injection hd2
    have hd3 : x.drop (j + 1) = l.drop (j + 1) := by injection hd2
    have hx : inB (rd_T37 l (j : Int)) = true := hin _ (by rw [rdb_at l j (by omega)]; exact List.getElem_mem _)
    simp only [impl_Bucket_47.l0]
    rw [if_pos (by omega), if_pos (by omega), hy, full_i hx h0 h1, Option.bind_some, w64 (x := (j : Int) + 1) (by omega) (by omega), dropB_at l j (by omega)]
    cases hc : keepB t (rd_T37 l (j : Int)) with
    | false =>
      rw [if_pos (by rfl), List.filter_cons_of_neg (by rw [hc]; simp)]
      have IH := ih (j + 1) k p x (by omega) (by omega) (by omega) hxl hd3
      rw [show ((j + 1 : Nat) : Int) = (j : Int) + 1 by omega] at IH
      exact IH
    | true =>
      rw [if_neg (by simp), if_pos (by omega), if_pos (by omega), Int.toNat_natCast, List.filter_cons_of_pos hc, w64 (x := (p : Int) + 1) (by omega) (by omega)]
      have IH := ih (j + 1) k (p + 1) (x.set p (rd_T37 l (j : Int))) (by omega) (by omega) (by omega) (by rw [List.length_set]; exact hxl) (by rw [List.drop_set_of_lt (by omega)]; exact hd3)
      rw [show ((j + 1 : Nat) : Int) = (j : Int) + 1 by omega, show ((p + 1 : Nat) : Int) = (p : Int) + 1 by omega] at IH
      have ht : (x.set p (rd_T37 l (j : Int))).take (p + 1) = x.take p ++ [rd_T37 l (j : Int)] := by
        rw [List.take_succ_eq_append_getElem (by rw [List.length_set]; omega), List.take_set_of_le (Nat.le_refl _), List.getElem_set_self]
      rw [ht, List.append_assoc, List.singleton_append] at IH
      exact IH
theorem drop_i {k : Nat} (l : List S37) (t : Int) (hl : l.length ≤ 1048600) (hk : l.length + 1 < k) : impl_DropFull.f k l t = some (dropL l t) := by
  obtain ⟨k, rfl⟩ : ∃ m, k = m + 1 := ⟨k - 1, by omega⟩
  unfold impl_DropFull.f dropL
  rw [validB_i l (by omega) (by omega), Option.bind_some]
  cases h : okB l with
  | false => simp [impl_DropFull.j0]
  | true =>
    rw [if_pos rfl, validB_i_time, Option.bind_some]
    by_cases ht : 0 ≤ t ∧ t ≤ 3786479999
    · simp only [impl_DropFull.j0, decide_eq_true ht, Bool.not_true, Bool.false_eq_true, if_false, true_and, if_pos ht]
      have hin := goodB_range _ (okB_good h)
      have ec : impl_Bucket_48.f l = some l := by
        unfold impl_Bucket_48.f
        simp only [Option.bind_some, List.length_nil, List.nil_append]
        rw [if_pos (by omega)]
      unfold impl_Bucket_47.f impl_Bucket_58.f
      rw [ec, Option.bind_some]
      rcases index_l l t hl ht.1 ht.2 hin l.length 0 k (by omega) (by omega) with ⟨e, hf⟩ | ⟨p, hp, _, e, hf⟩
      · have e' : impl_Bucket_58.l0 k l t (l.length : Int) 0 = some (-1) := e
        rw [e', Option.bind_some, if_pos rfl, Option.bind_some]
        rw [List.drop_zero] at hf
        rw [hf]
      · have e' : impl_Bucket_58.l0 k l t (l.length : Int) 0 = some (p : Int) := e
        have hd := delete_l l t hl ht.1 ht.2 hin (l.length - (p + 1)) (p + 1) k p l (by omega) (by omega) (by omega) rfl rfl
        rw [show ((p + 1 : Nat) : Int) = (p : Int) + 1 by omega] at hd
        rw [e', Option.bind_some, if_neg (by omega), w64 (x := (p : Int) + 1) (by omega) (by omega), hd, Option.bind_some]
        rw [List.drop_zero, Nat.sub_zero] at hf
        rw [hf]
    · simp only [impl_DropFull.j0, decide_eq_false ht, Bool.not_false, if_true, true_and, if_neg ht]
def fromB (a : Int) : Nat → List S37
  | 0 => []
  | n + 1 => ⟨a, a + 1, a + 2⟩ :: fromB (a + 3) n
theorem fromB_succ (a : Int) (n : Nat) : fromB a (n + 1) = ⟨a, a + 1, a + 2⟩ :: fromB (a + 3) n := rfl
theorem markB_l (n : Nat) : ∀ (pre l : List S37) (a : Int) (k : Nat), l.length = n → n < k → 0 ≤ a → a + 3 * n ≤ 100000000 → pre.length + n ≤ 10000000 →
    laws_markBucketS.l0 k (pre ++ l) a (pre.length : Int) = some (a + 3 * n, pre ++ fromB a n) := by
  induction n with
  | zero =>
    intro pre l a k hl hk h0 h1 h2
    obtain ⟨k, rfl⟩ : ∃ m, k = m + 1 := ⟨k - 1, by omega⟩
    obtain rfl : l = [] := List.eq_nil_of_length_eq_zero hl
    simp only [laws_markBucketS.l0]
    rw [if_neg (by simp), List.append_nil]
    simp [fromB]
  | succ n ih =>
    intro pre l a k hl hk h0 h1 h2
    obtain ⟨k, rfl⟩ : ∃ m, k = m + 1 := ⟨k - 1, by omega⟩
    obtain ⟨x, xs, rfl⟩ : ∃ x xs, l = x :: xs := by cases l with
      | nil => simp at hl
      | cons x xs => exact ⟨x, xs, rfl⟩
    have hr1 : ∀ y : S37, rd_T37 (pre ++ y :: xs) (pre.length : Int) = y := fun y => by rw [rdb_at _ _ (by simp)]; simp
    have hs1 : ∀ y z : S37, (pre ++ y :: xs).set pre.length z = pre ++ z :: xs := fun y z => by rw [List.set_append_right _ _ (by omega), Nat.sub_self, List.set_cons_zero]
    simp only [laws_markBucketS.l0]
    rw [if_pos (by simp; try omega), if_pos (by omega), Int.toNat_natCast, hr1, hs1, Option.bind_some, hr1, hs1, Option.bind_some, hr1, hs1, w64 (x := a + 1) (by omega) (by omega), w64 (x := a + 1 + 1) (by omega) (by omega), w64 (x := a + 1 + 1 + 1) (by omega) (by omega), w64 (x := (pre.length : Int) + 1) (by omega) (by omega)]
    have IH := ih (pre ++ [⟨a, a + 1, a + 2⟩]) xs (a + 3) k (by simpa using hl) (by omega) (by omega) (by omega) (by simp; omega)
    rw [show (((pre ++ [(⟨a, a + 1, a + 2⟩ : S37)]).length : Nat) : Int) = (pre.length : Int) + 1 by simp, List.append_assoc, List.append_assoc] at IH
    rw [show a + 1 + 1 + 1 = a + 3 by omega, show a + 1 + 1 = a + 2 by omega, fromB_succ]
    have IH' : laws_markBucketS.l0 k (pre ++ (⟨a, a + 1, a + 2⟩ : S37) :: xs) (a + 3) ((pre.length : Int) + 1) = some (a + 3 + 3 * n, pre ++ (⟨a, a + 1, a + 2⟩ : S37) :: fromB (a + 3) n) := IH
    rw [IH']
    congr 2
    omega
theorem markB_ok {k : Nat} (l : List S37) (a : Int) (hk : l.length < k) (h0 : 0 ≤ a ∧ a ≤ 10000000) (hl : l.length ≤ 1048576) : ∃ m, laws_markBucketS.f k l a = some (a + 3 * l.length, m) := by
  have := markB_l l.length [] l a k rfl hk h0.1 (by omega) (by simp; omega)
  exact ⟨_, this⟩
theorem heldB_l (n : Nat) : ∀ (pre : List S37) (a : Int) (k : Nat), n < k → 0 ≤ a → a + 3 * n ≤ 100000000 → pre.length + n ≤ 10000000 →
    laws_heldBucketS.l0 k (pre ++ fromB a n) a (pre.length : Int) = some (a + 3 * n) := by
  induction n with
  | zero =>
    intro pre a k hk h0 h1 h2
    obtain ⟨k, rfl⟩ : ∃ m, k = m + 1 := ⟨k - 1, by omega⟩
    simp only [laws_heldBucketS.l0]
    rw [if_neg (by simp [fromB])]
    simp
  | succ n ih =>
    intro pre a k hk h0 h1 h2
    obtain ⟨k, rfl⟩ : ∃ m, k = m + 1 := ⟨k - 1, by omega⟩
    rw [fromB_succ]
    have hr : rd_T37 (pre ++ (⟨a, a + 1, a + 2⟩ : S37) :: fromB (a + 3) n) (pre.length : Int) = ⟨a, a + 1, a + 2⟩ := by rw [rdb_at _ _ (by simp)]; simp
    simp only [laws_heldBucketS.l0]
    rw [if_pos (by simp; try omega), if_pos (by omega), hr, if_pos rfl, w64 (x := a + 1) (by omega) (by omega), if_pos rfl, w64 (x := a + 1 + 1) (by omega) (by omega), if_pos (show a + 2 = a + 1 + 1 by omega), w64 (x := a + 1 + 1 + 1) (by omega) (by omega), w64 (x := (pre.length : Int) + 1) (by omega) (by omega), show a + 1 + 1 + 1 = a + 3 by omega]
    have IH := ih (pre ++ [⟨a, a + 1, a + 2⟩]) (a + 3) k (by omega) (by omega) (by omega) (by simp; omega)
    rw [show (((pre ++ [(⟨a, a + 1, a + 2⟩ : S37)]).length : Nat) : Int) = (pre.length : Int) + 1 by simp, List.append_assoc] at IH
    have IH' : laws_heldBucketS.l0 k (pre ++ (⟨a, a + 1, a + 2⟩ : S37) :: fromB (a + 3) n) (a + 3) ((pre.length : Int) + 1) = some (a + 3 + 3 * n) := IH
    rw [IH']
    congr 1
    omega
theorem markB_held {k : Nat} (l : List S37) (a : Int) (hk : l.length < k) (h0 : 0 ≤ a ∧ a ≤ 1000) (hl : l.length ≤ 1048576) : ∃ m, laws_markBucketS.f k l a = some (a + 3 * l.length, m) ∧ laws_heldBucketS.f k m a = some (a + 3 * l.length) := by
  have h1 := markB_l l.length [] l a k rfl hk h0.1 (by omega) (by simp; omega)
  have h2 := heldB_l l.length [] a k hk h0.1 (by omega) (by simp; omega)
  exact ⟨_, h1, h2⟩
end KFnExactDropFull
open KFnExactDropFull
theorem FnExactDropFull (ls : List S46) (hs : ls.length * 24 ≤ 140737488351232) (t : Int) : ∃ k, laws_FnExactDropFull.f k ls t = some true := by
  refine ⟨ls.length + 13, ?_⟩
  unfold laws_FnExactDropFull.f
  rw [szBucketS_eq ls hs, Option.bind_some]
  by_cases h1 : ls.length ≤ 1048576
  rotate_left
  · rw [if_neg h1, if_pos (by omega)]
  have hm : (ls.map toB).length = ls.length := List.length_map _
  have hd := dropL_length (ls.map toB) t
  obtain ⟨m2, e2⟩ := markB_ok (k := ls.length + 13) (ls.map toB) 1 (by omega) (by omega) (by omega)
  obtain ⟨m3, e3, hh⟩ := markB_held (k := ls.length + 12) (dropL (ls.map toB) t) 1 (by omega) (by omega) (by omega)
  rw [if_pos h1, if_neg (by omega), toBucketS_ok ls h1 (by omega), Option.bind_some, drop_s _ t (by omega) (by omega), Option.bind_some, Option.bind_some, drop_i _ t (by omega) (by omega), Option.bind_some, eqBucketS_ok _ (by omega) (by omega), Option.bind_some, if_pos rfl, Option.bind_some, eqBucketS_ok _ (by omega) (by omega), Option.bind_some, if_pos rfl, e2, Option.bind_some]
  dsimp only
  rw [if_neg (by omega), Option.bind_some]
  simp only [laws_FnExactDropFull.j0]
  rw [if_neg (by simp), e3, Option.bind_some]
  dsimp only
  rw [hh, Option.bind_some, if_neg (by omega), if_pos rfl, toBucketS_ok ls h1 (by omega), Option.bind_some, drop_i _ t (by omega) (by omega), Option.bind_some, eqBucketS_ok _ (by omega) (by omega), Option.bind_some, if_pos rfl, Option.bind_some, if_neg (by omega), if_pos rfl]

end Go.Proofs.Ytjhioifohbpdhaa.Pure
