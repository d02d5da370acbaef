/- Proved: SmearedStamp of the next second is greater by 999988 to 1000000, at every code (law FnSmearedStamp); no condition beyond the statement's own. -/
import Derived.Test.YtchlfonhhmkipaaPFnSmearedStampx2
import Derived.Laws.BitsLemmas
namespace Go.Proofs.Ytchlfonhhmkipaa.Pure
open Go Go.RowKit Go.Proofs.Ytchlfonhhmkipaa.PFnSmearedStamp Go.Proofs.YtchlfonhhmkipaaW.PrintWords Go.Proofs.YtchlfonhhmkipaaW.PrintLast Go.Proofs.YtchlfonhhmkipaaW.PrintMore

namespace KFnSmearedStamp
theorem w64 {x : Int} (h1 : -9223372036854775808 ≤ x) (h2 : x < 9223372036854775808) : wrap64 x = x := by unfold wrap64; omega
theorem i64wrap (x : Int) : IntKind.i64.wrap x = wrap64 x := by rw [IntKind.wrap_i64]; unfold wrap64; rfl
theorem tm {a b : Int} (h : 0 ≤ a) : Int.tmod a b = a % b := Int.tmod_eq_emod_of_nonneg h
theorem td {a b : Int} (h : 0 ≤ a) : Int.tdiv a b = a / b := Int.tdiv_eq_ediv_of_nonneg h
theorem sval {α : Type} {x : Option α} {a : α} (h : x = some a) {β : Type} (f : α → Option β) : x.bind f = f a := by rw [h]; rfl
theorem xor_nat (a b : Nat) (ha : a < 2 ^ 62) (hb : b < 2 ^ 62) : Go.bits .xor .i64 (a : Int) (b : Int) = ((a ^^^ b : Nat) : Int) := by
  have hx := Nat.xor_lt_two_pow ha hb
  have e : Go.bits .xor .i64 (a : Int) (b : Int) = wrap64 ((BitVec.ofInt 64 (a : Int) ^^^ BitVec.ofInt 64 (b : Int)).toNat : Int) := by rw [← i64wrap]; rfl
  rw [e, BitVec.ofInt_natCast, BitVec.ofInt_natCast, BitVec.toNat_xor, BitVec.toNat_ofNat, BitVec.toNat_ofNat, Nat.mod_eq_of_lt (by omega), Nat.mod_eq_of_lt (by omega)]
  exact w64 (by omega) (by omega)
theorem xor_ge (a b : Int) (h1 : 0 ≤ a) (h2 : a < 4611686018427387904) (h3 : 0 ≤ b) (h4 : b < 4611686018427387904) : 0 ≤ Go.bits .xor .i64 a b := by
  obtain ⟨x, rfl⟩ := Int.eq_ofNat_of_zero_le h1
  obtain ⟨y, rfl⟩ := Int.eq_ofNat_of_zero_le h3
  rw [xor_nat x y (by omega) (by omega)]
  exact Int.natCast_nonneg _
theorem rd_in {b : List Int} {lo hi : Int} (h : ∀ x ∈ b, lo ≤ x ∧ x ≤ hi) {i : Int} (h0 : 0 ≤ i) (h1 : i < b.length) : lo ≤ rd b i ∧ rd b i ≤ hi := by
  have hi' : i.toNat < b.length := by omega
  have e : rd b i = b[i.toNat] := by unfold rd; simp [List.getD_eq_getElem?_getD, List.getElem?_eq_getElem hi']
  rw [e]
  exact h _ (List.getElem_mem hi')
theorem rd_mem {b : List Int} {i : Int} (h0 : 0 ≤ i) (h1 : i < b.length) : rd b i ∈ b := by
  have hi' : i.toNat < b.length := by omega
  have e : rd b i = b[i.toNat] := by unfold rd; simp [List.getD_eq_getElem?_getD, List.getElem?_eq_getElem hi']
  rw [e]
  exact List.getElem_mem hi'
/-- What the reader holds: bytes, no more than two thousand. -/
def Bytes (b : List Int) : Prop := (∀ x ∈ b, 0 ≤ x ∧ x ≤ 255) ∧ b.length ≤ 2000
theorem pick_ok {k : Nat} (hk : 1 ≤ k) {b : List Int} {p : Int} (n : Int) (hb : Bytes b) (hp : 0 ≤ p) (hp2 : p ≤ 1000000000) :
    ∃ r, spec_reader_pick.f k b p n = some (r, p + 1) ∧ 0 ≤ r ∧ (1 ≤ n → r < n) := by
  obtain ⟨k, rfl⟩ : ∃ m, k = m + 1 := ⟨k - 1, by omega⟩
  obtain ⟨hb, hl⟩ := hb
  unfold spec_reader_pick.f
  rw [w64 (x := p + 1) (by omega) (by omega)]
  by_cases hn : n < 1
  · exact ⟨0, by rw [if_pos hn]; simp only [spec_reader_pick.j0, if_true], by omega, fun h => by omega⟩
  rw [if_neg hn]
  by_cases h0 : (b.length : Int) = 0
  · exact ⟨0, by rw [beq_iff_eq.2 h0]; simp only [spec_reader_pick.j0, if_true], by omega, fun h => by omega⟩
  rw [beq_eq_false_iff_ne.2 h0]
  simp only [spec_reader_pick.j0]
  rw [w64 (x := p + 1 - 1) (by omega) (by omega), show p + 1 - 1 = p by omega, if_neg (by simp)]
  by_cases h1 : p < (b.length : Int)
  · have hr := rd_in hb hp h1
    rw [if_pos h1, if_pos hp, if_neg (by omega), w64 (by omega) (by omega), tm hr.1]
    exact ⟨_, rfl, Int.emod_nonneg _ (by omega), fun _ => Int.emod_lt_of_pos _ (by omega)⟩
  · have hL : 0 < (b.length : Int) := by omega
    have m1 := Int.emod_nonneg p (b := b.length) (by omega)
    have m2 := Int.emod_lt_of_pos p hL
    have m3 := Int.emod_nonneg (p * 7 + 3) (b := b.length) (by omega)
    have m4 := Int.emod_lt_of_pos (p * 7 + 3) hL
    have d1 := Int.ediv_nonneg hp (b := b.length) (by omega)
    have d2 : p / (b.length : Int) ≤ p := Int.ediv_le_self _ hp
    have r1 := rd_in hb m1 m2
    have r2 := rd_in hb m3 m4
    rw [w64 (x := p * 7) (by omega) (by omega), w64 (x := p * 7 + 3) (by omega) (by omega), tm hp, tm (show 0 ≤ p * 7 + 3 by omega), td hp]
    rw [if_neg h1, if_neg h0, if_pos m1, if_pos m2, if_pos m3, if_pos m4, if_neg (by omega)]
    generalize rd b (p % (b.length : Int)) = A at r1 ⊢
    generalize rd b ((p * 7 + 3) % (b.length : Int)) = B at r2 ⊢
    generalize p / (b.length : Int) = q at d1 d2 ⊢
    rw [w64 (x := A) (by omega) (by omega), w64 (x := B) (by omega) (by omega), w64 (x := q) (by omega) (by omega), w64 (x := A * 131) (by omega) (by omega), w64 (x := B * 1117) (by omega) (by omega), w64 (x := p * 29) (by omega) (by omega), w64 (x := q * 53) (by omega) (by omega), w64 (x := A * 131 + B * 1117) (by omega) (by omega), w64 (x := A * 131 + B * 1117 + p * 29) (by omega) (by omega), w64 (x := A * 131 + B * 1117 + p * 29 + q * 53) (by omega) (by omega)]
    rw [td (show 0 ≤ A * 131 + B * 1117 + p * 29 + q * 53 by omega), w64 (x := (A * 131 + B * 1117 + p * 29 + q * 53) / 64) (by omega) (by omega)]
    have hx := xor_ge (A * 131 + B * 1117 + p * 29 + q * 53) ((A * 131 + B * 1117 + p * 29 + q * 53) / 64) (by omega) (by omega) (by omega) (by omega)
    rw [tm hx]
    exact ⟨_, rfl, Int.emod_nonneg _ (by omega), fun _ => Int.emod_lt_of_pos _ (by omega)⟩
theorem newReader_ok {l : List Int} (hb : ∀ x ∈ l, (Lit.int .u8 x).wf = true) : ∃ b, spec_newReader.f l = some (b, 0) ∧ Bytes b := by
  have hb' : ∀ x ∈ l, 0 ≤ x ∧ x ≤ 255 := fun x hx => by
    have := hb x hx
    simp [Lit.wf, IntKind.min, IntKind.max, IntKind.signed, IntKind.bits] at this
    omega
  unfold spec_newReader.f
  by_cases h : (l.length : Int) > 2000
  · exact ⟨l.take 2000, by rw [if_pos h, if_pos (by omega)], fun x hx => hb' x (List.mem_of_mem_take hx), by simp; omega⟩
  · exact ⟨l, by rw [if_neg h], hb', by omega⟩
theorem one_ok {k : Nat} (hk : 1 ≤ k) {b : List Int} {p : Int} (l : List Int) (hb : Bytes b) (hp : 0 ≤ p) (hp2 : p ≤ 1000000000) (hl : 1 ≤ (l.length : Int)) :
    ∃ r, spec_reader_one.f k b p l = some (r, p + 1) ∧ r ∈ l := by
  obtain ⟨r, e, h0, h1⟩ := pick_ok hk (l.length : Int) hb hp hp2
  unfold spec_reader_one.f
  rw [e]
  simp only [Option.bind_some]
  rw [if_pos h0, if_pos (h1 hl)]
  exact ⟨_, rfl, rd_mem h0 (h1 hl)⟩
theorem within_eq (n lo hi : Int) : impl_within.f n lo hi = some (decide (lo ≤ n ∧ n ≤ hi)) := by
  unfold impl_within.f
  by_cases h : lo ≤ n <;> simp [h]
theorem inRange_eq (n lo hi : Int) : spec_inRange.f n lo hi = some (decide (lo ≤ n ∧ n ≤ hi)) := by
  unfold spec_inRange.f
  by_cases h : lo ≤ n <;> simp [h]
/-- By how much the time is held back. -/
def sm (d : Int) : Int := mn (mx d 0) 86400 * 1000000 / 86400
def okS (a t : Int) : Prop := (86400 ≤ a ∧ a ≤ 3786393599) ∧ 0 ≤ t ∧ t ≤ 3786479999
instance (a t : Int) : Decidable (okS a t) := by unfold okS; infer_instance
def smearAt (a t : Int) : Int := if okS a t then sm (t - (a - 43200)) else -1
theorem mnmx (d : Int) : 0 ≤ mn (mx d 0) 86400 ∧ mn (mx d 0) 86400 ≤ 86400 ∧ (d ≤ 0 → mn (mx d 0) 86400 = 0) ∧ (86400 ≤ d → mn (mx d 0) 86400 = 86400) ∧ (0 ≤ d → d ≤ 86400 → mn (mx d 0) 86400 = d) := by
  unfold mn mx
  split <;> split <;> omega
theorem sm_in (d : Int) : 0 ≤ sm d ∧ sm d ≤ 1000000 := by
  have := mnmx d
  unfold sm
  omega
theorem smear_i (a t : Int) : impl_SmearAt.f a t = some (smearAt a t) := by
  unfold impl_SmearAt.f impl_canSmear.f impl_isTime.f smearAt
  rw [within_eq, within_eq, Option.bind_some, Option.bind_some, Option.bind_some, Option.bind_some]
  by_cases h1 : 86400 ≤ a ∧ a ≤ 3786393599
  · rw [if_pos (decide_eq_true h1)]
    by_cases h2 : 0 ≤ t ∧ t ≤ 3786479999
    · rw [if_pos (decide_eq_true h2), if_pos ⟨h1, h2⟩, w64 (x := a - 43200) (by omega) (by omega), w64 (by omega) (by omega)]
      rfl
    · rw [if_neg (by simpa using h2), if_neg (fun g => h2 g.2)]
  · rw [if_neg (by simpa using h1), if_neg (fun g => h1 g.1)]
theorem smear_sm (a t : Int) (h1 : 86400 ≤ a ∧ a ≤ 3786393599) (h2 : 0 ≤ t ∧ t ≤ 3786479999) : spec_smear.f a t = some (sm (t - (a - 43200))) := by
  unfold spec_smear.f
  rw [w64 (x := a - 43200) (by omega) (by omega), w64 (x := t - (a - 43200)) (by omega) (by omega)]
  generalize hd : t - (a - 43200) = d
  have hm := mnmx d
  unfold sm
  by_cases h3 : d ≤ 0
  · rw [if_pos h3, hm.2.2.1 h3]
    rfl
  · rw [if_neg h3]
    by_cases h4 : d ≥ 86400
    · rw [if_pos h4, hm.2.2.2.1 h4]
      rfl
    · rw [if_neg h4, hm.2.2.2.2 (by omega) (by omega), w64 (x := 1000000 * d) (by omega) (by omega), td (by omega), w64 (by omega) (by omega), Int.mul_comm]
theorem drawSmear_ok {k : Nat} (hk : 1 ≤ k) {l : List Int} (hb : ∀ x ∈ l, (Lit.int .u8 x).wf = true) : ∃ a t, spec_DrawSmearAt.f k l = some (a, t) := by
  obtain ⟨b, eb, hB⟩ := newReader_ok hb
  obtain ⟨r1, e1, l1, u1⟩ := pick_ok hk (p := 0) 250 hB (by omega) (by omega)
  obtain ⟨r2, e2, l2⟩ := one_ok hk (p := 0 + 1) [86400, 1000000, 86399, 3786393599, 3786393600, wrap64 (604800 * r1), 123456789] hB (by omega) (by omega) (by simp)
  obtain ⟨r3, e3, l3, u3⟩ := pick_ok hk (p := 0 + 1 + 1) 250 hB (by omega) (by omega)
  obtain ⟨r4, e4, l4⟩ := one_ok hk (p := 0 + 1 + 1 + 1) [0, -43200, 43200, -43201, 43201, 1, -1, wrap64 (345 * wrap64 (r3 - 125)), 1000000, -90000] hB (by omega) (by omega) (by simp)
  refine ⟨r2, wrap64 (r2 + r4), ?_⟩
  unfold spec_DrawSmearAt.f spec_leapAt.f
  simp only [eb, Option.bind_some, e1, e2, e3, e4]
def okT (a t : Int) : Prop := (86400 ≤ a ∧ a ≤ 3786393599) ∧ 0 ≤ t ∧ t ≤ 200000000
instance (a t : Int) : Decidable (okT a t) := by unfold okT; infer_instance
def stamp (a t : Int) : Int := if okT a t then 1000000 * t - sm (t - (a - 43200)) else -1
theorem smearAt_at {a t : Int} (h : okT a t) : smearAt a t = sm (t - (a - 43200)) := by unfold smearAt; rw [if_pos ⟨h.1, h.2.1, by have := h.2.2; omega⟩]
theorem stamp_i (a t : Int) : impl_SmearedStamp.f a t = some (stamp a t) := by
  unfold impl_SmearedStamp.f impl_canSmear.f stamp
  rw [within_eq, within_eq, Option.bind_some, Option.bind_some, Option.bind_some, smear_i, Option.bind_some]
  by_cases h1 : 86400 ≤ a ∧ a ≤ 3786393599
  · rw [if_pos (decide_eq_true h1)]
    by_cases h2 : 0 ≤ t ∧ t ≤ 200000000
    · have hs := sm_in (t - (a - 43200))
      rw [if_pos (decide_eq_true h2), if_pos ⟨h1, h2⟩, smearAt_at ⟨h1, h2⟩, w64 (x := 1000000 * t) (by omega) (by omega), w64 (by omega) (by omega)]
    · rw [if_neg (by simpa using h2), if_neg (fun g => h2 g.2)]
  · rw [if_neg (by simpa using h1), if_neg (fun g => h1 g.1)]
theorem stamp_s (a t : Int) : spec_SmearedStamp.f a t = some (stamp a t) := by
  unfold spec_SmearedStamp.f spec_validLeapTime.f stamp
  rw [inRange_eq, inRange_eq, Option.bind_some, Option.bind_some, Option.bind_some]
  by_cases h1 : 86400 ≤ a ∧ a ≤ 3786393599
  · rw [if_pos (decide_eq_true h1)]
    by_cases h2 : 0 ≤ t ∧ t ≤ 200000000
    · have hs := sm_in (t - (a - 43200))
      rw [if_pos (decide_eq_true h2), if_pos ⟨h1, h2⟩, smear_sm a t h1 (by omega), Option.bind_some, w64 (x := 1000000 * t) (by omega) (by omega), w64 (by omega) (by omega)]
    · rw [if_neg (by simpa using h2), if_neg (fun g => h2 g.2)]
  · rw [if_neg (by simpa using h1), if_neg (fun g => h1 g.1)]
theorem sm_step (d : Int) : sm d ≤ sm (d + 1) ∧ sm (d + 1) ≤ sm d + 12 := by
  have h1 := mnmx d
  have h2 := mnmx (d + 1)
  unfold sm
  by_cases a : d ≤ 0
  · by_cases b : d + 1 ≤ 0
    · rw [h1.2.2.1 a, h2.2.2.1 b]; omega
    · rw [h1.2.2.1 a, h2.2.2.2.2 (by omega) (by omega)]; omega
  · by_cases b : 86400 ≤ d
    · rw [h1.2.2.2.1 b, h2.2.2.2.1 (by omega)]; omega
    · rw [h1.2.2.2.2 (by omega) (by omega), h2.2.2.2.2 (by omega) (by omega)]; omega
end KFnSmearedStamp
open KFnSmearedStamp
theorem FnSmearedStamp (l : List Int) (_hl : l.length ≤ maxLen) (_hs : l.length * 1 ≤ 140737488351232) (hb : ∀ x ∈ l, (Lit.int .u8 x).wf = true) : ∃ k, laws_FnSmearedStamp.f k l = some true := by
  refine ⟨1, ?_⟩
  unfold laws_FnSmearedStamp.f spec_DrawSmearedStamp.f
  by_cases h0 : (l.length : Int) > 1048576
  · rw [if_pos h0]
  obtain ⟨a, t, ed⟩ := drawSmear_ok (k := 1) (by omega) hb
  rw [if_neg h0, ed, Option.bind_some, Option.bind_some, stamp_i, Option.bind_some, stamp_s, Option.bind_some, if_pos rfl]
  dsimp only
  have hj : ∀ b, b = true → laws_FnSmearedStamp.j0 1 a t (stamp a t) b = some true := fun b e => by
    subst e
    simp only [laws_FnSmearedStamp.j0]
    rw [if_pos trivial, stamp_s, Option.bind_some]
    simp
  by_cases h : okT a t
  · have hs := sm_in (t - (a - 43200))
    have h1 : stamp a t = 1000000 * t - sm (t - (a - 43200)) := by unfold stamp; rw [if_pos h]
    have h' := h
    unfold okT at h'
    by_cases hn : stamp a t < 0
    · rw [if_pos hn]
      exact hj _ rfl
    · rw [if_neg hn]
      by_cases ht : t = 200000000
      · exact hj _ (beq_iff_eq.2 ht)
      · rw [beq_eq_false_iff_ne.2 ht]
        have h2 : okT a (t + 1) := ⟨h'.1, by omega, by omega⟩
        have hs2 := sm_step (t - (a - 43200))
        have e2 : stamp a (t + 1) = 1000000 * (t + 1) - sm (t - (a - 43200) + 1) := by unfold stamp; rw [if_pos h2, show t + 1 - (a - 43200) = t - (a - 43200) + 1 by omega]
        have hs3 := sm_in (t - (a - 43200) + 1)
        simp only [laws_FnSmearedStamp.j0]
        rw [if_neg (by simp), w64 (x := t + 1) (by omega) (by omega), stamp_i, Option.bind_some, e2, h1]
        rw [w64 (x := 1000000 * (t + 1) - sm (t - (a - 43200) + 1) - (1000000 * t - sm (t - (a - 43200)))) (by omega) (by omega), if_pos (by omega), if_pos (by omega), smear_i, Option.bind_some, smearAt_at h, w64 (x := 1000000 * t) (by omega) (by omega), w64 (by omega) (by omega)]
        exact congrArg some (beq_iff_eq.2 (by omega))
  · have h1 : stamp a t = -1 := by unfold stamp; rw [if_neg h]
    rw [if_pos (by omega)]
    exact hj _ rfl

end Go.Proofs.Ytchlfonhhmkipaa.Pure
