/- What a line does on both sides, and that each side's line does it; no condition of its own. -/
import Derived.Test.YtdggcfpimjdckaaGreatDoorZp
import Derived.Test.YtdggcfpimjdckaaGreatDoorSe1
import Derived.Test.YtdggcfpimjdckaaGreatDoorSe2
import Derived.Test.YtdggcfpimjdckaaGreatDoorSe3
import Derived.Test.YtdggcfpimjdckaaGreatDoorSe4
namespace Go.Proofs.YtdggcfpimjdckaaGreatDoor.Pure
open Go Go.RowKit Go.Proofs.YtdggcfpimjdckaaGreatDoor.PFnExactRunSession Go.Proofs.YtdggcfpimjdckaaGreatDoorW.PrintWords Go.Proofs.YtdggcfpimjdckaaGreatDoorW.PrintLast Go.Proofs.YtdggcfpimjdckaaGreatDoorW.PrintMore
theorem spl_cnt (c : UInt8) : ∀ (n : Nat) (l : List UInt8), l.length ≤ n → (splc c l).length ≤ l.length + 1 := by
  intro n
  induction n with
  | zero =>
    intro l hl
    have : l = [] := List.eq_nil_of_length_eq_zero (by omega)
    subst this
    rw [spl_free (by intro x hx; simp at hx)]
    simp
  | succ n ih =>
    intro l hl
    rcases free_or c l with h | ⟨a, r, h, e⟩
    · rw [spl_free h]; simp
    · rw [e, spl_at h]
      rw [e] at hl
      simp only [List.length_append, List.length_cons] at hl ⊢
      have := ih r (by omega)
      omega
theorem dd_ge : ∀ (k u : Nat), 10 ^ k ≤ u → k < (Lib.decDigits u).length := by
  intro k
  induction k with
  | zero =>
    intro u _
    by_cases h : u < 10
    · rw [dd1 h]; simp
    · rw [dd_step h]; simp
  | succ k ih =>
    intro u hu
    rw [Nat.pow_succ] at hu
    have hp : 0 < 10 ^ k := Nat.pow_pos (by omega)
    have := ih (u / 10) (by omega)
    rw [dd_step (by omega), List.length_append, List.length_singleton]
    omega
theorem itoa_dd (n : Int) (h0 : 0 ≤ n) (h1 : n ≤ 9223372036854775807) : Lib.itoa n = Lib.decDigits n.toNat := by
  have h := itoa_i n h0 h1
  unfold strconv_Itoa.f at h
  rw [if_pos (by omega)] at h
  exact B_inj (Option.some.inj h)
theorem rd_bad (l : List UInt8) (m : Int) (hb : l.all isD = false) : rdV (B l) m = -1 := by
  have e : (B l).data.toList = l := by simp [B]
  unfold rdV
  split
  · rfl
  · rw [e, hb]; rfl
theorem numC_big {l : List UInt8} (h : 10 < l.length) : numC (B l) = -1 := by
  unfold numC
  rw [B_size]
  split
  · rfl
  · rw [if_pos (Or.inr h)]
theorem numC_bad {l : List UInt8} (h : l.all isD = false) : numC (B l) = -1 := by
  unfold numC
  rw [B_size]
  split
  · rfl
  · next n hn =>
    by_cases h0 : n < 0 ∨ 10 < l.length
    · rw [if_pos h0]
    · have hb : n ≤ 9223372036854775807 := by
        unfold atoiN at hn
        split at hn
        · cases hn; exact (Lib.atoiAll_bounds (by assumption)).2
        · cases hn
      rw [if_neg h0, if_neg]
      rw [itoa_dd n (by omega) hb, B_list]
      intro e
      rw [← e, dd_all isD (fun _ => isD_dg)] at h
      cases h
theorem numC_dig {l : List UInt8} (h1 : l ≠ []) (hl : l.length ≤ 10) (h : l.all isD = true) : numC (B l) = if Lib.decDigits (valL 0 l) = l then ((valL 0 l : Nat) : Int) else -1 := by
  unfold numC
  rw [atoi_d h h1 hl]
  simp only []
  rw [B_size, if_neg (by omega), B_list]
  have hb : ((valL 0 l : Nat) : Int) ≤ 9223372036854775807 := by
    have ha := atoi_d h h1 hl
    unfold atoiN at ha
    split at ha
    · cases ha; exact (Lib.atoiAll_bounds (by assumption)).2
    · cases ha
  rw [itoa_dd _ (by omega) hb, Int.toNat_natCast]
theorem valL_lt : ∀ (l : List UInt8) (a : Nat), l.all isD = true → valL a l < (a + 1) * 10 ^ l.length := by
  intro l
  induction l with
  | nil => intro a _; unfold valL; simp
  | cons c r ih =>
    intro a hd
    rw [List.all_cons, Bool.and_eq_true] at hd
    have hc : 48 ≤ c.toNat ∧ c.toNat ≤ 57 := by simpa [isD] using hd.1
    have h := ih (10 * a + (c.toNat - 48)) hd.2
    have := Nat.mul_le_mul_right (10 ^ r.length) (show 10 * a + (c.toNat - 48) + 1 ≤ (a + 1) * 10 by omega)
    rw [List.length_cons, Nat.pow_succ, Nat.mul_comm (10 ^ r.length) 10, ← Nat.mul_assoc]
    have e : valL a (c :: r) = valL (10 * a + (c.toNat - 48)) r := rfl
    omega
theorem num_s {k : Nat} (hk : 30 ≤ k) (l : List UInt8) : spec_parseInt.f k (B l) = some (numC (B l)) := by
  unfold spec_parseInt.f
  have e10 : spec_readDigits.f (B l) 10 = some (rdV (B l) 10) := by unfold spec_readDigits.f; rw [if_pos (by decide)]
  rw [e10, Option.bind_some]
  by_cases h1 : l = []
  · subst h1; rfl
  by_cases h2 : 10 < l.length
  · rw [numC_big h2, show rdV (B l) 10 = -1 by unfold rdV; rw [B_size, if_pos (Or.inr (by omega))]]; rfl
  cases hd : l.all isD with
  | false => rw [numC_bad hd, rd_bad l 10 hd]; rfl
  | true =>
    rw [numC_dig h1 (by omega) hd, rd_val l 10 h1 (by omega) hd, if_neg (by omega)]
    have hb : valL 0 l < 10 ^ 10 := by
      have h3 := valL_lt l 0 hd
      have h4 := Nat.pow_le_pow_right (n := 10) (by omega) (show l.length ≤ 10 by omega)
      omega
    have hk10 : (10 : Nat) ^ 10 ≤ 10 ^ k := Nat.pow_le_pow_right (by omega) (by omega)
    rw [decimal_s k _ (by omega) (by omega) (by exact_mod_cast Nat.lt_of_lt_of_le hb hk10) (by omega), Option.bind_some, B_list, B_list, Int.toNat_natCast]
    split <;> rfl
theorem num_range (l : List UInt8) : -1 ≤ numC (B l) ∧ numC (B l) ≤ 9999999999 := by
  by_cases h2 : 10 < l.length
  · rw [numC_big h2]; omega
  by_cases h1 : l = []
  · subst h1; exact ⟨by decide, by decide⟩
  cases hd : l.all isD with
  | false => rw [numC_bad hd]; omega
  | true =>
    rw [numC_dig h1 (by omega) hd]
    split
    · next e =>
      refine ⟨by omega, ?_⟩
      by_cases hb : 10 ^ 10 ≤ valL 0 l
      · have := dd_ge 10 _ hb
        rw [e] at this
        omega
      · omega
    · omega
/-- Does a line begin with a dollar? -/
def dollar (a : ByteArray) : Bool := decide (0 < a.size ∧ bt a 0 = 36)
theorem prefix_i (l : List UInt8) : strings_HasPrefix.f (B l) ⟨#[36]⟩ = some (dollar (B l)) := by
  unfold strings_HasPrefix.f stringslite_HasPrefix.f dollar
  have e1 : (⟨#[36]⟩ : ByteArray).size = 1 := rfl
  rw [e1, B_size]
  cases l with
  | nil => simp
  | cons c r =>
    rw [if_pos (by simp; omega), if_pos (by omega), if_pos (by simp; omega)]
    have e2 : (B (c :: r)).extract 0 ((1 : Nat) : Int).toNat = B [c] := by rw [B_ext]; simp
    have e3 : bt (B (c :: r)) 0 = (c.toNat : Int) := bt_B (c :: r) 0 (by simp)
    rw [e2, e3, B_list]
    have e4 : (⟨#[36]⟩ : ByteArray).toList = [36] := B_list [36]
    rw [e4, Option.bind_some]
    have : (([c] : List UInt8) == [36]) = decide (0 < (c :: r).length ∧ (c.toNat : Int) = 36) := by
      by_cases hc : c = 36
      · subst hc; simp
      · have hn : ¬ (c.toNat : Int) = 36 := fun e => hc (UInt8.toNat_inj.1 (by rw [show (36 : UInt8).toNat = 36 from rfl]; omega))
        simp [hc, hn]
    rw [this]
end Go.Proofs.YtdggcfpimjdckaaGreatDoor.Pure
namespace Go.Proofs.YtdggcfpimjdckaaGreatDoor.PFnExactRunSession
open Go.RowKit Go.Proofs.YtdggcfpimjdckaaGreatDoorW.PrintWords Go.Proofs.YtdggcfpimjdckaaGreatDoorW.PrintLast Go.Proofs.YtdggcfpimjdckaaGreatDoorW.PrintMore
open Go.Proofs.YtdggcfpimjdckaaGreatDoor.Pure
abbrev wWait : List UInt8 := [119, 97, 105, 116]
abbrev wAsk : List UInt8 := [97, 115, 107]
abbrev wLevel : List UInt8 := [108, 101, 118, 101, 108]
abbrev wDate : List UInt8 := [100, 97, 116, 101]
/-- The fix that a line spells. -/
def parseC (a : ByteArray) : Int × Int × Int × Int × Int × Bool := (impl_ParseFix.f 1050000 a).getD (0, 0, 0, 0, 0, false)
def civP (p : Int × Int × Int × Int × Int × Bool) : Int := civ p.1 p.2.1 p.2.2.1 p.2.2.2.1 p.2.2.2.2.1
/-- A number's text. -/
def itC (n : Int) : ByteArray := B (Lib.decDigits n.toNat)
/-- A day's text. -/
def dateC (t : Int) : ByteArray := match impl_FixAt.f 2000 t 0 with
  | some (y, m, d, _, _) => itC y ++ ⟨#[45]⟩ ++ B (two m.toNat) ++ ⟨#[45]⟩ ++ B (two d.toNat)
  | none => ⟨#[]⟩
/-- What a line of words does. -/
def wordC (s : Sta) : List ByteArray → ByteArray × Sta
  | [x, y] => if x.toList = wWait then waitC s (numC y) else if x.toList = wAsk then askC s (Pure.takeB s.l (numC y) s.t).1 (Pure.takeB s.l (numC y) s.t).2.1 (Pure.takeB s.l (numC y) s.t).2.2 (itC s.t) (itC (errV s.e s.wa s.sn s.t)) else (bWhat, s)
  | [x] => if x.toList = wLevel then (itC (levV s.e s.wa s.sn s.t), s) else if x.toList = wDate then (dateC s.t, s) else (bWhat, s)
  | _ => (bWhat, s)
theorem wordC1 (s : Sta) (x : ByteArray) : wordC s [x] = if x.toList = wLevel then (itC (levV s.e s.wa s.sn s.t), s) else if x.toList = wDate then (dateC s.t, s) else (bWhat, s) := rfl
theorem wordC2 (s : Sta) (x y : ByteArray) : wordC s [x, y] = if x.toList = wWait then waitC s (numC y) else if x.toList = wAsk then askC s (Pure.takeB s.l (numC y) s.t).1 (Pure.takeB s.l (numC y) s.t).2.1 (Pure.takeB s.l (numC y) s.t).2.2 (itC s.t) (itC (errV s.e s.wa s.sn s.t)) else (bWhat, s) := rfl
/-- What a line does, on both sides. -/
def stepC (s : Sta) (a : ByteArray) : ByteArray × Sta := if dollar a = true then fixC s (parseC a) (civP (parseC a)) else wordC s (wordsOf a ⟨#[32]⟩)
/-- What the session keeps. -/
structure OkSt (s : Sta) : Prop where
  v : VS s.e s.wa s.sn s.t
  l : s.l.length ≤ 9
theorem OkSt.zero : OkSt Sta.zero := ⟨⟨by decide, by decide, by decide, by decide, by decide, by decide, by decide⟩, by decide⟩
theorem toB {x : ByteArray} {l : List UInt8} (h : x.toList = l) : x = B l := by
  have e := B_of x
  have : x.toList = x.data.toList := by conv => lhs; rw [e, B_list]
  rw [e, ← this, h]
theorem parse_i (a : ByteArray) (h : a.size ≤ 1048576) : impl_ParseFix.f 1050000 a = some (parseC a) ∧ spec_ParseFix.f 1050000 a = some (parseC a) ∧ ((parseC a).2.2.2.2.2 = true → okFix (parseC a).1 (parseC a).2.1 (parseC a).2.2.1 (parseC a).2.2.2.1 (parseC a).2.2.2.2.1) := by
  have hl : a.data.toList.length = a.size := rfl
  have hs : spec_ParseFix.f 1050000 a = impl_ParseFix.f 1050000 a := by rw [B_of a]; exact parse_s (by omega) (by omega) (by omega)
  by_cases hx : ∃ y m d s n, okFix y m d s n ∧ a.data.toList = frame (bodyL y m d s n)
  · obtain ⟨y, m, d, s, n, ho, e⟩ := hx
    have h1 : impl_ParseFix.f 1050000 a = some (y, m, d, s, n, true) := by rw [B_of a, e]; exact parse_frame (by omega) ho
    have h2 : parseC a = (y, m, d, s, n, true) := by unfold parseC; rw [h1]; rfl
    rw [hs, h1, h2]
    exact ⟨rfl, rfl, fun _ => ho⟩
  · have h1 : impl_ParseFix.f 1050000 a = some (0, 0, 0, 0, 0, false) := by rw [B_of a]; exact parse_no (by omega) (by omega) (by omega) hx
    have h2 : parseC a = (0, 0, 0, 0, 0, false) := by unfold parseC; rw [h1]; rfl
    rw [hs, h1, h2]
    exact ⟨rfl, rfl, fun h => by cases h⟩
theorem civ_le {y m d s n : Int} (h : okFix y m d s n) : civ y m d s n ≤ 3786479999 := by
  have hd := dayNo_in h.1
  unfold civ
  split
  · have hm : mn s 86399 ≤ 86399 := by unfold mn; split <;> omega
    omega
  · omega
theorem fix_VS {s : Sta} (hO : OkSt s) (a : ByteArray) (ha : a.size ≤ 1048576) : (parseC a).2.2.2.2.2 = true → ¬ civP (parseC a) < s.t → VS s.e s.wa s.sn (civP (parseC a)) := fun hk hc => by
  have h := hO.v
  have hl := civ_le ((parse_i a ha).2.2 hk)
  exact ⟨h.e0, h.e1, h.w0, h.w1, h.s0, by have := h.s1; omega, hl⟩
theorem itI (n : Int) (h0 : 0 ≤ n) (h1 : n ≤ 9999999999) : Ret 26 #[.int .i64 n] (.string (itC n)) := fun w hT => strconv_Itoa.calls n _ w hT (itoa_i n h0 (by omega))
theorem itS (n : Int) (h0 : 0 ≤ n) (h1 : n ≤ 9999999999) : Ret 16 #[.int .i64 n] (.string (itC n)) := fun w _ => spec_decimal.calls 20 n _ w (decimal_s 20 n h0 (by omega) (by omega) (by omega))
theorem itC_size (n : Int) (h0 : 0 ≤ n) (h1 : n ≤ 9999999999) : (itC n).size ≤ 20 := by
  unfold itC
  rw [B_size]
  exact dd_len _ 20 (by omega) (by omega)
theorem takeI (l : List S74) (n t : Int) (hl : l.length ≤ 9) : RetT 45 l n t (Pure.takeB l n t).1 (Pure.takeB l n t).2.1 (Pure.takeB l n t).2.2 := fun w A c hC hc => impl_TakeToken.calls 100 A c l n t _ _ _ w hC hc (take_i l n t (by omega) (by omega))
theorem takeS (l : List S74) (n t : Int) (hl : l.length ≤ 9) : RetT 35 l n t (Pure.takeB l n t).1 (Pure.takeB l n t).2.1 (Pure.takeB l n t).2.2 := fun w A c hC hc => spec_TakeToken.calls 100 A c l n t _ _ _ w hC hc (take_s l n t (by omega) (by omega))
theorem takeB_le (l : List S74) (c t : Int) (hl : l.length ≤ 9) : (Pure.takeB l c t).1.length ≤ 9 := by
  unfold Pure.takeB
  split
  · simp
  · split
    · exact hl
    · split
      next h => have := okB_len h; show (putB l c (toks l c t - 1) t).length ≤ _; omega
      next => simp
theorem takeB_no (l : List S74) (c t : Int) : (Pure.takeB l c t).2.2 = true → (Pure.takeB l c t).2.1 = false → (Pure.takeB l c t).1 = l := by
  unfold Pure.takeB
  split
  · intro h; cases h
  · split
    · intro _ _; rfl
    · split
      · intro _ h; cases h
      · intro h; cases h
theorem levV_range (e wa sn t : Int) : 0 ≤ levV e wa sn t ∧ levV e wa sn t ≤ 2 := by unfold levV; split <;> (try split) <;> omega
theorem date_ret {s : Sta} (hO : OkSt s) : ∃ y m d sc n Y M D, Ret 28 #[.int .i64 s.t, .int .i64 0] (.agg #[.int .i64 y, .int .i64 m, .int .i64 d, .int .i64 sc, .int .i64 n]) ∧ Ret 18 #[.int .i64 s.t, .int .i64 0] (.agg #[.int .i64 y, .int .i64 m, .int .i64 d, .int .i64 sc, .int .i64 n]) ∧
    Ret 26 #[.int .i64 y] (.string Y) ∧ Ret 16 #[.int .i64 y] (.string Y) ∧ Ret 29 #[.int .i64 m] (.string M) ∧ Ret 19 #[.int .i64 m, .int .i64 2] (.string M) ∧ Ret 29 #[.int .i64 d] (.string D) ∧ Ret 19 #[.int .i64 d, .int .i64 2] (.string D) ∧
    (Y.size ≤ 1000 ∧ M.size ≤ 1000 ∧ D.size ≤ 1000) ∧ dateC s.t = Y ++ ⟨#[45]⟩ ++ M ++ ⟨#[45]⟩ ++ D := by
  have ht : 0 ≤ s.t ∧ s.t ≤ 3786479999 := ⟨Int.le_trans hO.v.s0 hO.v.s1, hO.v.t1⟩
  obtain ⟨y, m, d, e, h1, h2⟩ := fixAt_i (k := 2000) (by omega) s.t 0 ht (by omega)
  have e2 := fixAt_s (k := 2000) (by omega) s.t 0 ht (by omega) h1 h2
  have hm := mdays31 y m
  obtain ⟨hy, hmm, hd1, hd2⟩ := id h1
  refine ⟨y, m, d, s.t % 86400, 0, itC y, B (two m.toNat), B (two d.toNat), fun w _ => impl_FixAt.calls 2000 s.t 0 _ _ _ _ _ w e, fun w _ => spec_FixAt.calls 2000 s.t 0 _ _ _ _ _ w e2, itI y (by omega) (by omega), itS y (by omega) (by omega), fun w hT => impl_twoDigits.calls m _ w hT (two_i m (by omega) (by omega)), fun w _ => spec_digits.calls 20 m 2 _ w (digits2_s (by omega) m (by omega) (by omega)), fun w hT => impl_twoDigits.calls d _ w hT (two_i d (by omega) (by omega)), fun w _ => spec_digits.calls 20 d 2 _ w (digits2_s (by omega) d (by omega) (by omega)), ⟨?_, ?_, ?_⟩, ?_⟩
  · have := itC_size y (by omega) (by omega); omega
  · rw [B_size, two_len]; omega
  · rw [B_size, two_len]; omega
  · unfold dateC; rw [e]
/-- The words of a line. -/
theorem words_ok (l : List UInt8) (h : l.length ≤ 1048576) : wordsOf (B l) ⟨#[32]⟩ = (splc 32 l).map B ∧ (∀ x ∈ wordsOf (B l) ⟨#[32]⟩, x.size ≤ 1048576) ∧ wordsOf (B l) ⟨#[32]⟩ ≠ [] ∧ (freec 32 l → wordsOf (B l) ⟨#[32]⟩ = [B l]) ∧ (∀ x, wordsOf (B l) ⟨#[32]⟩ = [x] → x = B l) := by
  have e := words_B 32 l
  have hne : ∀ l, splc 32 l ≠ [] := fun l => by
    rcases free_or 32 l with h | ⟨a, r, h, e⟩
    · rw [spl_free h]; simp
    · rw [e, spl_at h]; simp
  rw [e]
  refine ⟨rfl, ?_, by simpa using hne l, fun hf => by rw [spl_free hf]; rfl, fun x hx => ?_⟩
  · intro x hx
    obtain ⟨y, hy, rfl⟩ := List.mem_map.1 hx
    have := spl_len 32 l.length l (Nat.le_refl _) y hy
    rw [B_size]; omega
  · rcases free_or 32 l with h | ⟨a, r, h, e⟩
    · rw [spl_free h] at hx
      simpa using hx.symm
    · rw [e, spl_at h] at hx
      exact absurd (by simpa using (List.cons.inj hx).2) (hne r)
theorem splI (l : List UInt8) (h : l.length ≤ 1048576) : RetS 22 #[.string (B l), .string ⟨#[32]⟩] (wordsOf (B l) ⟨#[32]⟩) := fun w hT => by
  refine (split_calls (B l) ⟨#[32]⟩ w hT (by rw [B_size]; omega) (by decide)).mono ?_
  rintro e w' ⟨g, rfl, hg, _, hb⟩
  have hl : (wordsOf (B l) ⟨#[32]⟩).length ≤ 9223372036854775807 := by
    have := spl_cnt 32 l.length l (Nat.le_refl _)
    rw [words_B, List.length_map]
    omega
  exact ⟨_, _, rfl, Nat.le_refl _, strC hg hl, hb⟩
theorem splS (l : List UInt8) (h : l.length ≤ 1048576) : RetS 11 #[.string (B l), .int .u8 32] (wordsOf (B l) ⟨#[32]⟩) := fun w _ => by
  have e := splitAt_g 32 (k := 1048577) (l := l) h (by omega)
  rw [← words_B 32 l] at e
  refine (spec_splitAt.calls 1048577 (B l) 32 _ w e).mono ?_
  rintro e w' ⟨v, rfl, hr, hb⟩
  obtain ⟨A, c, rfl, hl, hc⟩ := Kd.R_reads hr
  exact ⟨A, c, rfl, hl, hc, hb⟩
theorem wordC_what (s : Sta) (ws : List ByteArray) (x : ByteArray) (r : List ByteArray) (h : ws = x :: r) (hW : WhatC x (x :: r).length) : wordC s ws = (bWhat, s) := by
  subst h
  unfold wordC WhatC at *
  split
  · next y z e =>
    cases e
    rw [if_neg, if_neg]
    · intro e; rcases hW with h | h | h | h | h <;> simp_all
    · intro e; rcases hW with h | h | h | h | h <;> simp_all
  · next y e =>
    cases e
    rw [if_neg, if_neg]
    · intro e; rcases hW with h | h | h | h | h <;> simp_all
    · intro e; rcases hW with h | h | h | h | h <;> simp_all
  · rfl
theorem what1 {x : ByteArray} (h1 : ¬ x.toList = wLevel) (h2 : ¬ x.toList = wDate) : WhatC x [x].length := by
  unfold WhatC
  by_cases h3 : x.toList = wWait
  · exact Or.inl ⟨h3, by simp⟩
  by_cases h4 : x.toList = wAsk
  · exact Or.inr (Or.inl ⟨h4, by simp⟩)
  exact Or.inr (Or.inr (Or.inr (Or.inr ⟨h3, h4, h1, h2⟩)))
theorem what2 {x y : ByteArray} (h1 : ¬ x.toList = wWait) (h2 : ¬ x.toList = wAsk) : WhatC x [x, y].length := by
  unfold WhatC
  by_cases h3 : x.toList = wLevel
  · exact Or.inr (Or.inr (Or.inl ⟨h3, by simp⟩))
  by_cases h4 : x.toList = wDate
  · exact Or.inr (Or.inr (Or.inr (Or.inl ⟨h4, by simp⟩)))
  exact Or.inr (Or.inr (Or.inr (Or.inr ⟨h1, h2, h3, h4⟩)))
theorem what3 (x y z : ByteArray) (r : List ByteArray) : WhatC x (x :: y :: z :: r).length := by
  unfold WhatC
  by_cases h1 : x.toList = wWait
  · exact Or.inl ⟨h1, by simp⟩
  by_cases h2 : x.toList = wAsk
  · exact Or.inr (Or.inl ⟨h2, by simp⟩)
  by_cases h3 : x.toList = wLevel
  · exact Or.inr (Or.inr (Or.inl ⟨h3, by simp⟩))
  by_cases h4 : x.toList = wDate
  · exact Or.inr (Or.inr (Or.inr (Or.inl ⟨h4, by simp⟩)))
  exact Or.inr (Or.inr (Or.inr (Or.inr ⟨h1, h2, h3, h4⟩)))
theorem retseP (a : ByteArray) (h : a.size ≤ 1048576) : Ret 40 #[.string a] (.tuple #[fixV (parseC a), .bool (parseC a).2.2.2.2.2]) := fun w hT => impl_ParseFix.calls 1050000 a _ _ _ _ _ _ w hT (parse_i a h).1
theorem retseC (p : Int × Int × Int × Int × Int × Bool) : Ret 41 #[fixV p] (.int .i64 (civP p)) := fun w _ => impl_CivilFix.calls 2000 _ _ _ _ _ _ w (civil_i (by omega) _ _ _ _ _)
theorem retseN (y : ByteArray) (h : y.size ≤ 1048576) : Ret 24 #[.string y] (.int .i64 (numC y)) := se_num y h
theorem se_step (g : Nat) (s : Sta) (a : ByteArray) (w0 w : World) (hT : Tc w0) (hB : Below w0.heap.size w0 w) (hg : w0.heap.size ≤ g) (hI : SeI w g s) (hO : OkSt s) (ha : a.size ≤ 1048576) :
    Calls Tryz.prog 10 #[.pointer (some ⟨g, 0, none⟩), .string a] w fun e w' => e = .returned (.string (stepC s a).1) ∧ SeI w' g (stepC s a).2 ∧ Below w0.heap.size w0 w' := by
  obtain ⟨l, rfl⟩ : ∃ l, a = B l := ⟨_, B_of a⟩
  have hv := hO.v
  have ht : 0 ≤ s.t ∧ s.t ≤ 3786479999 := ⟨Int.le_trans hv.s0 hv.s1, hv.t1⟩
  have her := errV_range hv
  have hlr := levV_range s.e s.wa s.sn s.t
  rw [B_size] at ha
  have hS := splI l ha
  obtain ⟨-, hws, hwn, hwf, hw1⟩ := words_ok l ha
  have hp := prefix_i l
  unfold stepC
  cases hd : dollar (B l) with
  | true =>
    rw [if_pos rfl]
    rw [hd] at hp
    exact se_line_fix g s (B l) w0 w hT hB hg hI _ _ hp (fun w hB hI => se_fix g s (B l) _ _ _ _ _ _ (civP (parseC (B l))) w0 w hT hB hg hI (retseP (B l) (by rw [B_size]; exact ha)) (retseC (parseC (B l))) (fix_VS hO (B l) (by rw [B_size]; exact ha)))
  | false =>
    rw [if_neg (by simp)]
    rw [hd] at hp
    have hK : ∀ w, wordsOf (B l) ⟨#[32]⟩ = w → w ≠ [] := fun w e => by rw [← e]; exact hwn
    skip
    skip
    generalize wordsOf (B l) ⟨#[32]⟩ = ws at *
    match ws, hwn with
    | [x], _ =>
      skip
      rw [wordC1]
      by_cases h1 : x.toList = wLevel
      · rw [if_pos h1]
        rw [toB h1] at hS
        exact se_line_level g s (B l) w0 w hT hB hg hI hS _ hv (itI _ hlr.1 (by omega)) hp
      rw [if_neg h1]
      by_cases h2 : x.toList = wDate
      · rw [if_pos h2]
        rw [toB h2] at hS
        obtain ⟨y, m, d, sc, n, Y, M, D, f1, f2, y1, y2, m1, m2, d1, d2, hzz, he⟩ := date_ret hO
        rw [he]
        exact se_line_date g s (B l) w0 w hT hB hg hI hS y m d sc n Y M D f1 y1 m1 d1 hzz hp
      rw [if_neg h2]
      exact se_line_what g s (B l) w0 w hT hB hg hI x [] hS (what1 h1 h2) hp
    | [x, y], _ =>
      rw [wordC2]
      have hy := hws y (by simp)
      have hnr : -1 ≤ numC y ∧ numC y ≤ 9999999999 := by rw [B_of y]; exact num_range _
      by_cases h1 : x.toList = wWait
      · rw [if_pos h1]
        rw [toB h1] at hS
        exact se_line_wait g s (B l) w0 w hT hB hg hI y hS (numC y) (retseN y hy) _ _ hp (fun w hB hI => se_wait g s (numC y) w0 w hB hg hI ht hnr)
      rw [if_neg h1]
      by_cases h2 : x.toList = wAsk
      · rw [if_pos h2]
        rw [toB h2] at hS
        exact se_line_ask g s (B l) w0 w hT hB hg hI y hS (numC y) (retseN y hy) _ _ hp (fun w hB hI => se_ask g s (numC y) _ _ _ _ _ w0 w hT hB hg hI (takeI s.l (numC y) s.t hO.l) (itI _ ht.1 (by omega)) (itI _ her.1 (by omega)) hv ⟨by have := itC_size s.t ht.1 (by omega); omega, by have := itC_size (errV s.e s.wa s.sn s.t) her.1 (by omega); omega⟩)
      rw [if_neg h2]
      exact se_line_what g s (B l) w0 w hT hB hg hI x [y] hS (what2 h1 h2) hp
    | x :: y :: z :: r, _ =>
      exact se_line_what g s (B l) w0 w hT hB hg hI x (y :: z :: r) hS (what3 x y z r) hp
theorem retdkP (a : ByteArray) (h : a.size ≤ 1048576) : Ret 30 #[.string a] (.tuple #[fixV (parseC a), .bool (parseC a).2.2.2.2.2]) := fun w _ => spec_ParseFix.calls 1050000 a _ _ _ _ _ _ w (parse_i a h).2.1
theorem retdkC (p : Int × Int × Int × Int × Int × Bool) : Ret 31 #[fixV p] (.int .i64 (civP p)) := fun w _ => spec_CivilFix.calls 2000 _ _ _ _ _ _ w (civil_s (by omega) _ _ _ _ _)
theorem retdkN (y : ByteArray) (_ : y.size ≤ 1048576) : Ret 14 #[.string y] (.int .i64 (numC y)) := fun w _ => spec_parseInt.calls 30 y _ w (by rw [B_of y]; exact num_s (by omega) _)
theorem dk_step (g : Nat) (s : Sta) (a : ByteArray) (w0 w : World) (hT : Tc w0) (hB : Below w0.heap.size w0 w) (hg : w0.heap.size ≤ g) (hI : DkI w g s) (hO : OkSt s) (ha : a.size ≤ 1048576) :
    Calls Tryz.prog 9 #[.pointer (some ⟨g, 0, none⟩), .string a] w fun e w' => e = .returned (.string (stepC s a).1) ∧ DkI w' g (stepC s a).2 ∧ Below w0.heap.size w0 w' := by
  obtain ⟨l, rfl⟩ : ∃ l, a = B l := ⟨_, B_of a⟩
  have hv := hO.v
  have ht : 0 ≤ s.t ∧ s.t ≤ 3786479999 := ⟨Int.le_trans hv.s0 hv.s1, hv.t1⟩
  have her := errV_range hv
  have hlr := levV_range s.e s.wa s.sn s.t
  rw [B_size] at ha
  have hS := splS l ha
  obtain ⟨-, hws, hwn, hwf, hw1⟩ := words_ok l ha
  skip
  unfold stepC
  cases hd : dollar (B l) with
  | true =>
    rw [if_pos rfl]
    have hd' : 0 < (B l).size ∧ bt (B l) 0 = 36 := of_decide_eq_true hd
    exact dk_line_fix g s (B l) w0 w hT hB hg hI _ _ _ hS hd' (fun w hB hI => dk_fix g s (B l) _ _ _ _ _ _ (civP (parseC (B l))) w0 w hT hB hg hI (retdkP (B l) (by rw [B_size]; exact ha)) (retdkC (parseC (B l))) (fix_VS hO (B l) (by rw [B_size]; exact ha)))
  | false =>
    rw [if_neg (by simp)]
    have hd0 : ¬ (0 < (B l).size ∧ bt (B l) 0 = 36) := of_decide_eq_false hd
    by_cases hz : l = []
    · subst hz
      rw [hwf (by intro x hx; simp at hx)] at hS ⊢
      rw [wordC_what s [B []] (B []) [] rfl (by unfold WhatC; right; right; right; right; rw [B_list]; refine ⟨by decide, by decide, by decide, by decide⟩)]
      exact dk_line_empty g s (B []) w0 w hT hB hg hI hS (B_list []) rfl
    have hz0 : 0 < (B l).size := by rw [B_size]; exact List.length_pos_iff.2 hz
    have hd' : 0 < (B l).size ∧ ¬ bt (B l) 0 = 36 := ⟨hz0, fun e => hd0 ⟨hz0, e⟩⟩
    have hK : ∀ w, wordsOf (B l) ⟨#[32]⟩ = w → w ≠ [] := fun w e => by rw [← e]; exact hwn
    have hL1 : (B l).toList = wLevel → wordsOf (B l) ⟨#[32]⟩ = [B l] := fun e => hwf (by rw [B_list] at e; rw [e]; unfold freec; decide)
    have hD1 : (B l).toList = wDate → wordsOf (B l) ⟨#[32]⟩ = [B l] := fun e => hwf (by rw [B_list] at e; rw [e]; unfold freec; decide)
    generalize wordsOf (B l) ⟨#[32]⟩ = ws at *
    match ws, hwn with
    | [x], _ =>
      obtain rfl := hw1 x rfl
      rw [wordC1]
      by_cases h1 : (B l).toList = wLevel
      · rw [if_pos h1]
        skip
        exact dk_line_level g s (B l) w0 w hT hB hg hI hS h1 _ hv (itS _ hlr.1 (by omega)) hd'
      rw [if_neg h1]
      by_cases h2 : (B l).toList = wDate
      · rw [if_pos h2]
        skip
        obtain ⟨y, m, d, sc, n, Y, M, D, f1, f2, y1, y2, m1, m2, d1, d2, hzz, he⟩ := date_ret hO
        rw [he]
        exact dk_line_date g s (B l) w0 w hT hB hg hI hS h2 y m d sc n Y M D f2 y2 m2 d2 hzz hd'
      rw [if_neg h2]
      exact dk_line_what g s (B l) w0 w hT hB hg hI (B l) [] hS (what1 h1 h2) h1 h2 hd'
    | [x, y], _ =>
      rw [wordC2]
      have hy := hws y (by simp)
      have hnr : -1 ≤ numC y ∧ numC y ≤ 9999999999 := by rw [B_of y]; exact num_range _
      by_cases h1 : x.toList = wWait
      · rw [if_pos h1]
        rw [toB h1] at hS
        exact dk_line_wait g s (B l) w0 w hT hB hg hI y hS (numC y) (retdkN y hy) _ _ hd' (fun w hB hI => dk_wait g s (numC y) w0 w hB hg hI ht hnr)
      rw [if_neg h1]
      by_cases h2 : x.toList = wAsk
      · rw [if_pos h2]
        rw [toB h2] at hS
        exact dk_line_ask g s (B l) w0 w hT hB hg hI y hS (numC y) (retdkN y hy) _ _ hd' (fun w hB hI => dk_ask g s (numC y) _ _ _ _ _ w0 w hT hB hg hI (takeS s.l (numC y) s.t hO.l) (takeB_no _ _ _) (itS _ ht.1 (by omega)) (itS _ her.1 (by omega)) hv ⟨by have := itC_size s.t ht.1 (by omega); omega, by have := itC_size (errV s.e s.wa s.sn s.t) her.1 (by omega); omega⟩)
      rw [if_neg h2]
      exact dk_line_what g s (B l) w0 w hT hB hg hI x [y] hS (what2 h1 h2) (fun e => by have := hL1 e; simp at this) (fun e => by have := hD1 e; simp at this) hd'
    | x :: y :: z :: r, _ =>
      exact dk_line_what g s (B l) w0 w hT hB hg hI x (y :: z :: r) hS (what3 x y z r) (fun e => by have := hL1 e; simp at this) (fun e => by have := hD1 e; simp at this) hd'
theorem step_ok (s : Sta) (a : ByteArray) (hO : OkSt s) (ha : a.size ≤ 1048576) : OkSt (stepC s a).2 ∧ (stepC s a).1.size ≤ 4000 := by
  have hv := hO.v
  have ht : 0 ≤ s.t ∧ s.t ≤ 3786479999 := ⟨Int.le_trans hv.s0 hv.s1, hv.t1⟩
  have her := errV_range hv
  have hlr := levV_range s.e s.wa s.sn s.t
  have hb1 : (⟨#[45]⟩ : ByteArray).size = 1 := rfl
  have hb2 : (⟨#[32]⟩ : ByteArray).size = 1 := rfl
  unfold stepC
  split
  · unfold fixC
    split
    · exact ⟨hO, show bNo.size ≤ 4000 by decide⟩
    · next h =>
      have hk : (parseC a).2.2.2.2.2 = true := by
        cases e : (parseC a).2.2.2.2.2 with
        | true => rfl
        | false => exact absurd (Or.inl e) h
      have hc : ¬ civP (parseC a) < s.t := fun e => h (Or.inr (Or.inl e))
      have hV := fix_VS hO a ha hk hc
      have hr := errV_range hV
      refine ⟨⟨⟨?_, ?_, hV.w0, hV.w1, Int.le_trans ht.1 (by show s.t ≤ civP (parseC a); omega), Int.le_refl _, hV.t1⟩, hO.l⟩, show bOk.size ≤ 4000 by decide⟩
      · show 0 ≤ seenV _
        unfold seenV; split <;> omega
      · show seenV _ ≤ 1000000
        unfold seenV; split <;> omega
  · obtain ⟨l, rfl⟩ : ∃ l, a = B l := ⟨_, B_of a⟩
    rw [B_size] at ha
    obtain ⟨-, hws, hwn, hwf, hw1⟩ := words_ok l ha
    generalize wordsOf (B l) ⟨#[32]⟩ = ws at *
    match ws, hwn with
    | [x], _ =>
      rw [wordC1]
      split
      · exact ⟨hO, by have := itC_size _ hlr.1 (by omega); show (itC _).size ≤ _; omega⟩
      split
      · obtain ⟨y, m, d, sc, n, Y, M, D, -, -, -, -, -, -, -, -, hzz, he⟩ := date_ret hO
        refine ⟨hO, ?_⟩
        show (dateC s.t).size ≤ _
        rw [he]
        rw [ByteArray.size_append, ByteArray.size_append, ByteArray.size_append, ByteArray.size_append, hb1]
        omega
      · exact ⟨hO, show bWhat.size ≤ 4000 by decide⟩
    | [x, y], _ =>
      rw [wordC2]
      have hy := hws y (by simp)
      have hnr : -1 ≤ numC y ∧ numC y ≤ 9999999999 := by rw [B_of y]; exact num_range _
      split
      · unfold waitC
        split
        · exact ⟨hO, show bNo.size ≤ 4000 by decide⟩
        · next h =>
          refine ⟨⟨⟨hv.e0, hv.e1, hv.w0, hv.w1, hv.s0, ?_, ?_⟩, hO.l⟩, show bOk.size ≤ 4000 by decide⟩
          · show s.sn ≤ s.t + numC y
            have := hv.s1; omega
          · show s.t + numC y ≤ 3786479999
            omega
      split
      · unfold askC
        split
        · exact ⟨hO, show bNo.size ≤ 4000 by decide⟩
        split
        · exact ⟨hO, show bLater.size ≤ 4000 by decide⟩
        · refine ⟨⟨hv, takeB_le _ _ _ hO.l⟩, ?_⟩
          dsimp only
          split
          · decide
          · have h1 := itC_size s.t ht.1 (by omega)
            have h2 := itC_size (errV s.e s.wa s.sn s.t) her.1 (by omega)
            rw [ByteArray.size_append, ByteArray.size_append, hb2]
            omega
      · exact ⟨hO, show bWhat.size ≤ 4000 by decide⟩
    | x :: y :: z :: r, _ => exact ⟨hO, by show bWhat.size ≤ 4000; decide⟩
theorem se_steps : Runs stepC OkSt 10 SeI := ⟨fun g s a w0 w hT hB hg hI hO ha => se_step g s a w0 w hT hB hg hI hO ha, fun s a hO ha => (step_ok s a hO ha).1, fun s a hO ha => (step_ok s a hO ha).2⟩
theorem dk_steps : Runs stepC OkSt 9 DkI := ⟨fun g s a w0 w hT hB hg hI hO ha => dk_step g s a w0 w hT hB hg hI hO ha, fun s a hO ha => (step_ok s a hO ha).1, fun s a hO ha => (step_ok s a hO ha).2⟩
end Go.Proofs.YtdggcfpimjdckaaGreatDoor.PFnExactRunSession
