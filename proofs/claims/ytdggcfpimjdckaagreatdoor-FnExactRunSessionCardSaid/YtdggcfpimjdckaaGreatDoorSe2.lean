/- A word's number; no condition of its own. -/
import Derived.Test.YtdggcfpimjdckaaGreatDoorSe0
import Derived.IntWalk
import Derived.Lib.AtoiAllCases
namespace Go.Proofs.YtdggcfpimjdckaaGreatDoor.PFnExactRunSession
open Go.RowKit Go.Proofs.YtdggcfpimjdckaaGreatDoorW.PrintWords Go.Proofs.YtdggcfpimjdckaaGreatDoorW.PrintLast Go.Proofs.YtdggcfpimjdckaaGreatDoorW.PrintMore
attribute [local go_sem] max2_int min2_int max_two min_two max_three min_three max_four min_four   -- for this text's walks alone
set_option linter.unusedVariables false
set_option linter.unusedSimpArgs false
/-- The number that a word is, -1 if it is none. -/
def numC (a : ByteArray) : Int := match atoiN a with
  | none => -1
  | some n => if n < 0 ∨ 10 < a.size then -1 else if Lib.itoa n = a.toList then n else -1
set_option maxRecDepth 100000 in
set_option maxHeartbeats 4000000 in
theorem se_num (a : ByteArray) (hs : a.size ≤ 1048576) : Ret 24 #[.string a] (.int .i64 (numC a)) := by
  intro w hT
  have HT := Aside0.mk hT
  have HS := Aside0.mk hs
  clear hT
  have hs2 : a.size ≤ 281474976710656 := by omega
  cases hn : atoiN a with
  | none =>
    have e : numC a = -1 := by unfold numC; rw [hn]
    rw [e]
    have HN := Aside0.mk hn
    clear hn e
    go_enter Tryz.func24, Tryz.ntmps24
    go_wp2_with (first | (go_at_call 44; (with_reducible refine (atoi_no a _ HT.out hs2 HN.out).mono ?_); rintro _ w1 ⟨x, m, rfl, hb⟩; have HB := Aside0.mk hb; clear hb))
    go_ret
    exact ⟨rfl, HB.out⟩
  | some n =>
    have HN := Aside0.mk hn
    obtain ⟨r, e⟩ : ∃ r, numC a = r := ⟨_, rfl⟩
    rw [e]
    have HE : Aside0 (r = if n < 0 ∨ 10 < a.size then -1 else if Lib.itoa n = a.toList then n else -1) := ⟨by rw [← e]; unfold numC; rw [hn]⟩
    clear hn e
    by_cases h1 : n < 0
    · obtain rfl : r = -1 := by rw [HE.out, if_pos (Or.inl h1)]
      have b1 := decide_eq_true h1
      clear h1
      go_enter Tryz.func24, Tryz.ntmps24
      go_wp2_with (first | (go_at_call 44; (with_reducible refine (atoi_ok a n _ hs2 HN.out).mono ?_); rintro _ w1 ⟨rfl, hb⟩; have HB := Aside0.mk hb; clear hb))
      go_ret
      exact ⟨rfl, HB.out⟩
    have b1 := decide_eq_false h1
    by_cases h2 : (10 : Int) < (a.size : Int)
    · obtain rfl : r = -1 := by rw [HE.out, if_pos (Or.inr (by omega))]
      have b2 := decide_eq_true h2
      clear h1 h2
      go_enter Tryz.func24, Tryz.ntmps24
      go_wp2_with (first | (go_at_call 44; (with_reducible refine (atoi_ok a n _ hs2 HN.out).mono ?_); rintro _ w1 ⟨rfl, hb⟩; have HB := Aside0.mk hb; clear hb))
      go_ret
      exact ⟨rfl, HB.out⟩
    have b2 := decide_eq_false h2
    have hr : -9223372036854775808 ≤ n ∧ n ≤ 9223372036854775807 := by
      have h := HN.out
      unfold atoiN at h
      split at h
      · cases h; exact Lib.atoiAll_bounds (by assumption)
      · cases h
    have HI := Aside0.mk (fun w hw => strconv_Itoa.calls n ⟨(Lib.itoa n).toArray⟩ w hw (by unfold strconv_Itoa.f; rw [if_pos hr]))
    have HE2 : Aside0 (r = if Lib.itoa n = a.toList then n else -1) := ⟨by rw [HE.out, if_neg (by omega)]⟩
    clear h1 h2 hr HE
    by_cases h3 : Lib.itoa n = a.toList
    · obtain rfl : r = n := by rw [HE2.out, if_pos h3]
      have b3 : (Lib.itoa r == a.toList) = true := beq_iff_eq.2 h3
      clear h3
      go_enter Tryz.func24, Tryz.ntmps24
      go_wp2_with (first | (go_at_call 44; (with_reducible refine (atoi_ok a r _ hs2 HN.out).mono ?_); rintro _ w1 ⟨rfl, hb⟩; have HB := Aside0.mk hb; clear hb) | (go_at_call 26; (with_reducible refine (HI.out _ (Tc.keep HT.out HB.out)).mono ?_); rintro _ w2 ⟨rfl, hb⟩; have HB2 := Aside0.mk (below_step HB.out hb); clear hb))
      go_ret
      exact ⟨rfl, HB2.out⟩
    · obtain rfl : r = -1 := by rw [HE2.out, if_neg h3]
      have b3 : (Lib.itoa n == a.toList) = false := beq_eq_false_iff_ne.2 h3
      clear h3
      go_enter Tryz.func24, Tryz.ntmps24
      go_wp2_with (first | (go_at_call 44; (with_reducible refine (atoi_ok a n _ hs2 HN.out).mono ?_); rintro _ w1 ⟨rfl, hb⟩; have HB := Aside0.mk hb; clear hb) | (go_at_call 26; (with_reducible refine (HI.out _ (Tc.keep HT.out HB.out)).mono ?_); rintro _ w2 ⟨rfl, hb⟩; have HB2 := Aside0.mk (below_step HB.out hb); clear hb))
      go_ret
      exact ⟨rfl, HB2.out⟩
end Go.Proofs.YtdggcfpimjdckaaGreatDoor.PFnExactRunSession
