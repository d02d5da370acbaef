-- Out of a print of the walks, turned by a program of this session; Lean checks it.
import Derived.Test.YtdggcfpimjdckaaGreatDoorPFnExactRunSessionx0
import Derived.Test.YtdggcfpimjdckaaGreatDoorPFnExactRunSessionx1
import Derived.Test.YtdggcfpimjdckaaGreatDoorPFnExactRunSessionx2
import Derived.Test.YtdggcfpimjdckaaGreatDoorPFnExactRunSessionx3
namespace Go.Proofs.YtdggcfpimjdckaaGreatDoor.PFnExactRunSession
open Go.RowKit Go.Proofs.YtdggcfpimjdckaaGreatDoorW.PrintWords Go.Proofs.YtdggcfpimjdckaaGreatDoorW.PrintLast Go.Proofs.YtdggcfpimjdckaaGreatDoorW.PrintMore
attribute [local go_sem] max2_int min2_int max_two min_two max_three min_three max_four min_four   -- for this text's walks alone
set_option linter.unusedVariables false
set_option linter.unusedSimpArgs false

private theorem z1_ {p : Prop} (h : p := by refine blk_put (cs := #[.int .i64 0, .int .i64 0, .int .i64 0, .int .i64 0, .int .i64 0]) ?_ 4 _ rfl; refine blk_put (cs := #[.int .i64 0, .int .i64 0, .int .i64 0, .int .i64 0, .int .i64 0]) ?_ 3 _ rfl; refine blk_put (cs := #[.int .i64 0, .int .i64 0, .int .i64 0, .int .i64 0, .int .i64 0]) ?_ 2 _ rfl; refine blk_put (cs := #[.int .i64 0, .int .i64 0, .int .i64 0, .int .i64 0, .int .i64 0]) ?_ 1 _ rfl; refine blk_put (cs := #[.int .i64 0, .int .i64 0, .int .i64 0, .int .i64 0, .int .i64 0]) ?_ 0 _ rfl; exact (hI.out).r) : p := h
private theorem z2_ {p : Prop} (h : p := by refine blk_put (cs := #[.int .i64 0, .int .i64 0, .int .i64 0, .int .i64 0, .int .i64 0]) ?_ 4 _ rfl; refine blk_put (cs := #[.int .i64 0, .int .i64 0, .int .i64 0, .int .i64 0, .int .i64 0]) ?_ 3 _ rfl; refine blk_put (cs := #[.int .i64 0, .int .i64 0, .int .i64 0, .int .i64 0, .int .i64 0]) ?_ 2 _ rfl; refine blk_put (cs := #[.int .i64 0, .int .i64 0, .int .i64 0, .int .i64 0, .int .i64 0]) ?_ 1 _ rfl; refine blk_put (cs := #[.int .i64 0, .int .i64 0, .int .i64 0, .int .i64 0, .int .i64 0]) ?_ 0 _ rfl; exact (nP.out).r) : p := h
private theorem z3_ {p : Prop} (h : p := by rw [← hq_]; exact (by repeat (first | (with_reducible first | exact HB.out | apply below_alloc | apply pw_below_drewN | apply below_drew1 | refine below_set ?_ GE166.out) | exact HB.out))) : p := h
private theorem z4_ {p : Prop} (h : p := by rw [hg]; exact (below_size (by repeat (first | (with_reducible first | exact HB.out | apply below_alloc | apply pw_below_drewN | apply below_drew1) | exact HB.out)))) : p := h
private theorem z5_ {p : Prop} (h : p := by (try simp only [List.map_toArray, List.map_cons, List.map_nil]); first | done | (simp only [hji2]; rfl) | rfl | (simp only [List.length_drop, List.length_take]; rfl)) : p := h
private theorem z6_ {p : Prop} (h : p := by repeat (first | (with_reducible first | exact HB.out | apply below_alloc | apply pw_below_drewN | apply below_drew1 | refine below_set ?_ GE158.out) | exact HB.out)) : p := h
private theorem z7_ {p : Prop} (h : p := by repeat (first | (with_reducible first | exact HB.out | apply below_alloc | apply pw_below_drewN | apply below_drew1 | refine below_set ?_ GE166.out) | exact HB.out)) : p := h
private theorem z8_ {p : Prop} (h : p := by rw [← hq_]; exact (by (with_reducible repeat (first | refine blk_drewN ?_ _ | refine blk_drew ?_ | refine blk_alloc ?_ _)); exact BK166.out)) : p := h
private theorem z9_ {p : Prop} (h : p := by (try simp only [List.map_toArray, List.map_cons, List.map_nil]); first | done | rfl | (simp only [List.length_drop, List.length_take]; rfl)) : p := h
private theorem z10_ {p : Prop} (h : p := by repeat (first | (with_reducible first | exact HB.out | apply below_alloc | apply pw_below_drewN | apply below_drew1) | exact HB.out)) : p := h
private theorem z11_ {p : Prop} (h : p := by (with_reducible repeat (first | refine blk_drewN ?_ _ | refine blk_drew ?_ | refine blk_alloc ?_ _)); exact BK158.out) : p := h
private theorem z12_ {p : Prop} (h : p := by (with_reducible repeat (first | refine blk_drewN ?_ _ | refine blk_drew ?_ | refine blk_alloc ?_ _)); exact BK166.out) : p := h
private theorem z13_ {p : Prop} (h : p := by repeat (first | (with_reducible first | exact (hI.out).b | refine below_set ?_ (Nat.le_refl _)) | exact (hI.out).b)) : p := h
private theorem z14_ {p : Prop} (h : p := by repeat (first | (with_reducible first | exact (nP.out).b | refine below_set ?_ (Nat.le_refl _)) | exact (nP.out).b)) : p := h
private theorem z15_ {p : Prop} (h : p := by first | rfl | (simp [errW_none, errW_some] <;> rfl) | (simp [*, errW_none, errW_some] <;> rfl)) : p := h
/-! ### spec_formatFix: function 82 -/
def spec_formatFix.f (k : Nat) (a0_0 : Int) (a0_1 : Int) (a0_2 : Int) (a0_3 : Int) (a0_4 : Int) : Option (ByteArray) := (spec_digits.f k (wrap64 (Int.tdiv (mn a0_3 86399) 3600)) 2).bind fun t159 => ((spec_digits.f k (Int.tmod (wrap64 (Int.tdiv (mn a0_3 86399) 60)) 60) 2).bind fun t160 => (if t159.size + t160.size ≤ 9223372036854775807 then ((spec_digits.f k (wrap64 ((wrap64 ((Int.tmod (mn a0_3 86399) 60) + a0_3)) - (mn a0_3 86399))) 2).bind fun t161 => (if (t159 ++ t160).size + t161.size ≤ 9223372036854775807 then (if 4 + ((t159 ++ t160) ++ t161).size ≤ 9223372036854775807 then (if ((⟨#[70, 73, 88, 44]⟩ : ByteArray) ++ ((t159 ++ t160) ++ t161)).size + 1 ≤ 9223372036854775807 then ((spec_digits.f k a0_2 2).bind fun t162 => (if (((⟨#[70, 73, 88, 44]⟩ : ByteArray) ++ ((t159 ++ t160) ++ t161)) ++ (⟨#[44]⟩ : ByteArray)).size + t162.size ≤ 9223372036854775807 then (if ((((⟨#[70, 73, 88, 44]⟩ : ByteArray) ++ ((t159 ++ t160) ++ t161)) ++ (⟨#[44]⟩ : ByteArray)) ++ t162).size + 1 ≤ 9223372036854775807 then ((spec_digits.f k a0_1 2).bind fun t163 => (if (((((⟨#[70, 73, 88, 44]⟩ : ByteArray) ++ ((t159 ++ t160) ++ t161)) ++ (⟨#[44]⟩ : ByteArray)) ++ t162) ++ (⟨#[44]⟩ : ByteArray)).size + t163.size ≤ 9223372036854775807 then (if ((((((⟨#[70, 73, 88, 44]⟩ : ByteArray) ++ ((t159 ++ t160) ++ t161)) ++ (⟨#[44]⟩ : ByteArray)) ++ t162) ++ (⟨#[44]⟩ : ByteArray)) ++ t163).size + 1 ≤ 9223372036854775807 then ((spec_digits.f k a0_0 4).bind fun t164 => (if (((((((⟨#[70, 73, 88, 44]⟩ : ByteArray) ++ ((t159 ++ t160) ++ t161)) ++ (⟨#[44]⟩ : ByteArray)) ++ t162) ++ (⟨#[44]⟩ : ByteArray)) ++ t163) ++ (⟨#[44]⟩ : ByteArray)).size + t164.size ≤ 9223372036854775807 then (if ((((((((⟨#[70, 73, 88, 44]⟩ : ByteArray) ++ ((t159 ++ t160) ++ t161)) ++ (⟨#[44]⟩ : ByteArray)) ++ t162) ++ (⟨#[44]⟩ : ByteArray)) ++ t163) ++ (⟨#[44]⟩ : ByteArray)) ++ t164).size + 1 ≤ 9223372036854775807 then ((spec_decimal.f k a0_4).bind fun t165 => (if (((((((((⟨#[70, 73, 88, 44]⟩ : ByteArray) ++ ((t159 ++ t160) ++ t161)) ++ (⟨#[44]⟩ : ByteArray)) ++ t162) ++ (⟨#[44]⟩ : ByteArray)) ++ t163) ++ (⟨#[44]⟩ : ByteArray)) ++ t164) ++ (⟨#[44]⟩ : ByteArray)).size + t165.size ≤ 9223372036854775807 then (some ((((((((((⟨#[70, 73, 88, 44]⟩ : ByteArray) ++ ((t159 ++ t160) ++ t161)) ++ (⟨#[44]⟩ : ByteArray)) ++ t162) ++ (⟨#[44]⟩ : ByteArray)) ++ t163) ++ (⟨#[44]⟩ : ByteArray)) ++ t164) ++ (⟨#[44]⟩ : ByteArray)) ++ t165)) else (none))) else (none)) else (none))) else (none)) else (none))) else (none)) else (none))) else (none)) else (none)) else (none))) else (none)))
theorem spec_formatFix.mono : ∀ a0 a1 a2 a3 a4 k, LeO (spec_formatFix.f k a0 a1 a2 a3 a4) (spec_formatFix.f (k + 1) a0 a1 a2 a3 a4) := by
  intro a0 a1 a2 a3 a4 k
  unfold spec_formatFix.f
  repeat' first
      | (with_reducible exact spec_decimal.mono _ _)
      | (with_reducible exact spec_digits.mono _ _ _)
      | (with_reducible exact LeO.refl _)
      | (with_reducible exact LeO.none _)
      | (with_reducible refine LeO.ite ?_ ?_)
      | (with_reducible refine LeO.bind ?_ (fun _ => ?_))
      | exact spec_decimal.mono _ _
      | exact spec_digits.mono _ _ _
      | exact LeO.none _
      | refine LeO.ite ?_ ?_
      | refine LeO.bind ?_ (fun _ => ?_)
def spec_formatFix.T4 : Bool × List (List Nat × List Nat) := (true, [([], []), ([0], [0]), ([1], [1]), ([], []), ([3], [3]), ([4], [4]), ([5], [5]), ([2, 6], [2, 6]), ([7], [7]), ([], []), ([9], [9]), ([10], [10]), ([11, 6], [11]), ([8, 12], [8, 12]), ([13], [13]), ([], []), ([15], [15]), ([16], [16]), ([17, 12], [17]), ([14, 18], [14, 18]), ([19], [19]), ([], []), ([21], [21]), ([22, 18], [22]), ([20, 23], [20, 23]), ([24, 23, 0, 1, 2, 3, 4, 5, 6, 7, 8, 9, 10, 11, 12, 13, 14, 15, 16, 17, 18, 19, 20, 21, 22, 23, 24], [24])])
def spec_formatFix.B4 : List Nat := [0, 1, 3, 0, 8, 24, 56, 127, 255, 0, 512, 1536, 3704, 8191, 16383, 0, 32768, 98304, 237176, 524287, 1048575, 0, 2097152, 6790776, 16777215, 33554431]
theorem spec_formatFix.tab4 : rtab .any (opsOf Tryz.f82 4) = spec_formatFix.T4 := by kernel_rfl
theorem spec_formatFix.bits4 : waitsOk spec_formatFix.T4.2 spec_formatFix.B4 = true := by kernel_rfl
set_option maxHeartbeats 8000000 in
set_option maxRecDepth 100000 in
theorem spec_formatFix.calls (k : Nat) (a0_0 : Int) (a0_1 : Int) (a0_2 : Int) (a0_3 : Int) (a0_4 : Int) (r : ByteArray) (w : World) (h : spec_formatFix.f k a0_0 a0_1 a0_2 a0_3 a0_4 = some r) :
    Calls Tryz.prog 82 #[.agg #[.int .i64 a0_0, .int .i64 a0_1, .int .i64 a0_2, .int .i64 a0_3, .int .i64 a0_4]] w fun e w' => e = .returned (.string r) ∧ Below w.heap.size w w' := by
  have hu44 := Tryz.underlying44
  have HB := Aside0.mk (Below.refl w.heap.size w)
  have H : ((spec_digits.f k (wrap64 (Int.tdiv (mn a0_3 86399) 3600)) 2).bind fun t159 => ((spec_digits.f k (Int.tmod (wrap64 (Int.tdiv (mn a0_3 86399) 60)) 60) 2).bind fun t160 => (if t159.size + t160.size ≤ 9223372036854775807 then ((spec_digits.f k (wrap64 ((wrap64 ((Int.tmod (mn a0_3 86399) 60) + a0_3)) - (mn a0_3 86399))) 2).bind fun t161 => (if (t159 ++ t160).size + t161.size ≤ 9223372036854775807 then (if 4 + ((t159 ++ t160) ++ t161).size ≤ 9223372036854775807 then (if ((⟨#[70, 73, 88, 44]⟩ : ByteArray) ++ ((t159 ++ t160) ++ t161)).size + 1 ≤ 9223372036854775807 then ((spec_digits.f k a0_2 2).bind fun t162 => (if (((⟨#[70, 73, 88, 44]⟩ : ByteArray) ++ ((t159 ++ t160) ++ t161)) ++ (⟨#[44]⟩ : ByteArray)).size + t162.size ≤ 9223372036854775807 then (if ((((⟨#[70, 73, 88, 44]⟩ : ByteArray) ++ ((t159 ++ t160) ++ t161)) ++ (⟨#[44]⟩ : ByteArray)) ++ t162).size + 1 ≤ 9223372036854775807 then ((spec_digits.f k a0_1 2).bind fun t163 => (if (((((⟨#[70, 73, 88, 44]⟩ : ByteArray) ++ ((t159 ++ t160) ++ t161)) ++ (⟨#[44]⟩ : ByteArray)) ++ t162) ++ (⟨#[44]⟩ : ByteArray)).size + t163.size ≤ 9223372036854775807 then (if ((((((⟨#[70, 73, 88, 44]⟩ : ByteArray) ++ ((t159 ++ t160) ++ t161)) ++ (⟨#[44]⟩ : ByteArray)) ++ t162) ++ (⟨#[44]⟩ : ByteArray)) ++ t163).size + 1 ≤ 9223372036854775807 then ((spec_digits.f k a0_0 4).bind fun t164 => (if (((((((⟨#[70, 73, 88, 44]⟩ : ByteArray) ++ ((t159 ++ t160) ++ t161)) ++ (⟨#[44]⟩ : ByteArray)) ++ t162) ++ (⟨#[44]⟩ : ByteArray)) ++ t163) ++ (⟨#[44]⟩ : ByteArray)).size + t164.size ≤ 9223372036854775807 then (if ((((((((⟨#[70, 73, 88, 44]⟩ : ByteArray) ++ ((t159 ++ t160) ++ t161)) ++ (⟨#[44]⟩ : ByteArray)) ++ t162) ++ (⟨#[44]⟩ : ByteArray)) ++ t163) ++ (⟨#[44]⟩ : ByteArray)) ++ t164).size + 1 ≤ 9223372036854775807 then ((spec_decimal.f k a0_4).bind fun t165 => (if (((((((((⟨#[70, 73, 88, 44]⟩ : ByteArray) ++ ((t159 ++ t160) ++ t161)) ++ (⟨#[44]⟩ : ByteArray)) ++ t162) ++ (⟨#[44]⟩ : ByteArray)) ++ t163) ++ (⟨#[44]⟩ : ByteArray)) ++ t164) ++ (⟨#[44]⟩ : ByteArray)).size + t165.size ≤ 9223372036854775807 then (some ((((((((((⟨#[70, 73, 88, 44]⟩ : ByteArray) ++ ((t159 ++ t160) ++ t161)) ++ (⟨#[44]⟩ : ByteArray)) ++ t162) ++ (⟨#[44]⟩ : ByteArray)) ++ t163) ++ (⟨#[44]⟩ : ByteArray)) ++ t164) ++ (⟨#[44]⟩ : ByteArray)) ++ t165)) else (none))) else (none)) else (none))) else (none)) else (none))) else (none)) else (none))) else (none)) else (none)) else (none))) else (none)))) = some r := h
  clear h
  obtain ⟨ji2, hji2⟩ : ∃ j_ : Int, (mn a0_3 86399) = j_ := ⟨_, rfl⟩
  replace H : ((spec_digits.f k (wrap64 (Int.tdiv (ji2) 3600)) 2).bind fun t159 => ((spec_digits.f k (Int.tmod (wrap64 (Int.tdiv (ji2) 60)) 60) 2).bind fun t160 => (if t159.size + t160.size ≤ 9223372036854775807 then ((spec_digits.f k (wrap64 ((wrap64 ((Int.tmod (ji2) 60) + a0_3)) - (ji2))) 2).bind fun t161 => (if (t159 ++ t160).size + t161.size ≤ 9223372036854775807 then (if 4 + ((t159 ++ t160) ++ t161).size ≤ 9223372036854775807 then (if ((⟨#[70, 73, 88, 44]⟩ : ByteArray) ++ ((t159 ++ t160) ++ t161)).size + 1 ≤ 9223372036854775807 then ((spec_digits.f k a0_2 2).bind fun t162 => (if (((⟨#[70, 73, 88, 44]⟩ : ByteArray) ++ ((t159 ++ t160) ++ t161)) ++ (⟨#[44]⟩ : ByteArray)).size + t162.size ≤ 9223372036854775807 then (if ((((⟨#[70, 73, 88, 44]⟩ : ByteArray) ++ ((t159 ++ t160) ++ t161)) ++ (⟨#[44]⟩ : ByteArray)) ++ t162).size + 1 ≤ 9223372036854775807 then ((spec_digits.f k a0_1 2).bind fun t163 => (if (((((⟨#[70, 73, 88, 44]⟩ : ByteArray) ++ ((t159 ++ t160) ++ t161)) ++ (⟨#[44]⟩ : ByteArray)) ++ t162) ++ (⟨#[44]⟩ : ByteArray)).size + t163.size ≤ 9223372036854775807 then (if ((((((⟨#[70, 73, 88, 44]⟩ : ByteArray) ++ ((t159 ++ t160) ++ t161)) ++ (⟨#[44]⟩ : ByteArray)) ++ t162) ++ (⟨#[44]⟩ : ByteArray)) ++ t163).size + 1 ≤ 9223372036854775807 then ((spec_digits.f k a0_0 4).bind fun t164 => (if (((((((⟨#[70, 73, 88, 44]⟩ : ByteArray) ++ ((t159 ++ t160) ++ t161)) ++ (⟨#[44]⟩ : ByteArray)) ++ t162) ++ (⟨#[44]⟩ : ByteArray)) ++ t163) ++ (⟨#[44]⟩ : ByteArray)).size + t164.size ≤ 9223372036854775807 then (if ((((((((⟨#[70, 73, 88, 44]⟩ : ByteArray) ++ ((t159 ++ t160) ++ t161)) ++ (⟨#[44]⟩ : ByteArray)) ++ t162) ++ (⟨#[44]⟩ : ByteArray)) ++ t163) ++ (⟨#[44]⟩ : ByteArray)) ++ t164).size + 1 ≤ 9223372036854775807 then ((spec_decimal.f k a0_4).bind fun t165 => (if (((((((((⟨#[70, 73, 88, 44]⟩ : ByteArray) ++ ((t159 ++ t160) ++ t161)) ++ (⟨#[44]⟩ : ByteArray)) ++ t162) ++ (⟨#[44]⟩ : ByteArray)) ++ t163) ++ (⟨#[44]⟩ : ByteArray)) ++ t164) ++ (⟨#[44]⟩ : ByteArray)).size + t165.size ≤ 9223372036854775807 then (some ((((((((((⟨#[70, 73, 88, 44]⟩ : ByteArray) ++ ((t159 ++ t160) ++ t161)) ++ (⟨#[44]⟩ : ByteArray)) ++ t162) ++ (⟨#[44]⟩ : ByteArray)) ++ t163) ++ (⟨#[44]⟩ : ByteArray)) ++ t164) ++ (⟨#[44]⟩ : ByteArray)) ++ t165)) else (none))) else (none)) else (none))) else (none)) else (none))) else (none)) else (none))) else (none)) else (none)) else (none))) else (none)))) = some r := by first | (rw [hji2] at H; exact H) | (simp only [hji2] at H ⊢; exact H)
  (try (have hji2h : ji2 ≤ 86399 := by (rw [← hji2]; unfold mn; (repeat' split) <;> omega)))
  (try (have hji2g : ji2 ≤ 64 := by omega))
  have hji2_ : (if 86399 < a0_3 then 86399 else a0_3) = ji2 := hji2
  replace H := Option.bind_eq_some_iff.mp H
  obtain ⟨t159, A30, H⟩ := H
  replace H : ((spec_digits.f k (Int.tmod (wrap64 (Int.tdiv (ji2) 60)) 60) 2).bind fun t160 => (if t159.size + t160.size ≤ 9223372036854775807 then ((spec_digits.f k (wrap64 ((wrap64 ((Int.tmod (ji2) 60) + a0_3)) - (ji2))) 2).bind fun t161 => (if (t159 ++ t160).size + t161.size ≤ 9223372036854775807 then (if 4 + ((t159 ++ t160) ++ t161).size ≤ 9223372036854775807 then (if ((⟨#[70, 73, 88, 44]⟩ : ByteArray) ++ ((t159 ++ t160) ++ t161)).size + 1 ≤ 9223372036854775807 then ((spec_digits.f k a0_2 2).bind fun t162 => (if (((⟨#[70, 73, 88, 44]⟩ : ByteArray) ++ ((t159 ++ t160) ++ t161)) ++ (⟨#[44]⟩ : ByteArray)).size + t162.size ≤ 9223372036854775807 then (if ((((⟨#[70, 73, 88, 44]⟩ : ByteArray) ++ ((t159 ++ t160) ++ t161)) ++ (⟨#[44]⟩ : ByteArray)) ++ t162).size + 1 ≤ 9223372036854775807 then ((spec_digits.f k a0_1 2).bind fun t163 => (if (((((⟨#[70, 73, 88, 44]⟩ : ByteArray) ++ ((t159 ++ t160) ++ t161)) ++ (⟨#[44]⟩ : ByteArray)) ++ t162) ++ (⟨#[44]⟩ : ByteArray)).size + t163.size ≤ 9223372036854775807 then (if ((((((⟨#[70, 73, 88, 44]⟩ : ByteArray) ++ ((t159 ++ t160) ++ t161)) ++ (⟨#[44]⟩ : ByteArray)) ++ t162) ++ (⟨#[44]⟩ : ByteArray)) ++ t163).size + 1 ≤ 9223372036854775807 then ((spec_digits.f k a0_0 4).bind fun t164 => (if (((((((⟨#[70, 73, 88, 44]⟩ : ByteArray) ++ ((t159 ++ t160) ++ t161)) ++ (⟨#[44]⟩ : ByteArray)) ++ t162) ++ (⟨#[44]⟩ : ByteArray)) ++ t163) ++ (⟨#[44]⟩ : ByteArray)).size + t164.size ≤ 9223372036854775807 then (if ((((((((⟨#[70, 73, 88, 44]⟩ : ByteArray) ++ ((t159 ++ t160) ++ t161)) ++ (⟨#[44]⟩ : ByteArray)) ++ t162) ++ (⟨#[44]⟩ : ByteArray)) ++ t163) ++ (⟨#[44]⟩ : ByteArray)) ++ t164).size + 1 ≤ 9223372036854775807 then ((spec_decimal.f k a0_4).bind fun t165 => (if (((((((((⟨#[70, 73, 88, 44]⟩ : ByteArray) ++ ((t159 ++ t160) ++ t161)) ++ (⟨#[44]⟩ : ByteArray)) ++ t162) ++ (⟨#[44]⟩ : ByteArray)) ++ t163) ++ (⟨#[44]⟩ : ByteArray)) ++ t164) ++ (⟨#[44]⟩ : ByteArray)).size + t165.size ≤ 9223372036854775807 then (some ((((((((((⟨#[70, 73, 88, 44]⟩ : ByteArray) ++ ((t159 ++ t160) ++ t161)) ++ (⟨#[44]⟩ : ByteArray)) ++ t162) ++ (⟨#[44]⟩ : ByteArray)) ++ t163) ++ (⟨#[44]⟩ : ByteArray)) ++ t164) ++ (⟨#[44]⟩ : ByteArray)) ++ t165)) else (none))) else (none)) else (none))) else (none)) else (none))) else (none)) else (none))) else (none)) else (none)) else (none))) else (none))) = some r := H
  have A3 := Aside0.mk A30
  clear A30
  replace H := Option.bind_eq_some_iff.mp H
  obtain ⟨t160, A40, H⟩ := H
  replace H : (if t159.size + t160.size ≤ 9223372036854775807 then ((spec_digits.f k (wrap64 ((wrap64 ((Int.tmod (ji2) 60) + a0_3)) - (ji2))) 2).bind fun t161 => (if (t159 ++ t160).size + t161.size ≤ 9223372036854775807 then (if 4 + ((t159 ++ t160) ++ t161).size ≤ 9223372036854775807 then (if ((⟨#[70, 73, 88, 44]⟩ : ByteArray) ++ ((t159 ++ t160) ++ t161)).size + 1 ≤ 9223372036854775807 then ((spec_digits.f k a0_2 2).bind fun t162 => (if (((⟨#[70, 73, 88, 44]⟩ : ByteArray) ++ ((t159 ++ t160) ++ t161)) ++ (⟨#[44]⟩ : ByteArray)).size + t162.size ≤ 9223372036854775807 then (if ((((⟨#[70, 73, 88, 44]⟩ : ByteArray) ++ ((t159 ++ t160) ++ t161)) ++ (⟨#[44]⟩ : ByteArray)) ++ t162).size + 1 ≤ 9223372036854775807 then ((spec_digits.f k a0_1 2).bind fun t163 => (if (((((⟨#[70, 73, 88, 44]⟩ : ByteArray) ++ ((t159 ++ t160) ++ t161)) ++ (⟨#[44]⟩ : ByteArray)) ++ t162) ++ (⟨#[44]⟩ : ByteArray)).size + t163.size ≤ 9223372036854775807 then (if ((((((⟨#[70, 73, 88, 44]⟩ : ByteArray) ++ ((t159 ++ t160) ++ t161)) ++ (⟨#[44]⟩ : ByteArray)) ++ t162) ++ (⟨#[44]⟩ : ByteArray)) ++ t163).size + 1 ≤ 9223372036854775807 then ((spec_digits.f k a0_0 4).bind fun t164 => (if (((((((⟨#[70, 73, 88, 44]⟩ : ByteArray) ++ ((t159 ++ t160) ++ t161)) ++ (⟨#[44]⟩ : ByteArray)) ++ t162) ++ (⟨#[44]⟩ : ByteArray)) ++ t163) ++ (⟨#[44]⟩ : ByteArray)).size + t164.size ≤ 9223372036854775807 then (if ((((((((⟨#[70, 73, 88, 44]⟩ : ByteArray) ++ ((t159 ++ t160) ++ t161)) ++ (⟨#[44]⟩ : ByteArray)) ++ t162) ++ (⟨#[44]⟩ : ByteArray)) ++ t163) ++ (⟨#[44]⟩ : ByteArray)) ++ t164).size + 1 ≤ 9223372036854775807 then ((spec_decimal.f k a0_4).bind fun t165 => (if (((((((((⟨#[70, 73, 88, 44]⟩ : ByteArray) ++ ((t159 ++ t160) ++ t161)) ++ (⟨#[44]⟩ : ByteArray)) ++ t162) ++ (⟨#[44]⟩ : ByteArray)) ++ t163) ++ (⟨#[44]⟩ : ByteArray)) ++ t164) ++ (⟨#[44]⟩ : ByteArray)).size + t165.size ≤ 9223372036854775807 then (some ((((((((((⟨#[70, 73, 88, 44]⟩ : ByteArray) ++ ((t159 ++ t160) ++ t161)) ++ (⟨#[44]⟩ : ByteArray)) ++ t162) ++ (⟨#[44]⟩ : ByteArray)) ++ t163) ++ (⟨#[44]⟩ : ByteArray)) ++ t164) ++ (⟨#[44]⟩ : ByteArray)) ++ t165)) else (none))) else (none)) else (none))) else (none)) else (none))) else (none)) else (none))) else (none)) else (none)) else (none))) else (none)) = some r := H
  have A4 := Aside0.mk A40
  clear A40
  by_cases c5 : t159.size + t160.size ≤ 9223372036854775807
  · rw [if_pos c5] at H
    have c5b0 := eq_true c5
    have c5b1 : decide (t159.size + t160.size ≤ 9223372036854775807) = true := decide_eq_true c5
    try have c5b2 : (9223372036854775807 < t159.size + t160.size) = False := eq_false (Nat.not_lt.2 c5)
    replace H := Option.bind_eq_some_iff.mp H
    obtain ⟨t161, A60, H⟩ := H
    replace H : (if (t159 ++ t160).size + t161.size ≤ 9223372036854775807 then (if 4 + ((t159 ++ t160) ++ t161).size ≤ 9223372036854775807 then (if ((⟨#[70, 73, 88, 44]⟩ : ByteArray) ++ ((t159 ++ t160) ++ t161)).size + 1 ≤ 9223372036854775807 then ((spec_digits.f k a0_2 2).bind fun t162 => (if (((⟨#[70, 73, 88, 44]⟩ : ByteArray) ++ ((t159 ++ t160) ++ t161)) ++ (⟨#[44]⟩ : ByteArray)).size + t162.size ≤ 9223372036854775807 then (if ((((⟨#[70, 73, 88, 44]⟩ : ByteArray) ++ ((t159 ++ t160) ++ t161)) ++ (⟨#[44]⟩ : ByteArray)) ++ t162).size + 1 ≤ 9223372036854775807 then ((spec_digits.f k a0_1 2).bind fun t163 => (if (((((⟨#[70, 73, 88, 44]⟩ : ByteArray) ++ ((t159 ++ t160) ++ t161)) ++ (⟨#[44]⟩ : ByteArray)) ++ t162) ++ (⟨#[44]⟩ : ByteArray)).size + t163.size ≤ 9223372036854775807 then (if ((((((⟨#[70, 73, 88, 44]⟩ : ByteArray) ++ ((t159 ++ t160) ++ t161)) ++ (⟨#[44]⟩ : ByteArray)) ++ t162) ++ (⟨#[44]⟩ : ByteArray)) ++ t163).size + 1 ≤ 9223372036854775807 then ((spec_digits.f k a0_0 4).bind fun t164 => (if (((((((⟨#[70, 73, 88, 44]⟩ : ByteArray) ++ ((t159 ++ t160) ++ t161)) ++ (⟨#[44]⟩ : ByteArray)) ++ t162) ++ (⟨#[44]⟩ : ByteArray)) ++ t163) ++ (⟨#[44]⟩ : ByteArray)).size + t164.size ≤ 9223372036854775807 then (if ((((((((⟨#[70, 73, 88, 44]⟩ : ByteArray) ++ ((t159 ++ t160) ++ t161)) ++ (⟨#[44]⟩ : ByteArray)) ++ t162) ++ (⟨#[44]⟩ : ByteArray)) ++ t163) ++ (⟨#[44]⟩ : ByteArray)) ++ t164).size + 1 ≤ 9223372036854775807 then ((spec_decimal.f k a0_4).bind fun t165 => (if (((((((((⟨#[70, 73, 88, 44]⟩ : ByteArray) ++ ((t159 ++ t160) ++ t161)) ++ (⟨#[44]⟩ : ByteArray)) ++ t162) ++ (⟨#[44]⟩ : ByteArray)) ++ t163) ++ (⟨#[44]⟩ : ByteArray)) ++ t164) ++ (⟨#[44]⟩ : ByteArray)).size + t165.size ≤ 9223372036854775807 then (some ((((((((((⟨#[70, 73, 88, 44]⟩ : ByteArray) ++ ((t159 ++ t160) ++ t161)) ++ (⟨#[44]⟩ : ByteArray)) ++ t162) ++ (⟨#[44]⟩ : ByteArray)) ++ t163) ++ (⟨#[44]⟩ : ByteArray)) ++ t164) ++ (⟨#[44]⟩ : ByteArray)) ++ t165)) else (none))) else (none)) else (none))) else (none)) else (none))) else (none)) else (none))) else (none)) else (none)) else (none)) = some r := H
    have A6 := Aside0.mk A60
    clear A60
    by_cases c7 : (t159 ++ t160).size + t161.size ≤ 9223372036854775807
    · rw [if_pos c7] at H
      have c7b0 := eq_true c7
      have c7b1 : decide ((t159 ++ t160).size + t161.size ≤ 9223372036854775807) = true := decide_eq_true c7
      try have c7b2 : (9223372036854775807 < (t159 ++ t160).size + t161.size) = False := eq_false (Nat.not_lt.2 c7)
      try have c7b3 := c7b2
      try simp only [ByteArray.size_append, bsz, List.size_toArray, List.length_cons, List.length_nil, Nat.reduceAdd, Nat.zero_add, ByteArray.size_extract] at c7b3
      by_cases c8 : 4 + ((t159 ++ t160) ++ t161).size ≤ 9223372036854775807
      · rw [if_pos c8] at H
        have c8b0 := eq_true c8
        have c8b1 : decide (4 + ((t159 ++ t160) ++ t161).size ≤ 9223372036854775807) = true := decide_eq_true c8
        try have c8b2 : (9223372036854775807 < 4 + ((t159 ++ t160) ++ t161).size) = False := eq_false (Nat.not_lt.2 c8)
        try have c8b3 := c8b2
        try simp only [ByteArray.size_append, bsz, List.size_toArray, List.length_cons, List.length_nil, Nat.reduceAdd, Nat.zero_add, ByteArray.size_extract] at c8b3
        by_cases c9 : ((⟨#[70, 73, 88, 44]⟩ : ByteArray) ++ ((t159 ++ t160) ++ t161)).size + 1 ≤ 9223372036854775807
        · rw [if_pos c9] at H
          have c9b0 := eq_true c9
          have c9b1 : decide (((⟨#[70, 73, 88, 44]⟩ : ByteArray) ++ ((t159 ++ t160) ++ t161)).size + 1 ≤ 9223372036854775807) = true := decide_eq_true c9
          try have c9b2 : (9223372036854775807 < ((⟨#[70, 73, 88, 44]⟩ : ByteArray) ++ ((t159 ++ t160) ++ t161)).size + 1) = False := eq_false (Nat.not_lt.2 c9)
          try have c9b3 := c9b2
          try simp only [ByteArray.size_append, bsz, List.size_toArray, List.length_cons, List.length_nil, Nat.reduceAdd, Nat.zero_add, ByteArray.size_extract] at c9b3
          replace H := Option.bind_eq_some_iff.mp H
          obtain ⟨t162, A100, H⟩ := H
          replace H : (if (((⟨#[70, 73, 88, 44]⟩ : ByteArray) ++ ((t159 ++ t160) ++ t161)) ++ (⟨#[44]⟩ : ByteArray)).size + t162.size ≤ 9223372036854775807 then (if ((((⟨#[70, 73, 88, 44]⟩ : ByteArray) ++ ((t159 ++ t160) ++ t161)) ++ (⟨#[44]⟩ : ByteArray)) ++ t162).size + 1 ≤ 9223372036854775807 then ((spec_digits.f k a0_1 2).bind fun t163 => (if (((((⟨#[70, 73, 88, 44]⟩ : ByteArray) ++ ((t159 ++ t160) ++ t161)) ++ (⟨#[44]⟩ : ByteArray)) ++ t162) ++ (⟨#[44]⟩ : ByteArray)).size + t163.size ≤ 9223372036854775807 then (if ((((((⟨#[70, 73, 88, 44]⟩ : ByteArray) ++ ((t159 ++ t160) ++ t161)) ++ (⟨#[44]⟩ : ByteArray)) ++ t162) ++ (⟨#[44]⟩ : ByteArray)) ++ t163).size + 1 ≤ 9223372036854775807 then ((spec_digits.f k a0_0 4).bind fun t164 => (if (((((((⟨#[70, 73, 88, 44]⟩ : ByteArray) ++ ((t159 ++ t160) ++ t161)) ++ (⟨#[44]⟩ : ByteArray)) ++ t162) ++ (⟨#[44]⟩ : ByteArray)) ++ t163) ++ (⟨#[44]⟩ : ByteArray)).size + t164.size ≤ 9223372036854775807 then (if ((((((((⟨#[70, 73, 88, 44]⟩ : ByteArray) ++ ((t159 ++ t160) ++ t161)) ++ (⟨#[44]⟩ : ByteArray)) ++ t162) ++ (⟨#[44]⟩ : ByteArray)) ++ t163) ++ (⟨#[44]⟩ : ByteArray)) ++ t164).size + 1 ≤ 9223372036854775807 then ((spec_decimal.f k a0_4).bind fun t165 => (if (((((((((⟨#[70, 73, 88, 44]⟩ : ByteArray) ++ ((t159 ++ t160) ++ t161)) ++ (⟨#[44]⟩ : ByteArray)) ++ t162) ++ (⟨#[44]⟩ : ByteArray)) ++ t163) ++ (⟨#[44]⟩ : ByteArray)) ++ t164) ++ (⟨#[44]⟩ : ByteArray)).size + t165.size ≤ 9223372036854775807 then (some ((((((((((⟨#[70, 73, 88, 44]⟩ : ByteArray) ++ ((t159 ++ t160) ++ t161)) ++ (⟨#[44]⟩ : ByteArray)) ++ t162) ++ (⟨#[44]⟩ : ByteArray)) ++ t163) ++ (⟨#[44]⟩ : ByteArray)) ++ t164) ++ (⟨#[44]⟩ : ByteArray)) ++ t165)) else (none))) else (none)) else (none))) else (none)) else (none))) else (none)) else (none)) = some r := H
          have A10 := Aside0.mk A100
          clear A100
          by_cases c11 : (((⟨#[70, 73, 88, 44]⟩ : ByteArray) ++ ((t159 ++ t160) ++ t161)) ++ (⟨#[44]⟩ : ByteArray)).size + t162.size ≤ 9223372036854775807
          · rw [if_pos c11] at H
            have c11b0 := eq_true c11
            have c11b1 : decide ((((⟨#[70, 73, 88, 44]⟩ : ByteArray) ++ ((t159 ++ t160) ++ t161)) ++ (⟨#[44]⟩ : ByteArray)).size + t162.size ≤ 9223372036854775807) = true := decide_eq_true c11
            try have c11b2 : (9223372036854775807 < (((⟨#[70, 73, 88, 44]⟩ : ByteArray) ++ ((t159 ++ t160) ++ t161)) ++ (⟨#[44]⟩ : ByteArray)).size + t162.size) = False := eq_false (Nat.not_lt.2 c11)
            try have c11b3 := c11b2
            try simp only [ByteArray.size_append, bsz, List.size_toArray, List.length_cons, List.length_nil, Nat.reduceAdd, Nat.zero_add, ByteArray.size_extract] at c11b3
            by_cases c12 : ((((⟨#[70, 73, 88, 44]⟩ : ByteArray) ++ ((t159 ++ t160) ++ t161)) ++ (⟨#[44]⟩ : ByteArray)) ++ t162).size + 1 ≤ 9223372036854775807
            · rw [if_pos c12] at H
              have c12b0 := eq_true c12
              have c12b1 : decide (((((⟨#[70, 73, 88, 44]⟩ : ByteArray) ++ ((t159 ++ t160) ++ t161)) ++ (⟨#[44]⟩ : ByteArray)) ++ t162).size + 1 ≤ 9223372036854775807) = true := decide_eq_true c12
              try have c12b2 : (9223372036854775807 < ((((⟨#[70, 73, 88, 44]⟩ : ByteArray) ++ ((t159 ++ t160) ++ t161)) ++ (⟨#[44]⟩ : ByteArray)) ++ t162).size + 1) = False := eq_false (Nat.not_lt.2 c12)
              try have c12b3 := c12b2
              try simp only [ByteArray.size_append, bsz, List.size_toArray, List.length_cons, List.length_nil, Nat.reduceAdd, Nat.zero_add, ByteArray.size_extract] at c12b3
              replace H := Option.bind_eq_some_iff.mp H
              obtain ⟨t163, A130, H⟩ := H
              replace H : (if (((((⟨#[70, 73, 88, 44]⟩ : ByteArray) ++ ((t159 ++ t160) ++ t161)) ++ (⟨#[44]⟩ : ByteArray)) ++ t162) ++ (⟨#[44]⟩ : ByteArray)).size + t163.size ≤ 9223372036854775807 then (if ((((((⟨#[70, 73, 88, 44]⟩ : ByteArray) ++ ((t159 ++ t160) ++ t161)) ++ (⟨#[44]⟩ : ByteArray)) ++ t162) ++ (⟨#[44]⟩ : ByteArray)) ++ t163).size + 1 ≤ 9223372036854775807 then ((spec_digits.f k a0_0 4).bind fun t164 => (if (((((((⟨#[70, 73, 88, 44]⟩ : ByteArray) ++ ((t159 ++ t160) ++ t161)) ++ (⟨#[44]⟩ : ByteArray)) ++ t162) ++ (⟨#[44]⟩ : ByteArray)) ++ t163) ++ (⟨#[44]⟩ : ByteArray)).size + t164.size ≤ 9223372036854775807 then (if ((((((((⟨#[70, 73, 88, 44]⟩ : ByteArray) ++ ((t159 ++ t160) ++ t161)) ++ (⟨#[44]⟩ : ByteArray)) ++ t162) ++ (⟨#[44]⟩ : ByteArray)) ++ t163) ++ (⟨#[44]⟩ : ByteArray)) ++ t164).size + 1 ≤ 9223372036854775807 then ((spec_decimal.f k a0_4).bind fun t165 => (if (((((((((⟨#[70, 73, 88, 44]⟩ : ByteArray) ++ ((t159 ++ t160) ++ t161)) ++ (⟨#[44]⟩ : ByteArray)) ++ t162) ++ (⟨#[44]⟩ : ByteArray)) ++ t163) ++ (⟨#[44]⟩ : ByteArray)) ++ t164) ++ (⟨#[44]⟩ : ByteArray)).size + t165.size ≤ 9223372036854775807 then (some ((((((((((⟨#[70, 73, 88, 44]⟩ : ByteArray) ++ ((t159 ++ t160) ++ t161)) ++ (⟨#[44]⟩ : ByteArray)) ++ t162) ++ (⟨#[44]⟩ : ByteArray)) ++ t163) ++ (⟨#[44]⟩ : ByteArray)) ++ t164) ++ (⟨#[44]⟩ : ByteArray)) ++ t165)) else (none))) else (none)) else (none))) else (none)) else (none)) = some r := H
              have A13 := Aside0.mk A130
              clear A130
              by_cases c14 : (((((⟨#[70, 73, 88, 44]⟩ : ByteArray) ++ ((t159 ++ t160) ++ t161)) ++ (⟨#[44]⟩ : ByteArray)) ++ t162) ++ (⟨#[44]⟩ : ByteArray)).size + t163.size ≤ 9223372036854775807
              · rw [if_pos c14] at H
                have c14b0 := eq_true c14
                have c14b1 : decide ((((((⟨#[70, 73, 88, 44]⟩ : ByteArray) ++ ((t159 ++ t160) ++ t161)) ++ (⟨#[44]⟩ : ByteArray)) ++ t162) ++ (⟨#[44]⟩ : ByteArray)).size + t163.size ≤ 9223372036854775807) = true := decide_eq_true c14
                try have c14b2 : (9223372036854775807 < (((((⟨#[70, 73, 88, 44]⟩ : ByteArray) ++ ((t159 ++ t160) ++ t161)) ++ (⟨#[44]⟩ : ByteArray)) ++ t162) ++ (⟨#[44]⟩ : ByteArray)).size + t163.size) = False := eq_false (Nat.not_lt.2 c14)
                try have c14b3 := c14b2
                try simp only [ByteArray.size_append, bsz, List.size_toArray, List.length_cons, List.length_nil, Nat.reduceAdd, Nat.zero_add, ByteArray.size_extract] at c14b3
                by_cases c15 : ((((((⟨#[70, 73, 88, 44]⟩ : ByteArray) ++ ((t159 ++ t160) ++ t161)) ++ (⟨#[44]⟩ : ByteArray)) ++ t162) ++ (⟨#[44]⟩ : ByteArray)) ++ t163).size + 1 ≤ 9223372036854775807
                · rw [if_pos c15] at H
                  have c15b0 := eq_true c15
                  have c15b1 : decide (((((((⟨#[70, 73, 88, 44]⟩ : ByteArray) ++ ((t159 ++ t160) ++ t161)) ++ (⟨#[44]⟩ : ByteArray)) ++ t162) ++ (⟨#[44]⟩ : ByteArray)) ++ t163).size + 1 ≤ 9223372036854775807) = true := decide_eq_true c15
                  try have c15b2 : (9223372036854775807 < ((((((⟨#[70, 73, 88, 44]⟩ : ByteArray) ++ ((t159 ++ t160) ++ t161)) ++ (⟨#[44]⟩ : ByteArray)) ++ t162) ++ (⟨#[44]⟩ : ByteArray)) ++ t163).size + 1) = False := eq_false (Nat.not_lt.2 c15)
                  try have c15b3 := c15b2
                  try simp only [ByteArray.size_append, bsz, List.size_toArray, List.length_cons, List.length_nil, Nat.reduceAdd, Nat.zero_add, ByteArray.size_extract] at c15b3
                  replace H := Option.bind_eq_some_iff.mp H
                  obtain ⟨t164, A160, H⟩ := H
                  replace H : (if (((((((⟨#[70, 73, 88, 44]⟩ : ByteArray) ++ ((t159 ++ t160) ++ t161)) ++ (⟨#[44]⟩ : ByteArray)) ++ t162) ++ (⟨#[44]⟩ : ByteArray)) ++ t163) ++ (⟨#[44]⟩ : ByteArray)).size + t164.size ≤ 9223372036854775807 then (if ((((((((⟨#[70, 73, 88, 44]⟩ : ByteArray) ++ ((t159 ++ t160) ++ t161)) ++ (⟨#[44]⟩ : ByteArray)) ++ t162) ++ (⟨#[44]⟩ : ByteArray)) ++ t163) ++ (⟨#[44]⟩ : ByteArray)) ++ t164).size + 1 ≤ 9223372036854775807 then ((spec_decimal.f k a0_4).bind fun t165 => (if (((((((((⟨#[70, 73, 88, 44]⟩ : ByteArray) ++ ((t159 ++ t160) ++ t161)) ++ (⟨#[44]⟩ : ByteArray)) ++ t162) ++ (⟨#[44]⟩ : ByteArray)) ++ t163) ++ (⟨#[44]⟩ : ByteArray)) ++ t164) ++ (⟨#[44]⟩ : ByteArray)).size + t165.size ≤ 9223372036854775807 then (some ((((((((((⟨#[70, 73, 88, 44]⟩ : ByteArray) ++ ((t159 ++ t160) ++ t161)) ++ (⟨#[44]⟩ : ByteArray)) ++ t162) ++ (⟨#[44]⟩ : ByteArray)) ++ t163) ++ (⟨#[44]⟩ : ByteArray)) ++ t164) ++ (⟨#[44]⟩ : ByteArray)) ++ t165)) else (none))) else (none)) else (none)) = some r := H
                  have A16 := Aside0.mk A160
                  clear A160
                  by_cases c17 : (((((((⟨#[70, 73, 88, 44]⟩ : ByteArray) ++ ((t159 ++ t160) ++ t161)) ++ (⟨#[44]⟩ : ByteArray)) ++ t162) ++ (⟨#[44]⟩ : ByteArray)) ++ t163) ++ (⟨#[44]⟩ : ByteArray)).size + t164.size ≤ 9223372036854775807
                  · rw [if_pos c17] at H
                    have c17b0 := eq_true c17
                    have c17b1 : decide ((((((((⟨#[70, 73, 88, 44]⟩ : ByteArray) ++ ((t159 ++ t160) ++ t161)) ++ (⟨#[44]⟩ : ByteArray)) ++ t162) ++ (⟨#[44]⟩ : ByteArray)) ++ t163) ++ (⟨#[44]⟩ : ByteArray)).size + t164.size ≤ 9223372036854775807) = true := decide_eq_true c17
                    try have c17b2 : (9223372036854775807 < (((((((⟨#[70, 73, 88, 44]⟩ : ByteArray) ++ ((t159 ++ t160) ++ t161)) ++ (⟨#[44]⟩ : ByteArray)) ++ t162) ++ (⟨#[44]⟩ : ByteArray)) ++ t163) ++ (⟨#[44]⟩ : ByteArray)).size + t164.size) = False := eq_false (Nat.not_lt.2 c17)
                    try have c17b3 := c17b2
                    try simp only [ByteArray.size_append, bsz, List.size_toArray, List.length_cons, List.length_nil, Nat.reduceAdd, Nat.zero_add, ByteArray.size_extract] at c17b3
                    by_cases c18 : ((((((((⟨#[70, 73, 88, 44]⟩ : ByteArray) ++ ((t159 ++ t160) ++ t161)) ++ (⟨#[44]⟩ : ByteArray)) ++ t162) ++ (⟨#[44]⟩ : ByteArray)) ++ t163) ++ (⟨#[44]⟩ : ByteArray)) ++ t164).size + 1 ≤ 9223372036854775807
                    · rw [if_pos c18] at H
                      have c18b0 := eq_true c18
                      have c18b1 : decide (((((((((⟨#[70, 73, 88, 44]⟩ : ByteArray) ++ ((t159 ++ t160) ++ t161)) ++ (⟨#[44]⟩ : ByteArray)) ++ t162) ++ (⟨#[44]⟩ : ByteArray)) ++ t163) ++ (⟨#[44]⟩ : ByteArray)) ++ t164).size + 1 ≤ 9223372036854775807) = true := decide_eq_true c18
                      try have c18b2 : (9223372036854775807 < ((((((((⟨#[70, 73, 88, 44]⟩ : ByteArray) ++ ((t159 ++ t160) ++ t161)) ++ (⟨#[44]⟩ : ByteArray)) ++ t162) ++ (⟨#[44]⟩ : ByteArray)) ++ t163) ++ (⟨#[44]⟩ : ByteArray)) ++ t164).size + 1) = False := eq_false (Nat.not_lt.2 c18)
                      try have c18b3 := c18b2
                      try simp only [ByteArray.size_append, bsz, List.size_toArray, List.length_cons, List.length_nil, Nat.reduceAdd, Nat.zero_add, ByteArray.size_extract] at c18b3
                      replace H := Option.bind_eq_some_iff.mp H
                      obtain ⟨t165, A190, H⟩ := H
                      replace H : (if (((((((((⟨#[70, 73, 88, 44]⟩ : ByteArray) ++ ((t159 ++ t160) ++ t161)) ++ (⟨#[44]⟩ : ByteArray)) ++ t162) ++ (⟨#[44]⟩ : ByteArray)) ++ t163) ++ (⟨#[44]⟩ : ByteArray)) ++ t164) ++ (⟨#[44]⟩ : ByteArray)).size + t165.size ≤ 9223372036854775807 then (some ((((((((((⟨#[70, 73, 88, 44]⟩ : ByteArray) ++ ((t159 ++ t160) ++ t161)) ++ (⟨#[44]⟩ : ByteArray)) ++ t162) ++ (⟨#[44]⟩ : ByteArray)) ++ t163) ++ (⟨#[44]⟩ : ByteArray)) ++ t164) ++ (⟨#[44]⟩ : ByteArray)) ++ t165)) else (none)) = some r := H
                      have A19 := Aside0.mk A190
                      clear A190
                      by_cases c20 : (((((((((⟨#[70, 73, 88, 44]⟩ : ByteArray) ++ ((t159 ++ t160) ++ t161)) ++ (⟨#[44]⟩ : ByteArray)) ++ t162) ++ (⟨#[44]⟩ : ByteArray)) ++ t163) ++ (⟨#[44]⟩ : ByteArray)) ++ t164) ++ (⟨#[44]⟩ : ByteArray)).size + t165.size ≤ 9223372036854775807
                      · rw [if_pos c20] at H
                        have c20b0 := eq_true c20
                        have c20b1 : decide ((((((((((⟨#[70, 73, 88, 44]⟩ : ByteArray) ++ ((t159 ++ t160) ++ t161)) ++ (⟨#[44]⟩ : ByteArray)) ++ t162) ++ (⟨#[44]⟩ : ByteArray)) ++ t163) ++ (⟨#[44]⟩ : ByteArray)) ++ t164) ++ (⟨#[44]⟩ : ByteArray)).size + t165.size ≤ 9223372036854775807) = true := decide_eq_true c20
                        try have c20b2 : (9223372036854775807 < (((((((((⟨#[70, 73, 88, 44]⟩ : ByteArray) ++ ((t159 ++ t160) ++ t161)) ++ (⟨#[44]⟩ : ByteArray)) ++ t162) ++ (⟨#[44]⟩ : ByteArray)) ++ t163) ++ (⟨#[44]⟩ : ByteArray)) ++ t164) ++ (⟨#[44]⟩ : ByteArray)).size + t165.size) = False := eq_false (Nat.not_lt.2 c20)
                        try have c20b3 := c20b2
                        try simp only [ByteArray.size_append, bsz, List.size_toArray, List.length_cons, List.length_nil, Nat.reduceAdd, Nat.zero_add, ByteArray.size_extract] at c20b3
                        obtain rfl := Option.some.inj H
                        go_enter Tryz.func82, Tryz.ntmps82
                        try go_wp2_with (first | ((with_reducible refine gate_dst (N := 1) rfl ?_); refine box_event ?hg (N := 1) ?hd (cs := #[.int .i64 a0_0, .int .i64 a0_1, .int .i64 a0_2, .int .i64 a0_3, .int .i64 a0_4]) (t := 44) ?hr ?_; (case hd => rfl); (case hg => rfl); (case hr => first | (go_simp; done) | (go_simp; rfl)); intro gb158 hg w21 hbox hb; have n0_ := Aside0.mk (below_step (z10_) hb); have n1_ := Aside0.mk (hbox); have n2_ := Aside0.mk ((z4_ : w.heap.size ≤ gb158)); have n3_ := Aside0.mk ((z4_ : w.heap.size ≤ gb158)); clear HB; have HB := n0_; have BK158 := n1_; have GW158 := n2_; have GE158 := n3_; clear n0_ n1_ n2_ n3_; clear hb hbox hg; have hcz22_0 : w21.cell? ⟨gb158, 0, none⟩ = some (.int .i64 a0_0) := (blk_cell BK158.out 0).trans rfl; have hcz22_1 : w21.cell? ⟨gb158, 1, none⟩ = some (.int .i64 a0_1) := (blk_cell BK158.out 1).trans rfl; have hcz22_2 : w21.cell? ⟨gb158, 2, none⟩ = some (.int .i64 a0_2) := (blk_cell BK158.out 2).trans rfl; have hcz22_3 : w21.cell? ⟨gb158, 3, none⟩ = some (.int .i64 a0_3) := (blk_cell BK158.out 3).trans rfl; have hcz22_4 : w21.cell? ⟨gb158, 4, none⟩ = some (.int .i64 a0_4) := (blk_cell BK158.out 4).trans rfl; have hfz22_0 := blk_frozen BK158.out 0; have hfz22_1 := blk_frozen BK158.out 1; have hfz22_2 := blk_frozen BK158.out 2; have hfz22_3 := blk_frozen BK158.out 3; have hfz22_4 := blk_frozen BK158.out 4) | ((with_reducible refine gate_callee (f := 19) rfl ?_); refine goesL_ (some 18) rfl rfl Tryz.func19 (by kernel_rfl) rfl #[.int .i64 (wrap64 (Int.tdiv (ji2) 3600)), .int .i64 2] rfl (z5_) ?_; (with_reducible refine (spec_digits.calls k (wrap64 (Int.tdiv (ji2) 3600)) 2 t159 _ A3.out).mono ?_); rintro e w23 ⟨rfl, hb⟩; refine ⟨_, rfl, ?_⟩; have n0_ := Aside0.mk (blk_below (g := gb158) (o := .cells #[.int .i64 a0_0, .int .i64 a0_1, .int .i64 a0_2, .int .i64 a0_3, .int .i64 a0_4] 44 (0, 0)) (z11_) hb); have n1_ := Aside0.mk (below_step (z6_) hb); clear BK158; clear HB; have BK158 := n0_; have HB := n1_; clear n0_ n1_; (try clear hb); (try clear hb2); (try clear hk); (try clear hi)) | ((with_reducible refine gate_callee (f := 19) rfl ?_); refine goesL_ (some 22) rfl rfl Tryz.func19 (by kernel_rfl) rfl #[.int .i64 (Int.tmod (wrap64 (Int.tdiv (ji2) 60)) 60), .int .i64 2] rfl (z5_) ?_; (with_reducible refine (spec_digits.calls k (Int.tmod (wrap64 (Int.tdiv (ji2) 60)) 60) 2 t160 _ A4.out).mono ?_); rintro e w24 ⟨rfl, hb⟩; refine ⟨_, rfl, ?_⟩; have n0_ := Aside0.mk (blk_below (g := gb158) (o := .cells #[.int .i64 a0_0, .int .i64 a0_1, .int .i64 a0_2, .int .i64 a0_3, .int .i64 a0_4] 44 (0, 0)) (z11_) hb); have n1_ := Aside0.mk (below_step (z6_) hb); clear BK158; clear HB; have BK158 := n0_; have HB := n1_; clear n0_ n1_; (try clear hb); (try clear hb2); (try clear hk); (try clear hi)) | ((with_reducible refine gate_callee (f := 19) rfl ?_); refine goesL_ (some 25) rfl rfl Tryz.func19 (by kernel_rfl) rfl #[.int .i64 (wrap64 ((wrap64 ((Int.tmod (ji2) 60) + a0_3)) - (ji2))), .int .i64 2] rfl (z5_) ?_; (with_reducible refine (spec_digits.calls k (wrap64 ((wrap64 ((Int.tmod (ji2) 60) + a0_3)) - (ji2))) 2 t161 _ A6.out).mono ?_); rintro e w25 ⟨rfl, hb⟩; refine ⟨_, rfl, ?_⟩; have n0_ := Aside0.mk (blk_below (g := gb158) (o := .cells #[.int .i64 a0_0, .int .i64 a0_1, .int .i64 a0_2, .int .i64 a0_3, .int .i64 a0_4] 44 (0, 0)) (z11_) hb); have n1_ := Aside0.mk (below_step (z6_) hb); clear BK158; clear HB; have BK158 := n0_; have HB := n1_; clear n0_ n1_; (try clear hb); (try clear hb2); (try clear hk); (try clear hi)))
                        have n0_ := Aside0.mk (blk_drew BK158.out)
                        have n1_ := Aside0.mk (below_drew1 HB.out)
                        clear BK158
                        clear HB
                        have BK158 := n0_
                        have HB := n1_
                        clear n0_ n1_
                        refine start_ (n := 26) (S := fun w' => w'.cell? ⟨gb158, 0, none⟩ = some (.int .i64 a0_0) ∧ w'.cell? ⟨gb158, 1, none⟩ = some (.int .i64 a0_1) ∧ w'.cell? ⟨gb158, 2, none⟩ = some (.int .i64 a0_2) ∧ w'.cell? ⟨gb158, 3, none⟩ = some (.int .i64 a0_3) ∧ w'.cell? ⟨gb158, 4, none⟩ = some (.int .i64 a0_4)) (ds := []) #[false, false, false, false, false, false, false, false, false, false, false, false, false, false, false, false, false, false, false, false, false, false, false, false, false, false] (by kernel_rfl) rfl rfl ⟨(blk_cell BK158.out 0).trans rfl, (blk_cell BK158.out 1).trans rfl, (blk_cell BK158.out 2).trans rfl, (blk_cell BK158.out 3).trans rfl, (blk_cell BK158.out 4).trans rfl⟩ (fun hHeld => ?_); refine with_tabW spec_formatFix.tab4 spec_formatFix.bits4 (fun HT_ HW_ => ?_)
                        generalize w25.drew = w26 at BK158 HB hHeld ⊢
                        refine pure_ (i := 0) (N := some 27) (v := ?_) (a' := ?_) #[true, false, false, false, false, false, false, false, false, false, false, false, false, false, false, false, false, false, false, false, false, false, false, false, false, false] rfl rfl (any_of HT_.out (by kernel_rfl)) (fun _ _ _ h => h) (Or.inl ⟨by rfl, ?_⟩) ?_ ?_
                        rotate_left
                        · intro w'
                          go_simp
                          with_reducible rfl
                        rotate_left
                        · simp only [Act.put, List.setIfInBounds_toArray, List.set_cons_zero, List.set_cons_succ, i64_w, i32_w]
                          rfl
                        refine pure_ (i := 1) (N := some 28) (v := ?_) (a' := ?_) #[true, true, false, false, false, false, false, false, false, false, false, false, false, false, false, false, false, false, false, false, false, false, false, false, false, false] rfl rfl (any_of HT_.out (by kernel_rfl)) (fun _ _ _ h => h) (Or.inl ⟨by rfl, ?_⟩) ?_ ?_
                        rotate_left
                        · intro w'
                          go_simp
                          with_reducible rfl
                        rotate_left
                        · simp only [Act.put, List.setIfInBounds_toArray, List.set_cons_zero, List.set_cons_succ, i64_w, i32_w]
                          rfl
                        refine pure_ (i := 2) (N := some 29) (v := ?_) (a' := ?_) #[true, true, true, false, false, false, false, false, false, false, false, false, false, false, false, false, false, false, false, false, false, false, false, false, false, false] rfl rfl (any_of HT_.out (by kernel_rfl)) (fun _ _ _ h => h) (Or.inl ⟨by rfl, ?_⟩) ?_ ?_
                        rotate_left
                        · intro w'
                          go_simp
                          with_reducible rfl
                        rotate_left
                        · simp only [Act.put, List.setIfInBounds_toArray, List.set_cons_zero, List.set_cons_succ, i64_w, i32_w]
                          rfl
                        refine pure_ (i := 3) (N := some 30) (v := ?_) (a' := ?_) #[true, true, true, true, false, false, false, false, false, false, false, false, false, false, false, false, false, false, false, false, false, false, false, false, false, false] rfl rfl (any_of HT_.out (by kernel_rfl)) (fun _ _ _ h => h) (Or.inl ⟨by rfl, ?_⟩) ?_ ?_
                        rotate_left
                        · intro w'
                          go_simp
                          with_reducible rfl
                        rotate_left
                        · simp only [Act.put, List.setIfInBounds_toArray, List.set_cons_zero, List.set_cons_succ, i64_w, i32_w]
                          rfl
                        refine pure_ (i := 4) (N := some 31) (v := ?_) (a' := ?_) #[true, true, true, true, true, false, false, false, false, false, false, false, false, false, false, false, false, false, false, false, false, false, false, false, false, false] rfl rfl (any_of HT_.out (by kernel_rfl)) (fun _ _ _ h => h) (Or.inl ⟨by rfl, ?_⟩) ?_ ?_
                        rotate_left
                        · intro w'
                          go_simp
                          with_reducible rfl
                        rotate_left
                        · simp only [Act.put, List.setIfInBounds_toArray, List.set_cons_zero, List.set_cons_succ, i64_w, i32_w]
                          rfl
                        refine pure_ (i := 9) (N := some 36) (v := ?_) (a' := ?_) #[true, true, true, true, true, false, false, false, false, true, false, false, false, false, false, false, false, false, false, false, false, false, false, false, false, false] rfl rfl (any_of HT_.out (by kernel_rfl)) (fun _ _ _ h => h) (Or.inl ⟨by rfl, ?_⟩) ?_ ?_
                        rotate_left
                        · intro w'
                          go_simp
                          with_reducible rfl
                        rotate_left
                        · simp only [Act.put, List.setIfInBounds_toArray, List.set_cons_zero, List.set_cons_succ, i64_w, i32_w]
                          rfl
                        refine pure_ (i := 10) (N := some 37) (v := ?_) (a' := ?_) #[true, true, true, true, true, false, false, false, false, true, true, false, false, false, false, false, false, false, false, false, false, false, false, false, false, false] rfl rfl (any_of HT_.out (by kernel_rfl)) (fun _ _ _ h => h) (Or.inl ⟨by rfl, ?_⟩) ?_ ?_
                        rotate_left
                        · intro w'
                          go_simp
                          with_reducible rfl
                        rotate_left
                        · simp only [Act.put, List.setIfInBounds_toArray, List.set_cons_zero, List.set_cons_succ, i64_w, i32_w]
                          rfl
                        refine pure_ (i := 15) (N := some 42) (v := ?_) (a' := ?_) #[true, true, true, true, true, false, false, false, false, true, true, false, false, false, false, true, false, false, false, false, false, false, false, false, false, false] rfl rfl (any_of HT_.out (by kernel_rfl)) (fun _ _ _ h => h) (Or.inl ⟨by rfl, ?_⟩) ?_ ?_
                        rotate_left
                        · intro w'
                          go_simp
                          with_reducible rfl
                        rotate_left
                        · simp only [Act.put, List.setIfInBounds_toArray, List.set_cons_zero, List.set_cons_succ, i64_w, i32_w]
                          rfl
                        refine pure_ (i := 16) (N := some 43) (v := ?_) (a' := ?_) #[true, true, true, true, true, false, false, false, false, true, true, false, false, false, false, true, true, false, false, false, false, false, false, false, false, false] rfl rfl (any_of HT_.out (by kernel_rfl)) (fun _ _ _ h => h) (Or.inl ⟨by rfl, ?_⟩) ?_ ?_
                        rotate_left
                        · intro w'
                          go_simp
                          with_reducible rfl
                        rotate_left
                        · simp only [Act.put, List.setIfInBounds_toArray, List.set_cons_zero, List.set_cons_succ, i64_w, i32_w]
                          rfl
                        refine pure_ (i := 21) (N := some 48) (v := ?_) (a' := ?_) #[true, true, true, true, true, false, false, false, false, true, true, false, false, false, false, true, true, false, false, false, false, true, false, false, false, false] rfl rfl (any_of HT_.out (by kernel_rfl)) (fun _ _ _ h => h) (Or.inl ⟨by rfl, ?_⟩) ?_ ?_
                        rotate_left
                        · intro w'
                          go_simp
                          with_reducible rfl
                        rotate_left
                        · simp only [Act.put, List.setIfInBounds_toArray, List.set_cons_zero, List.set_cons_succ, i64_w, i32_w]
                          rfl
                        refine take_ (i := 5) (N := some 32) (v := ?_) (a' := ?_) #[true, true, true, true, true, true, false, false, false, true, true, false, false, false, false, true, true, false, false, false, false, true, false, false, false, false] rfl rfl (take_ofW HT_.out HW_.out (by kernel_rfl)) (fun _ _ _ h => h) (Or.inl ⟨by rfl, ?_⟩) hHeld ?_ ?_
                        rotate_left
                        · rintro w' ⟨s0, s1, s2, s3, s4⟩
                          go_simp
                          with_reducible rfl
                        rotate_left
                        · simp only [Act.put, List.setIfInBounds_toArray, List.set_cons_zero, List.set_cons_succ, i64_w, i32_w]
                          rfl
                        refine take_ (i := 11) (N := some 38) (v := ?_) (a' := ?_) #[true, true, true, true, true, true, false, false, false, true, true, true, false, false, false, true, true, false, false, false, false, true, false, false, false, false] rfl rfl (take_ofW HT_.out HW_.out (by kernel_rfl)) (fun _ _ _ h => h) (Or.inl ⟨by rfl, ?_⟩) hHeld ?_ ?_
                        rotate_left
                        · rintro w' ⟨s0, s1, s2, s3, s4⟩
                          go_simp
                          with_reducible rfl
                        rotate_left
                        · simp only [Act.put, List.setIfInBounds_toArray, List.set_cons_zero, List.set_cons_succ, i64_w, i32_w]
                          rfl
                        refine take_ (i := 17) (N := some 44) (v := ?_) (a' := ?_) #[true, true, true, true, true, true, false, false, false, true, true, true, false, false, false, true, true, true, false, false, false, true, false, false, false, false] rfl rfl (take_ofW HT_.out HW_.out (by kernel_rfl)) (fun _ _ _ h => h) (Or.inl ⟨by rfl, ?_⟩) hHeld ?_ ?_
                        rotate_left
                        · rintro w' ⟨s0, s1, s2, s3, s4⟩
                          go_simp
                          with_reducible rfl
                        rotate_left
                        · simp only [Act.put, List.setIfInBounds_toArray, List.set_cons_zero, List.set_cons_succ, i64_w, i32_w]
                          rfl
                        refine take_ (i := 22) (N := some 49) (v := ?_) (a' := ?_) #[true, true, true, true, true, true, false, false, false, true, true, true, false, false, false, true, true, true, false, false, false, true, true, false, false, false] rfl rfl (take_ofW HT_.out HW_.out (by kernel_rfl)) (fun _ _ _ h => h) (Or.inl ⟨by rfl, ?_⟩) hHeld ?_ ?_
                        rotate_left
                        · rintro w' ⟨s0, s1, s2, s3, s4⟩
                          go_simp
                          with_reducible rfl
                        rotate_left
                        · simp only [Act.put, List.setIfInBounds_toArray, List.set_cons_zero, List.set_cons_succ, i64_w, i32_w]
                          rfl
                        refine one_ (i := 6) (N := some 33) #[true, true, true, true, true, true, true, false, false, true, true, true, false, false, false, true, true, true, false, false, false, true, true, false, false, false] rfl rfl (one_of HT_.out (by kernel_rfl)) (by decide) (fun K hK => ?_)
                        refine goes_ Tryz.func19 (by kernel_rfl) rfl #[.int .i64 a0_2, .int .i64 2] (by rfl) rfl rfl (z9_) ?_
                        with_reducible refine (spec_digits.calls k a0_2 2 t162 _ A10.out).mono ?_
                        rintro e w27 ⟨rfl, hb⟩
                        refine ⟨_, rfl, ?_⟩
                        have n0_ := Aside0.mk (blk_below (g := gb158) (o := .cells #[.int .i64 a0_0, .int .i64 a0_1, .int .i64 a0_2, .int .i64 a0_3, .int .i64 a0_4] 44 (0, 0)) (z11_) hb)
                        have n1_ := Aside0.mk (below_step (z6_) hb)
                        clear BK158
                        clear HB
                        have BK158 := n0_
                        have HB := n1_
                        clear n0_ n1_
                        (try clear hb)
                        (try clear hb2)
                        (try clear hk)
                        (try clear hi)
                        refine hK.out _ _ ⟨(blk_cell BK158.out 0).trans rfl, (blk_cell BK158.out 1).trans rfl, (blk_cell BK158.out 2).trans rfl, (blk_cell BK158.out 3).trans rfl, (blk_cell BK158.out 4).trans rfl⟩ (fun hHeld => ?_)
                        clear hK K
                        refine norm_ (a' := ?_) ?_ ?_
                        rotate_left
                        · show Act.put _ (some 33) _ = _
                          simp only [Act.put, List.setIfInBounds_toArray, List.set_cons_zero, List.set_cons_succ, i64_w, i32_w]
                          rfl
                        refine pure_ (i := 7) (N := some 34) (v := ?_) (a' := ?_) #[true, true, true, true, true, true, true, true, false, true, true, true, false, false, false, true, true, true, false, false, false, true, true, false, false, false] rfl rfl (any_of HT_.out (by kernel_rfl)) (fun _ _ _ h => h) (Or.inl ⟨by rfl, ?_⟩) ?_ ?_
                        rotate_left
                        · intro w'
                          go_simp
                          with_reducible rfl
                        rotate_left
                        · simp only [Act.put, List.setIfInBounds_toArray, List.set_cons_zero, List.set_cons_succ, i64_w, i32_w]
                          rfl
                        refine pure_ (i := 8) (N := some 35) (v := ?_) (a' := ?_) #[true, true, true, true, true, true, true, true, true, true, true, true, false, false, false, true, true, true, false, false, false, true, true, false, false, false] rfl rfl (any_of HT_.out (by kernel_rfl)) (fun _ _ _ h => h) (Or.inl ⟨by rfl, ?_⟩) ?_ ?_
                        rotate_left
                        · intro w'
                          go_simp
                          with_reducible rfl
                        rotate_left
                        · simp only [Act.put, List.setIfInBounds_toArray, List.set_cons_zero, List.set_cons_succ, i64_w, i32_w]
                          rfl
                        refine one_ (i := 12) (N := some 39) #[true, true, true, true, true, true, true, true, true, true, true, true, true, false, false, true, true, true, false, false, false, true, true, false, false, false] rfl rfl (one_of HT_.out (by kernel_rfl)) (by decide) (fun K hK => ?_)
                        refine goes_ Tryz.func19 (by kernel_rfl) rfl #[.int .i64 a0_1, .int .i64 2] (by rfl) rfl rfl (z9_) ?_
                        with_reducible refine (spec_digits.calls k a0_1 2 t163 _ A13.out).mono ?_
                        rintro e w28 ⟨rfl, hb⟩
                        refine ⟨_, rfl, ?_⟩
                        have n0_ := Aside0.mk (blk_below (g := gb158) (o := .cells #[.int .i64 a0_0, .int .i64 a0_1, .int .i64 a0_2, .int .i64 a0_3, .int .i64 a0_4] 44 (0, 0)) (z11_) hb)
                        have n1_ := Aside0.mk (below_step (z6_) hb)
                        clear BK158
                        clear HB
                        have BK158 := n0_
                        have HB := n1_
                        clear n0_ n1_
                        (try clear hb)
                        (try clear hb2)
                        (try clear hk)
                        (try clear hi)
                        refine hK.out _ _ ⟨(blk_cell BK158.out 0).trans rfl, (blk_cell BK158.out 1).trans rfl, (blk_cell BK158.out 2).trans rfl, (blk_cell BK158.out 3).trans rfl, (blk_cell BK158.out 4).trans rfl⟩ (fun hHeld => ?_)
                        clear hK K
                        refine norm_ (a' := ?_) ?_ ?_
                        rotate_left
                        · show Act.put _ (some 39) _ = _
                          simp only [Act.put, List.setIfInBounds_toArray, List.set_cons_zero, List.set_cons_succ, i64_w, i32_w]
                          rfl
                        refine pure_ (i := 13) (N := some 40) (v := ?_) (a' := ?_) #[true, true, true, true, true, true, true, true, true, true, true, true, true, true, false, true, true, true, false, false, false, true, true, false, false, false] rfl rfl (any_of HT_.out (by kernel_rfl)) (fun _ _ _ h => h) (Or.inl ⟨by rfl, ?_⟩) ?_ ?_
                        rotate_left
                        · intro w'
                          go_simp
                          with_reducible rfl
                        rotate_left
                        · simp only [Act.put, List.setIfInBounds_toArray, List.set_cons_zero, List.set_cons_succ, i64_w, i32_w]
                          rfl
                        refine pure_ (i := 14) (N := some 41) (v := ?_) (a' := ?_) #[true, true, true, true, true, true, true, true, true, true, true, true, true, true, true, true, true, true, false, false, false, true, true, false, false, false] rfl rfl (any_of HT_.out (by kernel_rfl)) (fun _ _ _ h => h) (Or.inl ⟨by rfl, ?_⟩) ?_ ?_
                        rotate_left
                        · intro w'
                          go_simp
                          with_reducible rfl
                        rotate_left
                        · simp only [Act.put, List.setIfInBounds_toArray, List.set_cons_zero, List.set_cons_succ, i64_w, i32_w]
                          rfl
                        refine one_ (i := 18) (N := some 45) #[true, true, true, true, true, true, true, true, true, true, true, true, true, true, true, true, true, true, true, false, false, true, true, false, false, false] rfl rfl (one_of HT_.out (by kernel_rfl)) (by decide) (fun K hK => ?_)
                        refine goes_ Tryz.func19 (by kernel_rfl) rfl #[.int .i64 a0_0, .int .i64 4] (by rfl) rfl rfl (z9_) ?_
                        with_reducible refine (spec_digits.calls k a0_0 4 t164 _ A16.out).mono ?_
                        rintro e w29 ⟨rfl, hb⟩
                        refine ⟨_, rfl, ?_⟩
                        have n0_ := Aside0.mk (blk_below (g := gb158) (o := .cells #[.int .i64 a0_0, .int .i64 a0_1, .int .i64 a0_2, .int .i64 a0_3, .int .i64 a0_4] 44 (0, 0)) (z11_) hb)
                        have n1_ := Aside0.mk (below_step (z6_) hb)
                        clear BK158
                        clear HB
                        have BK158 := n0_
                        have HB := n1_
                        clear n0_ n1_
                        (try clear hb)
                        (try clear hb2)
                        (try clear hk)
                        (try clear hi)
                        refine hK.out _ _ ⟨(blk_cell BK158.out 0).trans rfl, (blk_cell BK158.out 1).trans rfl, (blk_cell BK158.out 2).trans rfl, (blk_cell BK158.out 3).trans rfl, (blk_cell BK158.out 4).trans rfl⟩ (fun hHeld => ?_)
                        clear hK K
                        refine norm_ (a' := ?_) ?_ ?_
                        rotate_left
                        · show Act.put _ (some 45) _ = _
                          simp only [Act.put, List.setIfInBounds_toArray, List.set_cons_zero, List.set_cons_succ, i64_w, i32_w]
                          rfl
                        refine pure_ (i := 19) (N := some 46) (v := ?_) (a' := ?_) #[true, true, true, true, true, true, true, true, true, true, true, true, true, true, true, true, true, true, true, true, false, true, true, false, false, false] rfl rfl (any_of HT_.out (by kernel_rfl)) (fun _ _ _ h => h) (Or.inl ⟨by rfl, ?_⟩) ?_ ?_
                        rotate_left
                        · intro w'
                          go_simp
                          with_reducible rfl
                        rotate_left
                        · simp only [Act.put, List.setIfInBounds_toArray, List.set_cons_zero, List.set_cons_succ, i64_w, i32_w]
                          rfl
                        refine pure_ (i := 20) (N := some 47) (v := ?_) (a' := ?_) #[true, true, true, true, true, true, true, true, true, true, true, true, true, true, true, true, true, true, true, true, true, true, true, false, false, false] rfl rfl (any_of HT_.out (by kernel_rfl)) (fun _ _ _ h => h) (Or.inl ⟨by rfl, ?_⟩) ?_ ?_
                        rotate_left
                        · intro w'
                          go_simp
                          with_reducible rfl
                        rotate_left
                        · simp only [Act.put, List.setIfInBounds_toArray, List.set_cons_zero, List.set_cons_succ, i64_w, i32_w]
                          rfl
                        refine one_ (i := 23) (N := some 50) #[true, true, true, true, true, true, true, true, true, true, true, true, true, true, true, true, true, true, true, true, true, true, true, true, false, false] rfl rfl (one_of HT_.out (by kernel_rfl)) (by decide) (fun K hK => ?_)
                        refine goes_ Tryz.func16 (by kernel_rfl) rfl #[.int .i64 a0_4] (by rfl) rfl rfl (z9_) ?_
                        with_reducible refine (spec_decimal.calls k a0_4 t165 _ A19.out).mono ?_
                        rintro e w30 ⟨rfl, hb⟩
                        refine ⟨_, rfl, ?_⟩
                        have n0_ := Aside0.mk (blk_below (g := gb158) (o := .cells #[.int .i64 a0_0, .int .i64 a0_1, .int .i64 a0_2, .int .i64 a0_3, .int .i64 a0_4] 44 (0, 0)) (z11_) hb)
                        have n1_ := Aside0.mk (below_step (z6_) hb)
                        clear BK158
                        clear HB
                        have BK158 := n0_
                        have HB := n1_
                        clear n0_ n1_
                        (try clear hb)
                        (try clear hb2)
                        (try clear hk)
                        (try clear hi)
                        refine hK.out _ _ ⟨(blk_cell BK158.out 0).trans rfl, (blk_cell BK158.out 1).trans rfl, (blk_cell BK158.out 2).trans rfl, (blk_cell BK158.out 3).trans rfl, (blk_cell BK158.out 4).trans rfl⟩ (fun hHeld => ?_)
                        clear hK K
                        refine norm_ (a' := ?_) ?_ ?_
                        rotate_left
                        · show Act.put _ (some 50) _ = _
                          simp only [Act.put, List.setIfInBounds_toArray, List.set_cons_zero, List.set_cons_succ, i64_w, i32_w]
                          rfl
                        refine pure_ (i := 24) (N := some 51) (v := ?_) (a' := ?_) #[true, true, true, true, true, true, true, true, true, true, true, true, true, true, true, true, true, true, true, true, true, true, true, true, true, false] rfl rfl (any_of HT_.out (by kernel_rfl)) (fun _ _ _ h => h) (Or.inl ⟨by rfl, ?_⟩) ?_ ?_
                        rotate_left
                        · intro w'
                          go_simp
                          with_reducible rfl
                        rotate_left
                        · simp only [Act.put, List.setIfInBounds_toArray, List.set_cons_zero, List.set_cons_succ, i64_w, i32_w]
                          rfl
                        refine pure_ (i := 25) (N := some 2) (v := ?_) (a' := ?_) #[true, true, true, true, true, true, true, true, true, true, true, true, true, true, true, true, true, true, true, true, true, true, true, true, true, true] rfl rfl (any_of HT_.out (by kernel_rfl)) (fun _ _ _ h => h) (Or.inl ⟨by rfl, ?_⟩) ?_ ?_
                        rotate_left
                        · intro w'
                          go_simp
                          with_reducible rfl
                        rotate_left
                        · simp only [Act.put, List.setIfInBounds_toArray, List.set_cons_zero, List.set_cons_succ, i64_w, i32_w]
                          rfl
                        refine done_ (done_of HT_.out (by kernel_rfl)) ?_
                        try go_wp2
                        go_ret
                        exact ⟨by first | rfl | (simp [errW_none, errW_some] <;> rfl) | (simp only [← hji2]; first | rfl | (simp [errW_none, errW_some] <;> rfl)) | (simp [*, errW_none, errW_some] <;> rfl), z6_⟩
                      · rw [if_neg c20] at H
                        exact absurd H (by simp)
                    · rw [if_neg c18] at H
                      exact absurd H (by simp)
                  · rw [if_neg c17] at H
                    exact absurd H (by simp)
                · rw [if_neg c15] at H
                  exact absurd H (by simp)
              · rw [if_neg c14] at H
                exact absurd H (by simp)
            · rw [if_neg c12] at H
              exact absurd H (by simp)
          · rw [if_neg c11] at H
            exact absurd H (by simp)
        · rw [if_neg c9] at H
          exact absurd H (by simp)
      · rw [if_neg c8] at H
        exact absurd H (by simp)
    · rw [if_neg c7] at H
      exact absurd H (by simp)
  · rw [if_neg c5] at H
    exact absurd H (by simp)

/-! ### spec_readFix: function 52 -/
def spec_readFix.z : Option (Int × Int × Int × Int × Int × Bool) := some (0, 0, 0, 0, 0, false)
/-- The second of the day. -/
def secS (h m s : Int) : Int := wrap64 ((wrap64 ((wrap64 (3600 * h)) + (wrap64 (60 * m)))) + s)
def spec_readFix.t (k : Nat) (a0 : ByteArray) (h mi s y mo d n : Int) : Option (Int × Int × Int × Int × Int × Bool) := if h < 0 ∨ mi < 0 ∨ s < 0 then spec_readFix.z else
  (spec_validFix.f y mo d (secS h mi s) n).bind fun v => (if v = true then ((spec_formatFix.f k y mo d (secS h mi s) n).bind fun t => (if t.toList = a0.toList then (some (y, mo, d, secS h mi s, n, true)) else spec_readFix.z)) else spec_readFix.z)
def spec_readFix.g (k : Nat) (a0 : ByteArray) (ws : List ByteArray) : Option (Int × Int × Int × Int × Int × Bool) := match ws with
  | [x0, x1, x2, x3, x4, x5] => if x0.toList = [70, 73, 88] ∧ x1.size = 6 then (spec_readFix.t k a0 (rdV (x1.extract 0 2) 2) (rdV (x1.extract 2 4) 2) (rdV (x1.extract 4 6) 2) (rdV x4 4) (rdV x3 2) (rdV x2 2) (rdV x5 2)) else spec_readFix.z
  | _ => spec_readFix.z
def spec_readFix.f (k : Nat) (a0 : ByteArray) : Option (Int × Int × Int × Int × Int × Bool) := (spec_splitAt.f k a0 44).bind fun ws => spec_readFix.g k a0 ws
theorem spec_readFix.mono : ∀ a0 k, LeO (spec_readFix.f k a0) (spec_readFix.f (k + 1) a0) := by
  intro a0 k
  unfold spec_readFix.f
  refine LeO.bind (spec_splitAt.mono _ _ _) fun ws => ?_
  unfold spec_readFix.g
  split
  · split
    · unfold spec_readFix.t
      split
      · exact LeO.refl _
      · refine LeO.bind (LeO.refl _) fun v => ?_
        split
        · exact LeO.bind (spec_formatFix.mono _ _ _ _ _ _) fun _ => LeO.refl _
        · exact LeO.refl _
    · exact LeO.refl _
  · exact LeO.refl _
/-- The walk's world: the result's block, the words' row, and that nothing below has turned. -/
structure RfI (w : World) (gr : Nat) (A : Option Addr) (ws : List ByteArray) (W : World) : Prop where
  r : W.heap[gr]? = some (.cells #[.int .i64 0, .int .i64 0, .int .i64 0, .int .i64 0, .int .i64 0] 44 (0, 0))
  b : Below w.heap.size w W
  c : Kd.string.C W A ws.length ws
theorem RfI.below {w : World} {gr : Nat} {A : Option Addr} {ws : List ByteArray} {W W' : World} (h : RfI w gr A ws W) (hb : Below W.heap.size W W') : RfI w gr A ws W' := ⟨blk_below h.r hb, below_step h.b hb, Kd.C_below h.c hb⟩
theorem RfI.drewN {w : World} {gr : Nat} {A : Option Addr} {ws : List ByteArray} {W : World} (h : RfI w gr A ws W) (n : Nat) : RfI w gr A ws (W.drewN n) := h.below (pw_below_drewN (Below.refl _ _) n)
theorem adA (ad : Addr) (i : Nat) : ad.add (i + 1) = ⟨ad.block, ad.off + (i + 1), none⟩ := by
  have := add_field ad 0 (i + 1) (by omega)
  rw [Nat.zero_add, show ad.add 0 = ad by cases ad; unfold Addr.add; split <;> simp_all] at this
  exact this
theorem six {W : World} {A : Option Addr} {x0 x1 x2 x3 x4 x5 : ByteArray} (h : Kd.string.C W A 6 [x0, x1, x2, x3, x4, x5]) : ∃ ad, A = some ad ∧ W.cell? ad = some (.string x0) ∧ W.cell? ⟨ad.block, ad.off + 1, none⟩ = some (.string x1) ∧ W.cell? ⟨ad.block, ad.off + 2, none⟩ = some (.string x2) ∧ W.cell? ⟨ad.block, ad.off + 3, none⟩ = some (.string x3) ∧ W.cell? ⟨ad.block, ad.off + 4, none⟩ = some (.string x4) ∧ W.cell? ⟨ad.block, ad.off + 5, none⟩ = some (.string x5) := by
  obtain ⟨ad, e, h0⟩ := Kd.at_string h 0 (by decide) (by decide)
  subst e
  refine ⟨ad, rfl, ?_, ?_, ?_, ?_, ?_, ?_⟩
  · rw [show ad.add (0 : Int).toNat = ad by cases ad; unfold Addr.add; split <;> simp_all] at h0
    exact h0
  all_goals
    first
    | (obtain ⟨ad', e, h1⟩ := Kd.at_string h 1 (by decide) (by decide); cases e; rw [show ad.add (1 : Int).toNat = _ from adA ad 0] at h1; exact h1)
    | (obtain ⟨ad', e, h1⟩ := Kd.at_string h 2 (by decide) (by decide); cases e; rw [show ad.add (2 : Int).toNat = _ from adA ad 1] at h1; exact h1)
    | (obtain ⟨ad', e, h1⟩ := Kd.at_string h 3 (by decide) (by decide); cases e; rw [show ad.add (3 : Int).toNat = _ from adA ad 2] at h1; exact h1)
    | (obtain ⟨ad', e, h1⟩ := Kd.at_string h 4 (by decide) (by decide); cases e; rw [show ad.add (4 : Int).toNat = _ from adA ad 3] at h1; exact h1)
    | (obtain ⟨ad', e, h1⟩ := Kd.at_string h 5 (by decide) (by decide); cases e; rw [show ad.add (5 : Int).toNat = _ from adA ad 4] at h1; exact h1)
/-- The same with the four words that one statement loads. -/
structure RfS (w : World) (gr : Nat) (ad : Addr) (x2 x3 x4 x5 : ByteArray) (W : World) : Prop where
  r : W.heap[gr]? = some (.cells #[.int .i64 0, .int .i64 0, .int .i64 0, .int .i64 0, .int .i64 0] 44 (0, 0))
  b : Below w.heap.size w W
  y2 : W.cell? ⟨ad.block, ad.off + 2, none⟩ = some (.string x2)
  y3 : W.cell? ⟨ad.block, ad.off + 3, none⟩ = some (.string x3)
  y4 : W.cell? ⟨ad.block, ad.off + 4, none⟩ = some (.string x4)
  y5 : W.cell? ⟨ad.block, ad.off + 5, none⟩ = some (.string x5)
theorem RfS.below {w : World} {gr : Nat} {ad : Addr} {x2 x3 x4 x5 : ByteArray} {W W' : World} (h : RfS w gr ad x2 x3 x4 x5 W) (hb : Below W.heap.size W W') : RfS w gr ad x2 x3 x4 x5 W' :=
  have c : ∀ {a : Addr} {v : Value}, W.cell? a = some v → W'.cell? a = some v := fun e => (hb.cell (World.block_lt_of_cell? W _ e)).trans e
  ⟨blk_below h.r hb, below_step h.b hb, c h.y2, c h.y3, c h.y4, c h.y5⟩
theorem RfS.drew {w : World} {gr : Nat} {ad : Addr} {x2 x3 x4 x5 : ByteArray} {W : World} (h : RfS w gr ad x2 x3 x4 x5 W) : RfS w gr ad x2 x3 x4 x5 W.drew := h.below (below_drew1 (Below.refl _ _))
theorem RfS.alloc {w : World} {gr : Nat} {ad : Addr} {x2 x3 x4 x5 : ByteArray} {W : World} {o : Obj} (h : RfS w gr ad x2 x3 x4 x5 W) : RfS w gr ad x2 x3 x4 x5 (W.alloc o) := h.below (below_alloc (Below.refl _ _) o)
structure RfP (w : World) (gr gf : Nat) (cs : Array Value) (W : World) : Prop where
  r : W.heap[gr]? = some (.cells #[.int .i64 0, .int .i64 0, .int .i64 0, .int .i64 0, .int .i64 0] 44 (0, 0))
  b : Below w.heap.size w W
  f : W.heap[gf]? = some (.cells cs 44 (0, 0))
theorem RfP.below {w : World} {gr gf : Nat} {cs : Array Value} {W W' : World} (h : RfP w gr gf cs W) (hb : Below W.heap.size W W') : RfP w gr gf cs W' := ⟨blk_below h.r hb, below_step h.b hb, blk_below h.f hb⟩
theorem RfS.all {w : World} {gr : Nat} {ad : Addr} {x2 x3 x4 x5 : ByteArray} {W : World} (h : RfS w gr ad x2 x3 x4 x5 W) : W.cell? ⟨ad.block, ad.off + 2, none⟩ = some (.string x2) ∧ W.cell? ⟨ad.block, ad.off + 3, none⟩ = some (.string x3) ∧ W.cell? ⟨ad.block, ad.off + 4, none⟩ = some (.string x4) ∧ W.cell? ⟨ad.block, ad.off + 5, none⟩ = some (.string x5) ∧ Aside0 (RfS w gr ad x2 x3 x4 x5 W) := ⟨h.y2, h.y3, h.y4, h.y5, ⟨h⟩⟩
set_option maxHeartbeats 8000000 in
set_option maxRecDepth 100000 in
theorem spec_readFix.calls (k : Nat) (a0 : ByteArray) (r1 r2 r3 r4 r5 : Int) (r6 : Bool) (w : World) (h : spec_readFix.f k a0 = some (r1, r2, r3, r4, r5, r6)) :
    Calls Tryz.prog 52 #[.string a0] w fun e w' => e = .returned (.tuple #[.agg #[.int .i64 r1, .int .i64 r2, .int .i64 r3, .int .i64 r4, .int .i64 r5], .bool r6]) ∧ Below w.heap.size w w' := by
  have hu44 := Tryz.underlying44
  have hu42 := Tryz.underlying42
  obtain ⟨ws, hA, h⟩ := Option.bind_eq_some_iff.mp h
  have HSP := Aside0.mk (fun W => spec_splitAt.calls k a0 44 ws W hA)
  have H := Aside0.mk h
  clear h hA
  go_enter Tryz.func52, Tryz.ntmps52
  go_upto_region 2 with (first | (go_at_call 11; (with_reducible refine (HSP.out _).mono ?_); rintro _ W ⟨v, rfl, hr, hb⟩; obtain ⟨A, c, rfl, hl, hc⟩ := Kd.R_reads hr; have hI : Aside0 (RfI w w.heap.size A ws W) := ⟨⟨blk_below (heap_alloc_new w _) hb, below_step (below_alloc (Below.refl _ _) _) hb, hc⟩⟩; have HL := Aside0.mk hl; clear hr hb hl hc))
  by_cases h6 : ws.length = 6
  rotate_left
  · have h : spec_readFix.g k a0 ws = some (r1, r2, r3, r4, r5, r6) := H.out
    clear H
    have e : spec_readFix.g k a0 ws = spec_readFix.z := by
      unfold spec_readFix.g
      split
      · exact absurd rfl h6
      · rfl
    rw [e] at h
    have b0 : ((ws.length : Int) == 6) = false := beq_eq_false_iff_ne.2 (by omega)
    have b1 : ((ws.length : Int) != 6) = true := by rw [bne, b0]; rfl
    have b2 : ¬ ((ws.length : Int) = 6) := by omega
    clear e h6
    unfold spec_readFix.z at h
    simp only [Option.some.injEq, Prod.mk.injEq] at h
    obtain ⟨rfl, rfl, rfl, rfl, rfl, rfl⟩ := h
    have q0 := (blk_cell (hI.out).r 0).trans rfl
    have f0 := blk_frozen (hI.out).r 0
    have q1 := (blk_cell (hI.out).r 1).trans rfl
    have f1 := blk_frozen (hI.out).r 1
    have q2 := (blk_cell (hI.out).r 2).trans rfl
    have f2 := blk_frozen (hI.out).r 2
    have q3 := (blk_cell (hI.out).r 3).trans rfl
    have f3 := blk_frozen (hI.out).r 3
    have q4 := (blk_cell (hI.out).r 4).trans rfl
    have f4 := blk_frozen (hI.out).r 4
    go_wp2
    refine bodyPost_ret (results_ct rfl _ _ w.heap.size 44 #[.int .i64 0, .int .i64 0, .int .i64 0, .int .i64 0, .int .i64 0] (0, 0) _ rfl (z1_) Tryz.underlying44 rfl (by kernel_rfl)) rfl ?_
    exact ⟨rfl, z13_⟩
  obtain ⟨x0, x1, x2, x3, x4, x5, rfl⟩ : ∃ x0 x1 x2 x3 x4 x5, ws = [x0, x1, x2, x3, x4, x5] := by
    match ws, h6 with
    | [x0, x1, x2, x3, x4, x5], _ => exact ⟨x0, x1, x2, x3, x4, x5, rfl⟩
  clear h6 HSP
  obtain ⟨ad, e, y0, y1, y2, y3, y4, y5⟩ := six hI.out.c
  subst e
  have h : (if x0.toList = [70, 73, 88] ∧ x1.size = 6 then _ else spec_readFix.z) = some (r1, r2, r3, r4, r5, r6) := H.out
  clear H
  by_cases hF : x0.toList = [70, 73, 88]
  rotate_left
  · rw [if_neg (fun h => hF h.1)] at h
    have b0 : (x0.toList == [70, 73, 88]) = false := beq_eq_false_iff_ne.2 hF
    clear hF
    unfold spec_readFix.z at h
    simp only [Option.some.injEq, Prod.mk.injEq] at h
    obtain ⟨rfl, rfl, rfl, rfl, rfl, rfl⟩ := h
    have q0 := (blk_cell (hI.out).r 0).trans rfl
    have f0 := blk_frozen (hI.out).r 0
    have q1 := (blk_cell (hI.out).r 1).trans rfl
    have f1 := blk_frozen (hI.out).r 1
    have q2 := (blk_cell (hI.out).r 2).trans rfl
    have f2 := blk_frozen (hI.out).r 2
    have q3 := (blk_cell (hI.out).r 3).trans rfl
    have f3 := blk_frozen (hI.out).r 3
    have q4 := (blk_cell (hI.out).r 4).trans rfl
    have f4 := blk_frozen (hI.out).r 4
    go_wp2
    refine bodyPost_ret (results_ct rfl _ _ w.heap.size 44 #[.int .i64 0, .int .i64 0, .int .i64 0, .int .i64 0, .int .i64 0] (0, 0) _ rfl (z1_) Tryz.underlying44 rfl (by kernel_rfl)) rfl ?_
    exact ⟨rfl, z13_⟩
  have b0 : (x0.toList == [70, 73, 88]) = true := beq_iff_eq.2 hF
  by_cases hS : x1.size = 6
  rotate_left
  · rw [if_neg (fun h => hS h.2)] at h
    have c0 : ((x1.size : Int) == 6) = false := beq_eq_false_iff_ne.2 (by omega)
    have c1 : ¬ ((x1.size : Int) = 6) := by omega
    clear hF hS
    unfold spec_readFix.z at h
    simp only [Option.some.injEq, Prod.mk.injEq] at h
    obtain ⟨rfl, rfl, rfl, rfl, rfl, rfl⟩ := h
    have q0 := (blk_cell (hI.out).r 0).trans rfl
    have f0 := blk_frozen (hI.out).r 0
    have q1 := (blk_cell (hI.out).r 1).trans rfl
    have f1 := blk_frozen (hI.out).r 1
    have q2 := (blk_cell (hI.out).r 2).trans rfl
    have f2 := blk_frozen (hI.out).r 2
    have q3 := (blk_cell (hI.out).r 3).trans rfl
    have f3 := blk_frozen (hI.out).r 3
    have q4 := (blk_cell (hI.out).r 4).trans rfl
    have f4 := blk_frozen (hI.out).r 4
    go_wp2
    refine bodyPost_ret (results_ct rfl _ _ w.heap.size 44 #[.int .i64 0, .int .i64 0, .int .i64 0, .int .i64 0, .int .i64 0] (0, 0) _ rfl (z1_) Tryz.underlying44 rfl (by kernel_rfl)) rfl ?_
    exact ⟨rfl, z13_⟩
  rw [if_pos ⟨hF, hS⟩] at h
  rw [show x1.extract 4 6 = x1.extract 4 x1.size by rw [hS]] at h
  have G1 := Aside0.mk (rd_same (x1.extract 0 2) 2 (by decide))
  have G2 := Aside0.mk (rd_same (x1.extract 2 4) 2 (by decide))
  have G3 := Aside0.mk (rd_same (x1.extract 4 x1.size) 2 (by decide))
  have G4 := Aside0.mk (rd_same x4 4 (by decide))
  have G5 := Aside0.mk (rd_same x3 2 (by decide))
  have G6 := Aside0.mk (rd_same x2 2 (by decide))
  have G7 := Aside0.mk (rd_same x5 2 (by decide))
  obtain ⟨vh, e⟩ : ∃ v, rdV (x1.extract 0 2) 2 = v := ⟨_, rfl⟩
  rw [e] at G1 h
  clear e
  obtain ⟨vm, e⟩ : ∃ v, rdV (x1.extract 2 4) 2 = v := ⟨_, rfl⟩
  rw [e] at G2 h
  clear e
  obtain ⟨vs, e⟩ : ∃ v, rdV (x1.extract 4 x1.size) 2 = v := ⟨_, rfl⟩
  rw [e] at G3 h
  clear e
  obtain ⟨vy, e⟩ : ∃ v, rdV x4 4 = v := ⟨_, rfl⟩
  rw [e] at G4 h
  clear e
  obtain ⟨vo, e⟩ : ∃ v, rdV x3 2 = v := ⟨_, rfl⟩
  rw [e] at G5 h
  clear e
  obtain ⟨vd, e⟩ : ∃ v, rdV x2 2 = v := ⟨_, rfl⟩
  rw [e] at G6 h
  clear e
  obtain ⟨vn, e⟩ : ∃ v, rdV x5 2 = v := ⟨_, rfl⟩
  rw [e] at G7 h
  clear e
  have H := Aside0.mk h
  have c0 : ((x1.size : Int) == 6) = true := beq_iff_eq.2 (by omega)
  have s1 := eq_true (show (4 : Int) ≤ (x1.size : Int) by omega)
  have s2 : decide ((4 : Int) ≤ (x1.size : Int)) = true := decide_eq_true (by omega)
  have s3 := eq_true (show (2 : Int) ≤ (x1.size : Int) by omega)
  have s4 : decide ((2 : Int) ≤ (x1.size : Int)) = true := decide_eq_true (by omega)
  clear h hF hS
  go_upto_region 7 with (first | (go_at_call 34; (with_reducible refine (G1.out _).mono ?_); rintro _ _ ⟨rfl, rfl⟩) | (go_at_call 34; (with_reducible refine (G2.out _).mono ?_); rintro _ _ ⟨rfl, rfl⟩) | (go_at_call 34; (with_reducible refine (G3.out _).mono ?_); rintro _ _ ⟨rfl, rfl⟩))
  obtain ⟨_, e, -, -, y2', y3', y4', y5'⟩ := six hI.out.c
  cases e
  have n0 := Aside0.mk (RfS.mk hI.out.r hI.out.b y2' y3' y4' y5')
  clear hI y0 y1 y2 y3 y4 y5 y2' y3' y4' y5' s1 s2 s3 s4 b0 c0 G1 G2 G3
  obtain ⟨sc, hsc⟩ : ∃ sc, secS vh vm vs = sc := ⟨_, rfl⟩
  have hsw : IntKind.i64.wrap (IntKind.i64.wrap (IntKind.i64.wrap (3600 * vh) + IntKind.i64.wrap (60 * vm)) + vs) = sc := by rw [← hsc]; unfold secS; simp only [i64_w]
  have HSC := Aside0.mk hsc
  clear hsc
  go_cut [8] (fun v8 wc => ∃ gf : Nat, v8 = .pointer (some ⟨gf, 0, none⟩) ∧ Aside0 (RfP w w.heap.size gf #[.int .i64 vy, .int .i64 vo, .int .i64 vd, .int .i64 sc, .int .i64 vn] wc))
  case first =>
    go_region_held3 (fun w' => w'.cell? ⟨ad.block, ad.off + 2, none⟩ = some (.string x2) ∧ w'.cell? ⟨ad.block, ad.off + 3, none⟩ = some (.string x3) ∧ w'.cell? ⟨ad.block, ad.off + 4, none⟩ = some (.string x4) ∧ w'.cell? ⟨ad.block, ad.off + 5, none⟩ = some (.string x5) ∧ Aside0 (RfS w w.heap.size ad x2 x3 x4 x5 w'))
      ((refine RfS.all ?_; repeat (first | exact n0.out | apply RfS.drew | apply RfS.alloc)))
      (first | (go_at_call 34; (with_reducible refine (G4.out _).mono ?_); rintro _ _ ⟨rfl, rfl⟩) | (go_at_call 34; (with_reducible refine (G5.out _).mono ?_); rintro _ _ ⟨rfl, rfl⟩) | (go_at_call 34; (with_reducible refine (G6.out _).mono ?_); rintro _ _ ⟨rfl, rfl⟩) | (go_at_call 34; (with_reducible refine (G7.out _).mono ?_); rintro _ _ ⟨rfl, rfl⟩))
    all_goals
      go_wp2
      go_meet
      case rel => exact ⟨_, rfl, ⟨⟨blk_drew (blk_alloc n0.out.r _), below_drew1 (below_alloc n0.out.b _), blk_drew (heap_alloc_new _ _)⟩⟩⟩
  case rest =>
    obtain ⟨gf, rfl, nP⟩ := hcut
    have h := H.out
    unfold spec_readFix.t at h
    rw [HSC.out] at h
    clear H HSC hsw
    by_cases c_ : vh < 0
    · rw [if_pos (Or.inl c_)] at h
      have da := decide_eq_true c_
      clear c_
      unfold spec_readFix.z at h
      simp only [Option.some.injEq, Prod.mk.injEq] at h
      obtain ⟨rfl, rfl, rfl, rfl, rfl, rfl⟩ := h
      have q0 := (blk_cell (nP.out).r 0).trans rfl
      have f0 := blk_frozen (nP.out).r 0
      have q1 := (blk_cell (nP.out).r 1).trans rfl
      have f1 := blk_frozen (nP.out).r 1
      have q2 := (blk_cell (nP.out).r 2).trans rfl
      have f2 := blk_frozen (nP.out).r 2
      have q3 := (blk_cell (nP.out).r 3).trans rfl
      have f3 := blk_frozen (nP.out).r 3
      have q4 := (blk_cell (nP.out).r 4).trans rfl
      have f4 := blk_frozen (nP.out).r 4
      have g0 := (blk_cell nP.out.f 0).trans rfl
      have g1 := (blk_cell nP.out.f 1).trans rfl
      have g2 := (blk_cell nP.out.f 2).trans rfl
      have g3 := (blk_cell nP.out.f 3).trans rfl
      have g4 := (blk_cell nP.out.f 4).trans rfl
      go_wp2
      refine bodyPost_ret (results_ct rfl _ _ w.heap.size 44 #[.int .i64 0, .int .i64 0, .int .i64 0, .int .i64 0, .int .i64 0] (0, 0) _ rfl (z2_) Tryz.underlying44 rfl (by kernel_rfl)) rfl ?_
      exact ⟨rfl, z14_⟩
    have da := decide_eq_false c_
    have ea := Aside0.mk c_
    clear c_
    by_cases c_ : vm < 0
    · rw [if_pos (Or.inr (Or.inl c_))] at h
      have db := decide_eq_true c_
      clear c_
      unfold spec_readFix.z at h
      simp only [Option.some.injEq, Prod.mk.injEq] at h
      obtain ⟨rfl, rfl, rfl, rfl, rfl, rfl⟩ := h
      have q0 := (blk_cell (nP.out).r 0).trans rfl
      have f0 := blk_frozen (nP.out).r 0
      have q1 := (blk_cell (nP.out).r 1).trans rfl
      have f1 := blk_frozen (nP.out).r 1
      have q2 := (blk_cell (nP.out).r 2).trans rfl
      have f2 := blk_frozen (nP.out).r 2
      have q3 := (blk_cell (nP.out).r 3).trans rfl
      have f3 := blk_frozen (nP.out).r 3
      have q4 := (blk_cell (nP.out).r 4).trans rfl
      have f4 := blk_frozen (nP.out).r 4
      have g0 := (blk_cell nP.out.f 0).trans rfl
      have g1 := (blk_cell nP.out.f 1).trans rfl
      have g2 := (blk_cell nP.out.f 2).trans rfl
      have g3 := (blk_cell nP.out.f 3).trans rfl
      have g4 := (blk_cell nP.out.f 4).trans rfl
      go_wp2
      refine bodyPost_ret (results_ct rfl _ _ w.heap.size 44 #[.int .i64 0, .int .i64 0, .int .i64 0, .int .i64 0, .int .i64 0] (0, 0) _ rfl (z2_) Tryz.underlying44 rfl (by kernel_rfl)) rfl ?_
      exact ⟨rfl, z14_⟩
    have db := decide_eq_false c_
    have eb := Aside0.mk c_
    clear c_
    by_cases c_ : vs < 0
    · rw [if_pos (Or.inr (Or.inr c_))] at h
      have dc := decide_eq_true c_
      clear c_
      unfold spec_readFix.z at h
      simp only [Option.some.injEq, Prod.mk.injEq] at h
      obtain ⟨rfl, rfl, rfl, rfl, rfl, rfl⟩ := h
      have q0 := (blk_cell (nP.out).r 0).trans rfl
      have f0 := blk_frozen (nP.out).r 0
      have q1 := (blk_cell (nP.out).r 1).trans rfl
      have f1 := blk_frozen (nP.out).r 1
      have q2 := (blk_cell (nP.out).r 2).trans rfl
      have f2 := blk_frozen (nP.out).r 2
      have q3 := (blk_cell (nP.out).r 3).trans rfl
      have f3 := blk_frozen (nP.out).r 3
      have q4 := (blk_cell (nP.out).r 4).trans rfl
      have f4 := blk_frozen (nP.out).r 4
      have g0 := (blk_cell nP.out.f 0).trans rfl
      have g1 := (blk_cell nP.out.f 1).trans rfl
      have g2 := (blk_cell nP.out.f 2).trans rfl
      have g3 := (blk_cell nP.out.f 3).trans rfl
      have g4 := (blk_cell nP.out.f 4).trans rfl
      go_wp2
      refine bodyPost_ret (results_ct rfl _ _ w.heap.size 44 #[.int .i64 0, .int .i64 0, .int .i64 0, .int .i64 0, .int .i64 0] (0, 0) _ rfl (z2_) Tryz.underlying44 rfl (by kernel_rfl)) rfl ?_
      exact ⟨rfl, z14_⟩
    have dc := decide_eq_false c_
    have ec := Aside0.mk c_
    clear c_
    rw [if_neg (by rintro (h | h | h); exact ea.out h; exact eb.out h; exact ec.out h)] at h
    obtain ⟨v, hV, h⟩ := Option.bind_eq_some_iff.mp h
    have HV := Aside0.mk hV
    clear hV ea eb ec
    cases v with
    | false =>
      rw [if_neg (by simp)] at h
      unfold spec_readFix.z at h
      simp only [Option.some.injEq, Prod.mk.injEq] at h
      obtain ⟨rfl, rfl, rfl, rfl, rfl, rfl⟩ := h
      have q0 := (blk_cell (nP.out).r 0).trans rfl
      have f0 := blk_frozen (nP.out).r 0
      have q1 := (blk_cell (nP.out).r 1).trans rfl
      have f1 := blk_frozen (nP.out).r 1
      have q2 := (blk_cell (nP.out).r 2).trans rfl
      have f2 := blk_frozen (nP.out).r 2
      have q3 := (blk_cell (nP.out).r 3).trans rfl
      have f3 := blk_frozen (nP.out).r 3
      have q4 := (blk_cell (nP.out).r 4).trans rfl
      have f4 := blk_frozen (nP.out).r 4
      have g0 := (blk_cell nP.out.f 0).trans rfl
      have g1 := (blk_cell nP.out.f 1).trans rfl
      have g2 := (blk_cell nP.out.f 2).trans rfl
      have g3 := (blk_cell nP.out.f 3).trans rfl
      have g4 := (blk_cell nP.out.f 4).trans rfl
      go_wp2_with (first | (go_at_call 53; (with_reducible refine (spec_validFix.calls vy vo vd sc vn false _ HV.out).mono ?_); rintro _ w1 ⟨rfl, hb⟩; have nN := Aside0.mk (RfP.below nP.out hb); clear nP hb; have nP := nN; clear nN; have q0 := (blk_cell (nP.out).r 0).trans rfl; have f0 := blk_frozen (nP.out).r 0; have q1 := (blk_cell (nP.out).r 1).trans rfl; have f1 := blk_frozen (nP.out).r 1; have q2 := (blk_cell (nP.out).r 2).trans rfl; have f2 := blk_frozen (nP.out).r 2; have q3 := (blk_cell (nP.out).r 3).trans rfl; have f3 := blk_frozen (nP.out).r 3; have q4 := (blk_cell (nP.out).r 4).trans rfl; have f4 := blk_frozen (nP.out).r 4; have g0 := (blk_cell nP.out.f 0).trans rfl; have g1 := (blk_cell nP.out.f 1).trans rfl; have g2 := (blk_cell nP.out.f 2).trans rfl; have g3 := (blk_cell nP.out.f 3).trans rfl; have g4 := (blk_cell nP.out.f 4).trans rfl))
      refine bodyPost_ret (results_ct rfl _ _ w.heap.size 44 #[.int .i64 0, .int .i64 0, .int .i64 0, .int .i64 0, .int .i64 0] (0, 0) _ rfl (z2_) Tryz.underlying44 rfl (by kernel_rfl)) rfl ?_
      exact ⟨rfl, z14_⟩
    | true =>
    rw [if_pos rfl] at h
    obtain ⟨t, hT, h⟩ := Option.bind_eq_some_iff.mp h
    have HT := Aside0.mk hT
    clear hT
    by_cases hc : t.toList = a0.toList
    · rw [if_pos hc] at h
      simp only [Option.some.injEq, Prod.mk.injEq] at h
      obtain ⟨rfl, rfl, rfl, rfl, rfl, rfl⟩ := h
      have hcb : (t.toList == a0.toList) = true := beq_iff_eq.2 hc
      have hcn : (t.toList != a0.toList) = false := by rw [bne, hcb]; rfl
      clear hc
      have q0 := (blk_cell (nP.out).r 0).trans rfl
      have f0 := blk_frozen (nP.out).r 0
      have q1 := (blk_cell (nP.out).r 1).trans rfl
      have f1 := blk_frozen (nP.out).r 1
      have q2 := (blk_cell (nP.out).r 2).trans rfl
      have f2 := blk_frozen (nP.out).r 2
      have q3 := (blk_cell (nP.out).r 3).trans rfl
      have f3 := blk_frozen (nP.out).r 3
      have q4 := (blk_cell (nP.out).r 4).trans rfl
      have f4 := blk_frozen (nP.out).r 4
      have g0 := (blk_cell nP.out.f 0).trans rfl
      have g1 := (blk_cell nP.out.f 1).trans rfl
      have g2 := (blk_cell nP.out.f 2).trans rfl
      have g3 := (blk_cell nP.out.f 3).trans rfl
      have g4 := (blk_cell nP.out.f 4).trans rfl
      go_wp2_with (first | (go_at_call 53; (with_reducible refine (spec_validFix.calls vy vo vd sc vn true _ HV.out).mono ?_); rintro _ w1 ⟨rfl, hb⟩; have nN := Aside0.mk (RfP.below nP.out hb); clear nP hb; have nP := nN; clear nN; have q0 := (blk_cell (nP.out).r 0).trans rfl; have f0 := blk_frozen (nP.out).r 0; have q1 := (blk_cell (nP.out).r 1).trans rfl; have f1 := blk_frozen (nP.out).r 1; have q2 := (blk_cell (nP.out).r 2).trans rfl; have f2 := blk_frozen (nP.out).r 2; have q3 := (blk_cell (nP.out).r 3).trans rfl; have f3 := blk_frozen (nP.out).r 3; have q4 := (blk_cell (nP.out).r 4).trans rfl; have f4 := blk_frozen (nP.out).r 4; have g0 := (blk_cell nP.out.f 0).trans rfl; have g1 := (blk_cell nP.out.f 1).trans rfl; have g2 := (blk_cell nP.out.f 2).trans rfl; have g3 := (blk_cell nP.out.f 3).trans rfl; have g4 := (blk_cell nP.out.f 4).trans rfl) | (go_at_call 82; (with_reducible refine (spec_formatFix.calls k vy vo vd sc vn t _ HT.out).mono ?_); rintro _ w2 ⟨rfl, hb⟩; have nN := Aside0.mk (RfP.below nP.out hb); clear nP hb; have nP := nN; clear nN; have q0 := (blk_cell (nP.out).r 0).trans rfl; have f0 := blk_frozen (nP.out).r 0; have q1 := (blk_cell (nP.out).r 1).trans rfl; have f1 := blk_frozen (nP.out).r 1; have q2 := (blk_cell (nP.out).r 2).trans rfl; have f2 := blk_frozen (nP.out).r 2; have q3 := (blk_cell (nP.out).r 3).trans rfl; have f3 := blk_frozen (nP.out).r 3; have q4 := (blk_cell (nP.out).r 4).trans rfl; have f4 := blk_frozen (nP.out).r 4; have g0 := (blk_cell nP.out.f 0).trans rfl; have g1 := (blk_cell nP.out.f 1).trans rfl; have g2 := (blk_cell nP.out.f 2).trans rfl; have g3 := (blk_cell nP.out.f 3).trans rfl; have g4 := (blk_cell nP.out.f 4).trans rfl))
      refine bodyPost_ret (results_ct rfl _ _ w.heap.size 44 #[.int .i64 vy, .int .i64 vo, .int .i64 vd, .int .i64 sc, .int .i64 vn] (0, 0) _ rfl (by refine blk_put (cs := #[.int .i64 vy, .int .i64 vo, .int .i64 vd, .int .i64 sc, .int .i64 0]) ?_ 4 _ rfl; refine blk_put (cs := #[.int .i64 vy, .int .i64 vo, .int .i64 vd, .int .i64 0, .int .i64 0]) ?_ 3 _ rfl; refine blk_put (cs := #[.int .i64 vy, .int .i64 vo, .int .i64 0, .int .i64 0, .int .i64 0]) ?_ 2 _ rfl; refine blk_put (cs := #[.int .i64 vy, .int .i64 0, .int .i64 0, .int .i64 0, .int .i64 0]) ?_ 1 _ rfl; refine blk_put (cs := #[.int .i64 0, .int .i64 0, .int .i64 0, .int .i64 0, .int .i64 0]) ?_ 0 _ rfl; exact (nP.out).r) Tryz.underlying44 rfl (by kernel_rfl)) rfl ?_
      exact ⟨rfl, z14_⟩
    · rw [if_neg hc] at h
      have hcb : (t.toList == a0.toList) = false := beq_eq_false_iff_ne.2 hc
      have hcn : (t.toList != a0.toList) = true := by rw [bne, hcb]; rfl
      clear hc
      unfold spec_readFix.z at h
      simp only [Option.some.injEq, Prod.mk.injEq] at h
      obtain ⟨rfl, rfl, rfl, rfl, rfl, rfl⟩ := h
      have q0 := (blk_cell (nP.out).r 0).trans rfl
      have f0 := blk_frozen (nP.out).r 0
      have q1 := (blk_cell (nP.out).r 1).trans rfl
      have f1 := blk_frozen (nP.out).r 1
      have q2 := (blk_cell (nP.out).r 2).trans rfl
      have f2 := blk_frozen (nP.out).r 2
      have q3 := (blk_cell (nP.out).r 3).trans rfl
      have f3 := blk_frozen (nP.out).r 3
      have q4 := (blk_cell (nP.out).r 4).trans rfl
      have f4 := blk_frozen (nP.out).r 4
      have g0 := (blk_cell nP.out.f 0).trans rfl
      have g1 := (blk_cell nP.out.f 1).trans rfl
      have g2 := (blk_cell nP.out.f 2).trans rfl
      have g3 := (blk_cell nP.out.f 3).trans rfl
      have g4 := (blk_cell nP.out.f 4).trans rfl
      go_wp2_with (first | (go_at_call 53; (with_reducible refine (spec_validFix.calls vy vo vd sc vn true _ HV.out).mono ?_); rintro _ w1 ⟨rfl, hb⟩; have nN := Aside0.mk (RfP.below nP.out hb); clear nP hb; have nP := nN; clear nN; have q0 := (blk_cell (nP.out).r 0).trans rfl; have f0 := blk_frozen (nP.out).r 0; have q1 := (blk_cell (nP.out).r 1).trans rfl; have f1 := blk_frozen (nP.out).r 1; have q2 := (blk_cell (nP.out).r 2).trans rfl; have f2 := blk_frozen (nP.out).r 2; have q3 := (blk_cell (nP.out).r 3).trans rfl; have f3 := blk_frozen (nP.out).r 3; have q4 := (blk_cell (nP.out).r 4).trans rfl; have f4 := blk_frozen (nP.out).r 4; have g0 := (blk_cell nP.out.f 0).trans rfl; have g1 := (blk_cell nP.out.f 1).trans rfl; have g2 := (blk_cell nP.out.f 2).trans rfl; have g3 := (blk_cell nP.out.f 3).trans rfl; have g4 := (blk_cell nP.out.f 4).trans rfl) | (go_at_call 82; (with_reducible refine (spec_formatFix.calls k vy vo vd sc vn t _ HT.out).mono ?_); rintro _ w2 ⟨rfl, hb⟩; have nN := Aside0.mk (RfP.below nP.out hb); clear nP hb; have nP := nN; clear nN; have q0 := (blk_cell (nP.out).r 0).trans rfl; have f0 := blk_frozen (nP.out).r 0; have q1 := (blk_cell (nP.out).r 1).trans rfl; have f1 := blk_frozen (nP.out).r 1; have q2 := (blk_cell (nP.out).r 2).trans rfl; have f2 := blk_frozen (nP.out).r 2; have q3 := (blk_cell (nP.out).r 3).trans rfl; have f3 := blk_frozen (nP.out).r 3; have q4 := (blk_cell (nP.out).r 4).trans rfl; have f4 := blk_frozen (nP.out).r 4))
      refine bodyPost_ret (results_ct rfl _ _ w.heap.size 44 #[.int .i64 0, .int .i64 0, .int .i64 0, .int .i64 0, .int .i64 0] (0, 0) _ rfl (z2_) Tryz.underlying44 rfl (by kernel_rfl)) rfl ?_
      exact ⟨rfl, z14_⟩

/-! ### spec_ParseFix: function 30 -/
def spec_ParseFix.f (k : Nat) (a0 : ByteArray) : Option (Int × Int × Int × Int × Int × Bool) := (spec_ReadFrame.f k a0).bind fun bt167 => (if bt167.2 = true then ((spec_readFix.f k bt167.1).bind fun bt169 => (some (bt169.1, bt169.2.1, bt169.2.2.1, bt169.2.2.2.1, bt169.2.2.2.2.1, bt169.2.2.2.2.2))) else (some (0, 0, 0, 0, 0, false)))
theorem spec_ParseFix.mono : ∀ a0 k, LeO (spec_ParseFix.f k a0) (spec_ParseFix.f (k + 1) a0) := by
  intro a0 k
  unfold spec_ParseFix.f
  repeat' first
      | (with_reducible exact spec_ReadFrame.mono _ _)
      | (with_reducible exact spec_readFix.mono _ _)
      | (with_reducible exact LeO.refl _)
      | (with_reducible exact LeO.none _)
      | (with_reducible refine LeO.ite ?_ ?_)
      | (with_reducible refine LeO.bind ?_ (fun _ => ?_))
      | exact spec_ReadFrame.mono _ _
      | exact spec_readFix.mono _ _
      | exact LeO.none _
      | refine LeO.ite ?_ ?_
      | refine LeO.bind ?_ (fun _ => ?_)
set_option maxHeartbeats 8000000 in
set_option maxRecDepth 100000 in
theorem spec_ParseFix.calls (k : Nat) (a0 : ByteArray) (r1 : Int) (r2 : Int) (r3 : Int) (r4 : Int) (r5 : Int) (r6 : Bool) (w : World) (h : spec_ParseFix.f k a0 = some (r1, r2, r3, r4, r5, r6)) :
    Calls Tryz.prog 30 #[.string a0] w fun e w' => e = .returned (.tuple #[.agg #[.int .i64 r1, .int .i64 r2, .int .i64 r3, .int .i64 r4, .int .i64 r5], .bool r6]) ∧ Below w.heap.size w w' := by
  have hu44 := Tryz.underlying44
  have HB := Aside0.mk (Below.refl w.heap.size w)
  have H : ((spec_ReadFrame.f k a0).bind fun bt167 => (if bt167.2 = true then ((spec_readFix.f k bt167.1).bind fun bt169 => (some (bt169.1, bt169.2.1, bt169.2.2.1, bt169.2.2.2.1, bt169.2.2.2.2.1, bt169.2.2.2.2.2))) else (some (0, 0, 0, 0, 0, false)))) = some (r1, r2, r3, r4, r5, r6) := h
  clear h
  replace H := Option.bind_eq_some_iff.mp H
  obtain ⟨⟨t167, t168⟩, A20, H⟩ := H
  replace H : (if t168 = true then ((spec_readFix.f k t167).bind fun bt169 => (some (bt169.1, bt169.2.1, bt169.2.2.1, bt169.2.2.2.1, bt169.2.2.2.2.1, bt169.2.2.2.2.2))) else (some (0, 0, 0, 0, 0, false))) = some (r1, r2, r3, r4, r5, r6) := H
  have A2 := Aside0.mk A20
  clear A20
  by_cases c3 : t168 = true
  · subst c3
    have H1 : ((spec_readFix.f k t167).bind fun bt169 => (some (bt169.1, bt169.2.1, bt169.2.2.1, bt169.2.2.2.1, bt169.2.2.2.2.1, bt169.2.2.2.2.2))) = some (r1, r2, r3, r4, r5, r6) := by rw [if_pos rfl] at H; exact H
    clear H
    have H := H1
    clear H1
    replace H := Option.bind_eq_some_iff.mp H
    obtain ⟨⟨t169, t170, t171, t172, t173, t174⟩, A40, H⟩ := H
    replace H : (some (t169, t170, t171, t172, t173, t174)) = some (r1, r2, r3, r4, r5, r6) := H
    have A4 := Aside0.mk A40
    clear A40
    simp only [Option.some.injEq, Prod.mk.injEq] at H
    obtain ⟨rfl, rfl, rfl, rfl, rfl, rfl⟩ := H
    go_enter Tryz.func30, Tryz.ntmps30
    go_wp2_with (first | ((with_reducible refine gate_dst (N := 2) rfl ?_); refine box_event ?hg (N := 2) ?hd (cs := #[.int .i64 0, .int .i64 0, .int .i64 0, .int .i64 0, .int .i64 0]) (t := 44) ?hr ?_; (case hd => rfl); (case hg => rfl); (case hr => first | (go_simp; done) | (go_simp; rfl)); intro gb166 hg w5 hbox hb; have n0_ := Aside0.mk (below_step (z10_) hb); have n1_ := Aside0.mk (hbox); have n2_ := Aside0.mk ((z4_ : w.heap.size ≤ gb166)); have n3_ := Aside0.mk ((z4_ : w.heap.size ≤ gb166)); clear HB; have HB := n0_; have BK166 := n1_; have GW166 := n2_; have GE166 := n3_; clear n0_ n1_ n2_ n3_; clear hb hbox hg) | ((with_reducible refine gate_callee (f := 51) rfl ?_); refine goesL_ (some 8) rfl rfl Tryz.func51 (by kernel_rfl) rfl #[.string a0] rfl (z9_) ?_; (with_reducible refine (spec_ReadFrame.calls k a0 t167 true _ A2.out).mono ?_); rintro e w' ⟨rfl, ⟨nd, rfl⟩⟩; refine ⟨_, rfl, ?_⟩; (try (rw [drewN_self w5]; generalize hq_ : World.drewN w5 _ = w5; have n0_ : Aside0 (w5.heap[gb166]? = some (.cells #[.int .i64 0, .int .i64 0, .int .i64 0, .int .i64 0, .int .i64 0] 44 (0, 0))) := ⟨z8_⟩; have n1_ : Aside0 (Below w.heap.size w w5) := ⟨z3_⟩; clear BK166 HB hq_; have BK166 := n0_; have HB := n1_; clear n0_ n1_)); (try (have hcu166_0 : w5.cell? ⟨gb166, 0, none⟩ = some (.int .i64 0) := (blk_cell BK166.out 0).trans rfl)); (try (have hfu166_0 := blk_frozen BK166.out 0)); (try (have hcu166_1 : w5.cell? ⟨gb166, 1, none⟩ = some (.int .i64 0) := (blk_cell BK166.out 1).trans rfl)); (try (have hfu166_1 := blk_frozen BK166.out 1)); (try (have hcu166_2 : w5.cell? ⟨gb166, 2, none⟩ = some (.int .i64 0) := (blk_cell BK166.out 2).trans rfl)); (try (have hfu166_2 := blk_frozen BK166.out 2)); (try (have hcu166_3 : w5.cell? ⟨gb166, 3, none⟩ = some (.int .i64 0) := (blk_cell BK166.out 3).trans rfl)); (try (have hfu166_3 := blk_frozen BK166.out 3)); (try (have hcu166_4 : w5.cell? ⟨gb166, 4, none⟩ = some (.int .i64 0) := (blk_cell BK166.out 4).trans rfl)); (try (have hfu166_4 := blk_frozen BK166.out 4))) | ((with_reducible refine gate_callee (f := 52) rfl ?_); refine goesL_ (some 15) rfl rfl Tryz.func52 (by kernel_rfl) rfl #[.string t167] rfl (z9_) ?_; (with_reducible refine (spec_readFix.calls k t167 t169 t170 t171 t172 t173 t174 _ A4.out).mono ?_); rintro e w6 ⟨rfl, hb⟩; refine ⟨_, rfl, ?_⟩; have n0_ := Aside0.mk (blk_below (g := gb166) (o := .cells #[.int .i64 0, .int .i64 0, .int .i64 0, .int .i64 0, .int .i64 0] 44 (0, 0)) (z12_) hb); have n1_ := Aside0.mk (below_step (z7_) hb); clear BK166; clear HB; have BK166 := n0_; have HB := n1_; clear n0_ n1_; (try clear hb); (try clear hb2); (try clear hk); (try clear hi); have hcz7_0 : w6.cell? ⟨gb166, 0, none⟩ = some (.int .i64 0) := (blk_cell BK166.out 0).trans rfl; have hcz7_1 : w6.cell? ⟨gb166, 1, none⟩ = some (.int .i64 0) := (blk_cell BK166.out 1).trans rfl; have hcz7_2 : w6.cell? ⟨gb166, 2, none⟩ = some (.int .i64 0) := (blk_cell BK166.out 2).trans rfl; have hcz7_3 : w6.cell? ⟨gb166, 3, none⟩ = some (.int .i64 0) := (blk_cell BK166.out 3).trans rfl; have hcz7_4 : w6.cell? ⟨gb166, 4, none⟩ = some (.int .i64 0) := (blk_cell BK166.out 4).trans rfl; have hfz7_0 := blk_frozen BK166.out 0; have hfz7_1 := blk_frozen BK166.out 1; have hfz7_2 := blk_frozen BK166.out 2; have hfz7_3 := blk_frozen BK166.out 3; have hfz7_4 := blk_frozen BK166.out 4))
    refine bodyPost_ret (results_ct rfl _ _ gb166 44 #[.int .i64 t169, .int .i64 t170, .int .i64 t171, .int .i64 t172, .int .i64 t173] (0, 0) _ rfl (by (with_reducible repeat (first | refine blk_drewN ?_ _ | refine blk_drew ?_ | refine blk_alloc ?_ _)); refine blk_put (cs := #[.int .i64 t169, .int .i64 t170, .int .i64 t171, .int .i64 t172, .int .i64 0]) ?_ 4 _ rfl; (with_reducible repeat (first | refine blk_drewN ?_ _ | refine blk_drew ?_ | refine blk_alloc ?_ _)); refine blk_put (cs := #[.int .i64 t169, .int .i64 t170, .int .i64 t171, .int .i64 0, .int .i64 0]) ?_ 3 _ rfl; (with_reducible repeat (first | refine blk_drewN ?_ _ | refine blk_drew ?_ | refine blk_alloc ?_ _)); refine blk_put (cs := #[.int .i64 t169, .int .i64 t170, .int .i64 0, .int .i64 0, .int .i64 0]) ?_ 2 _ rfl; (with_reducible repeat (first | refine blk_drewN ?_ _ | refine blk_drew ?_ | refine blk_alloc ?_ _)); refine blk_put (cs := #[.int .i64 t169, .int .i64 0, .int .i64 0, .int .i64 0, .int .i64 0]) ?_ 1 _ rfl; (with_reducible repeat (first | refine blk_drewN ?_ _ | refine blk_drew ?_ | refine blk_alloc ?_ _)); refine blk_put (cs := #[.int .i64 0, .int .i64 0, .int .i64 0, .int .i64 0, .int .i64 0]) ?_ 0 _ rfl; (with_reducible repeat (first | refine blk_drewN ?_ _ | refine blk_drew ?_ | refine blk_alloc ?_ _)); exact BK166.out) Tryz.underlying44 rfl (by kernel_rfl)) rfl ?_
    exact ⟨z15_, z7_⟩
  · replace c3 := Bool.eq_false_iff.mpr c3
    subst c3
    have H1 : (some (0, 0, 0, 0, 0, false)) = some (r1, r2, r3, r4, r5, r6) := by rw [if_neg (show ¬ (false = true) by decide)] at H; exact H
    clear H
    have H := H1
    clear H1
    simp only [Option.some.injEq, Prod.mk.injEq] at H
    obtain ⟨rfl, rfl, rfl, rfl, rfl, rfl⟩ := H
    go_enter Tryz.func30, Tryz.ntmps30
    go_wp2_with (first | ((with_reducible refine gate_dst (N := 2) rfl ?_); refine box_event ?hg (N := 2) ?hd (cs := #[.int .i64 0, .int .i64 0, .int .i64 0, .int .i64 0, .int .i64 0]) (t := 44) ?hr ?_; (case hd => rfl); (case hg => rfl); (case hr => first | (go_simp; done) | (go_simp; rfl)); intro gb166 hg w8 hbox hb; have n0_ := Aside0.mk (below_step (z10_) hb); have n1_ := Aside0.mk (hbox); have n2_ := Aside0.mk ((z4_ : w.heap.size ≤ gb166)); have n3_ := Aside0.mk ((z4_ : w.heap.size ≤ gb166)); clear HB; have HB := n0_; have BK166 := n1_; have GW166 := n2_; have GE166 := n3_; clear n0_ n1_ n2_ n3_; clear hb hbox hg) | ((with_reducible refine gate_callee (f := 51) rfl ?_); refine goesL_ (some 8) rfl rfl Tryz.func51 (by kernel_rfl) rfl #[.string a0] rfl (z9_) ?_; (with_reducible refine (spec_ReadFrame.calls k a0 t167 false _ A2.out).mono ?_); rintro e w' ⟨rfl, ⟨nd, rfl⟩⟩; refine ⟨_, rfl, ?_⟩; (try (rw [drewN_self w8]; generalize hq_ : World.drewN w8 _ = w8; have n0_ : Aside0 (w8.heap[gb166]? = some (.cells #[.int .i64 0, .int .i64 0, .int .i64 0, .int .i64 0, .int .i64 0] 44 (0, 0))) := ⟨z8_⟩; have n1_ : Aside0 (Below w.heap.size w w8) := ⟨z3_⟩; clear BK166 HB hq_; have BK166 := n0_; have HB := n1_; clear n0_ n1_)); (try (have hcu166_0 : w8.cell? ⟨gb166, 0, none⟩ = some (.int .i64 0) := (blk_cell BK166.out 0).trans rfl)); (try (have hfu166_0 := blk_frozen BK166.out 0)); (try (have hcu166_1 : w8.cell? ⟨gb166, 1, none⟩ = some (.int .i64 0) := (blk_cell BK166.out 1).trans rfl)); (try (have hfu166_1 := blk_frozen BK166.out 1)); (try (have hcu166_2 : w8.cell? ⟨gb166, 2, none⟩ = some (.int .i64 0) := (blk_cell BK166.out 2).trans rfl)); (try (have hfu166_2 := blk_frozen BK166.out 2)); (try (have hcu166_3 : w8.cell? ⟨gb166, 3, none⟩ = some (.int .i64 0) := (blk_cell BK166.out 3).trans rfl)); (try (have hfu166_3 := blk_frozen BK166.out 3)); (try (have hcu166_4 : w8.cell? ⟨gb166, 4, none⟩ = some (.int .i64 0) := (blk_cell BK166.out 4).trans rfl)); (try (have hfu166_4 := blk_frozen BK166.out 4)); have hcz9_0 : w8.cell? ⟨gb166, 0, none⟩ = some (.int .i64 0) := (blk_cell BK166.out 0).trans rfl; have hcz9_1 : w8.cell? ⟨gb166, 1, none⟩ = some (.int .i64 0) := (blk_cell BK166.out 1).trans rfl; have hcz9_2 : w8.cell? ⟨gb166, 2, none⟩ = some (.int .i64 0) := (blk_cell BK166.out 2).trans rfl; have hcz9_3 : w8.cell? ⟨gb166, 3, none⟩ = some (.int .i64 0) := (blk_cell BK166.out 3).trans rfl; have hcz9_4 : w8.cell? ⟨gb166, 4, none⟩ = some (.int .i64 0) := (blk_cell BK166.out 4).trans rfl; have hfz9_0 := blk_frozen BK166.out 0; have hfz9_1 := blk_frozen BK166.out 1; have hfz9_2 := blk_frozen BK166.out 2; have hfz9_3 := blk_frozen BK166.out 3; have hfz9_4 := blk_frozen BK166.out 4))
    refine bodyPost_ret (results_ct rfl _ _ gb166 44 #[.int .i64 0, .int .i64 0, .int .i64 0, .int .i64 0, .int .i64 0] (0, 0) _ rfl (by (with_reducible repeat (first | refine blk_drewN ?_ _ | refine blk_drew ?_ | refine blk_alloc ?_ _)); refine blk_put (cs := #[.int .i64 0, .int .i64 0, .int .i64 0, .int .i64 0, .int .i64 0]) ?_ 4 _ rfl; (with_reducible repeat (first | refine blk_drewN ?_ _ | refine blk_drew ?_ | refine blk_alloc ?_ _)); refine blk_put (cs := #[.int .i64 0, .int .i64 0, .int .i64 0, .int .i64 0, .int .i64 0]) ?_ 3 _ rfl; (with_reducible repeat (first | refine blk_drewN ?_ _ | refine blk_drew ?_ | refine blk_alloc ?_ _)); refine blk_put (cs := #[.int .i64 0, .int .i64 0, .int .i64 0, .int .i64 0, .int .i64 0]) ?_ 2 _ rfl; (with_reducible repeat (first | refine blk_drewN ?_ _ | refine blk_drew ?_ | refine blk_alloc ?_ _)); refine blk_put (cs := #[.int .i64 0, .int .i64 0, .int .i64 0, .int .i64 0, .int .i64 0]) ?_ 1 _ rfl; (with_reducible repeat (first | refine blk_drewN ?_ _ | refine blk_drew ?_ | refine blk_alloc ?_ _)); refine blk_put (cs := #[.int .i64 0, .int .i64 0, .int .i64 0, .int .i64 0, .int .i64 0]) ?_ 0 _ rfl; (with_reducible repeat (first | refine blk_drewN ?_ _ | refine blk_drew ?_ | refine blk_alloc ?_ _)); exact BK166.out) Tryz.underlying44 rfl (by kernel_rfl)) rfl ?_
    exact ⟨z15_, z7_⟩

end Go.Proofs.YtdggcfpimjdckaaGreatDoor.PFnExactRunSession
