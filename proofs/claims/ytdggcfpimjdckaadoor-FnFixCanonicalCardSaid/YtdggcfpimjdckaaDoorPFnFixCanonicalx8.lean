-- Out of a print of the walks, turned by a program of this session; Lean checks it.
import Derived.Test.YtdggcfpimjdckaaDoorPFnFixCanonicalx0
import Derived.Test.YtdggcfpimjdckaaDoorPFnFixCanonicalx5
import Derived.Test.YtdggcfpimjdckaaDoorPFnFixCanonicalx6
import Derived.Test.YtdggcfpimjdckaaDoorPFnFixCanonicalx7
namespace Go.Proofs.YtdggcfpimjdckaaDoor.PFnFixCanonical
open Go.RowKit Go.Proofs.YtdggcfpimjdckaaDoorW.PrintWords Go.Proofs.YtdggcfpimjdckaaDoorW.PrintLast Go.Proofs.YtdggcfpimjdckaaDoorW.PrintMore
attribute [local go_sem] max2_int min2_int max_two min_two max_three min_three max_four min_four   -- for this text's walks alone
set_option linter.unusedVariables false
set_option linter.unusedSimpArgs false

abbrev bq8_0 : Array Bool := #[true, true, true, true, true, true, true, true, true, true, true, true, true, true, true, true, true, true, true, true, true, true, true, true, true, true, false]
abbrev bq8_1 : Array Bool := #[true, true, true, true, true, true, true, true, true, true, true, true, true, true, true, true, true, true, true, true, true, true, true, true, true, false, false]
abbrev bq8_2 : Array Bool := #[true, true, true, true, true, true, true, true, true, true, true, true, true, true, true, true, true, true, true, true, true, true, true, false, false, true, false]
abbrev bq8_3 : Array Bool := #[true, true, true, true, true, true, true, true, true, true, true, true, true, true, true, true, true, true, true, true, true, true, true, false, false, false, false]
abbrev bq8_4 : Array Bool := #[true, true, true, true, true, true, true, true, true, true, true, false, false, true, true, true, true, true, true, true, true, true, true, false, false, true, false]
abbrev bq8_5 : Array Bool := #[true, true, true, true, true, true, true, true, true, true, true, false, false, true, true, true, true, true, true, true, true, true, true, false, false, false, false]
abbrev bq8_6 : Array Bool := #[true, true, true, true, true, true, true, false, true, true, true, false, false, true, true, true, true, true, true, true, true, true, true, false, false, true, false]
abbrev bq8_7 : Array Bool := #[true, true, true, true, true, true, true, false, true, true, true, false, false, true, true, true, true, true, true, true, true, true, true, false, false, false, false]
abbrev bq8_8 : Array Bool := #[true, true, true, false, true, true, true, false, true, true, true, false, false, true, true, true, true, true, true, true, true, true, true, false, false, true, false]
/-! ### spec_readFix: function 39 -/
def spec_readFix.j0 : Nat → ByteArray → List ByteArray → Bool → Option (Int × Int × Int × Int × Int × Bool)
  | 0, _, _, _ => none
  | k + 1, x0, x4, x26 => if x26 = true then (some (0, 0, 0, 0, 0, false)) else (if 1 < (x4.length : Int) then (if 0 ≤ 2 then (if 2 ≤ ((rdOf ByteArray.empty x4 1).size : Int) then ((spec_readDigits.f k ((rdOf ByteArray.empty x4 1).extract 0 2) 2).bind fun t184 => (if 2 ≤ 4 then (if 4 ≤ ((rdOf ByteArray.empty x4 1).size : Int) then ((spec_readDigits.f k ((rdOf ByteArray.empty x4 1).extract 2 4) 2).bind fun t186 => ((spec_readDigits.f k ((rdOf ByteArray.empty x4 1).extract 4 (rdOf ByteArray.empty x4 1).size) 2).bind fun t188 => (if 4 < (x4.length : Int) then ((spec_readDigits.f k (rdOf ByteArray.empty x4 4) 4).bind fun t190 => (if 3 < (x4.length : Int) then ((spec_readDigits.f k (rdOf ByteArray.empty x4 3) 2).bind fun t192 => (if 2 < (x4.length : Int) then ((spec_readDigits.f k (rdOf ByteArray.empty x4 2) 2).bind fun t194 => (if 5 < (x4.length : Int) then ((spec_readDigits.f k (rdOf ByteArray.empty x4 5) 2).bind fun t196 => (if t184 < 0 then (some (0, 0, 0, 0, 0, false)) else (if t186 < 0 then (some (0, 0, 0, 0, 0, false)) else (if t188 < 0 then (some (0, 0, 0, 0, 0, false)) else ((spec_validFix.f t190 t192 t194 (wrap64 ((wrap64 ((wrap64 (3600 * t184)) + (wrap64 (60 * t186)))) + t188)) t196).bind fun t198 => (if t198 = true then ((spec_formatFix.f k t190 t192 t194 (wrap64 ((wrap64 ((wrap64 (3600 * t184)) + (wrap64 (60 * t186)))) + t188)) t196).bind fun t199 => (if t199.toList = x0.toList then (some (t190, t192, t194, wrap64 ((wrap64 ((wrap64 (3600 * t184)) + (wrap64 (60 * t186)))) + t188), t196, true)) else (some (0, 0, 0, 0, 0, false)))) else (some (0, 0, 0, 0, 0, false)))))))) else (none))) else (none))) else (none))) else (none)))) else (none)) else (none))) else (none)) else (none)) else (none))
def spec_readFix.f (k : Nat) (a0 : ByteArray) : Option (Int × Int × Int × Int × Int × Bool) := (spec_splitAt.f k a0 44).bind fun t178 => (if (t178.length : Int) = 6 then (if 0 < (t178.length : Int) then (if (rdOf ByteArray.empty t178 0).toList = ([70, 73, 88] : List UInt8) then (if 1 < (t178.length : Int) then (spec_readFix.j0 k a0 t178 (((rdOf ByteArray.empty t178 1).size : Int) != 6)) else (none)) else (spec_readFix.j0 k a0 t178 true)) else (none)) else (spec_readFix.j0 k a0 t178 true))
theorem spec_readFix.mono_l : ∀ k, (∀ y0 y1 y2, LeO (spec_readFix.j0 k y0 y1 y2) (spec_readFix.j0 (k + 1) y0 y1 y2))
  | 0 => fun _ _ _ r h => by simp [spec_readFix.j0] at h
  | k + 1 => by
    have ih0 := spec_readFix.mono_l k
    · intro y0 y1 y2
      unfold spec_readFix.j0
      repeat' first
      | (with_reducible exact ih0 _ _ _)
      | (with_reducible exact spec_formatFix.mono _ _ _ _ _ _)
      | (with_reducible exact spec_readDigits.mono _ _ _)
      | (with_reducible exact spec_splitAt.mono _ _ _)
      | (with_reducible exact LeO.refl _)
      | (with_reducible exact LeO.none _)
      | (with_reducible refine LeO.ite ?_ ?_)
      | (with_reducible refine LeO.bind ?_ (fun _ => ?_))
      | exact ih0 _ _ _
      | exact spec_formatFix.mono _ _ _ _ _ _
      | exact spec_readDigits.mono _ _ _
      | exact spec_splitAt.mono _ _ _
      | exact LeO.none _
      | refine LeO.ite ?_ ?_
      | refine LeO.bind ?_ (fun _ => ?_)
theorem spec_readFix.mono : ∀ a0 k, LeO (spec_readFix.f k a0) (spec_readFix.f (k + 1) a0) := by
  intro a0 k
  have ih0 := spec_readFix.mono_l k
  unfold spec_readFix.f
  repeat' first
      | (with_reducible exact ih0 _ _ _)
      | (with_reducible exact spec_formatFix.mono _ _ _ _ _ _)
      | (with_reducible exact spec_readDigits.mono _ _ _)
      | (with_reducible exact spec_splitAt.mono _ _ _)
      | (with_reducible exact LeO.refl _)
      | (with_reducible exact LeO.none _)
      | (with_reducible refine LeO.ite ?_ ?_)
      | (with_reducible refine LeO.bind ?_ (fun _ => ?_))
      | exact ih0 _ _ _
      | exact spec_formatFix.mono _ _ _ _ _ _
      | exact spec_readDigits.mono _ _ _
      | exact spec_splitAt.mono _ _ _
      | exact LeO.none _
      | refine LeO.ite ?_ ?_
      | refine LeO.bind ?_ (fun _ => ?_)
def spec_readFix.T7 : Bool × List (List Nat × List Nat) := (true, [([], []), ([0], [0]), ([1], [1]), ([2], [2]), ([], []), ([4], [4]), ([5], [5]), ([6, 3], [6]), ([], []), ([8], [8]), ([9], [9]), ([10, 7], [10]), ([3, 7, 11], [3, 7, 11]), ([], []), ([13], [13]), ([], []), ([15], [15]), ([14, 16], [14, 16]), ([], []), ([17, 18], [17, 18]), ([], []), ([20], [20]), ([21], [21]), ([22, 11], [22]), ([12, 19, 23], [12, 19, 23]), ([], []), ([25, 24, 23, 0, 1, 2, 3, 4, 5, 6, 7, 8, 9, 10, 11, 12, 13, 14, 15, 16, 17, 18, 19, 20, 21, 22, 23, 24, 25], [24, 25])])
def spec_readFix.B7 : List Nat := [0, 1, 3, 7, 0, 16, 48, 127, 0, 256, 768, 2047, 4095, 0, 8192, 0, 32768, 122880, 0, 516096, 0, 1048576, 3145728, 7344127, 16777215, 0, 67108863]
theorem spec_readFix.tab7 : rtab .any (opsOf Tryd.f39 7) = spec_readFix.T7 := by kernel_rfl
theorem spec_readFix.bits7 : waitsOk spec_readFix.T7.2 spec_readFix.B7 = true := by kernel_rfl
set_option maxHeartbeats 8000000 in
set_option maxRecDepth 100000 in
theorem spec_readFix.calls (k : Nat) (a0 : ByteArray) (r1 : Int) (r2 : Int) (r3 : Int) (r4 : Int) (r5 : Int) (r6 : Bool) (w : World) (h : spec_readFix.f k a0 = some (r1, r2, r3, r4, r5, r6)) :
    Calls Tryd.prog 39 #[.string a0] w fun e w' => e = .returned (.tuple #[.agg #[.int .i64 r1, .int .i64 r2, .int .i64 r3, .int .i64 r4, .int .i64 r5], .bool r6]) ∧ Below w.heap.size w w' := by
  have hu26 := Tryd.underlying26
  have hu24 := Tryd.underlying24
  have HB := Aside0.mk (Below.refl w.heap.size w)
  have H : ((spec_splitAt.f k a0 44).bind fun t178 => (if (t178.length : Int) = 6 then (if 0 < (t178.length : Int) then (if (rdOf ByteArray.empty t178 0).toList = ([70, 73, 88] : List UInt8) then (if 1 < (t178.length : Int) then (spec_readFix.j0 k a0 t178 (((rdOf ByteArray.empty t178 1).size : Int) != 6)) else (none)) else (spec_readFix.j0 k a0 t178 true)) else (none)) else (spec_readFix.j0 k a0 t178 true))) = some (r1, r2, r3, r4, r5, r6) := h
  clear h
  replace H := Option.bind_eq_some_iff.mp H
  obtain ⟨t178, A20, H⟩ := H
  replace H : (if (t178.length : Int) = 6 then (if 0 < (t178.length : Int) then (if (rdOf ByteArray.empty t178 0).toList = ([70, 73, 88] : List UInt8) then (if 1 < (t178.length : Int) then (spec_readFix.j0 k a0 t178 (((rdOf ByteArray.empty t178 1).size : Int) != 6)) else (none)) else (spec_readFix.j0 k a0 t178 true)) else (none)) else (spec_readFix.j0 k a0 t178 true)) = some (r1, r2, r3, r4, r5, r6) := H
  have A2 := Aside0.mk A20
  clear A20
  have HC3 := Aside0.mk H
  clear H
  go_enter Tryd.func39, Tryd.ntmps39
  go_upto_region 2 with (first | ((with_reducible refine gate_dst (N := 2) rfl ?_); (try (refine gate_guard (by rfl) ?_; dsimp only)); refine box_event ?hg (N := 2) ?hd (cs := #[.int .i64 0, .int .i64 0, .int .i64 0, .int .i64 0, .int .i64 0]) (t := 26) ?hr ?_; (case hd => rfl); (case hg => rfl); (case hr => first | (go_simp; done) | (go_simp; rfl)); intro gb177 hg w4 hbox hb; have n0_ := Aside0.mk (below_step (by repeat (first | (with_reducible first | exact HB.out | apply below_alloc | apply pw_below_drewN | apply below_drew1) | exact HB.out)) hb); have n1_ := Aside0.mk (hbox); have n2_ := Aside0.mk ((by rw [hg]; exact (below_size (by repeat (first | (with_reducible first | exact HB.out | apply below_alloc | apply pw_below_drewN | apply below_drew1) | exact HB.out))) : w.heap.size ≤ gb177)); have n3_ := Aside0.mk ((by rw [hg]; exact (below_size (by repeat (first | (with_reducible first | exact HB.out | apply below_alloc | apply pw_below_drewN | apply below_drew1) | exact HB.out))) : w.heap.size ≤ gb177)); clear HB; have HB := n0_; have BK177 := n1_; have GW177 := n2_; have GE177 := n3_; clear n0_ n1_ n2_ n3_; clear hb hbox hg) | ((with_reducible refine gate_callee (f := 59) rfl ?_); refine goesL_ (some 10) rfl rfl Tryd.func59 (by kernel_rfl) rfl #[.string a0, .int .u8 44] rfl (by (try simp only [List.map_toArray, List.map_cons, List.map_nil]); first | done | rfl | (simp only [List.length_drop, List.length_take]; rfl)) ?_; (with_reducible refine (spec_splitAt.calls k a0 44 t178 _ A2.out).mono ?_); rintro e w5 ⟨v179, rfl, ho0, hb⟩; refine ⟨_, rfl, ?_⟩; have n0_ := Aside0.mk (Kd.R_lower ho0 (below_size (by repeat (first | (with_reducible first | exact HB.out | apply below_alloc | apply pw_below_drewN | apply below_drew1 | refine below_set ?_ GE177.out) | exact HB.out)))); have n1_ := Aside0.mk (blk_below (g := gb177) (o := .cells #[.int .i64 0, .int .i64 0, .int .i64 0, .int .i64 0, .int .i64 0] 26 (0, 0)) (by (with_reducible repeat (first | refine blk_drewN ?_ _ | refine blk_drew ?_ | refine blk_alloc ?_ _)); exact BK177.out) hb); have n2_ := Aside0.mk (below_step (by repeat (first | (with_reducible first | exact HB.out | apply below_alloc | apply pw_below_drewN | apply below_drew1 | refine below_set ?_ GE177.out) | exact HB.out)) hb); clear BK177; clear HB; have HO180 := n0_; have BK177 := n1_; have HB := n2_; clear n0_ n1_ n2_; (try clear hb); (try clear hb2); (try clear hk); (try clear hi); (try clear ho0)))
  (try simp only [Act.put, List.setIfInBounds_toArray, List.set_cons_zero, List.set_cons_succ])
  go_cut [26] (fun v26 wc => ∃ (kq : Nat) (x26_2 : Bool), v26 = .bool x26_2 ∧ Aside0 (spec_readFix.j0 kq a0 t178 x26_2 = some (r1, r2, r3, r4, r5, r6)) ∧ Aside0 (kq ≤ k) ∧ Aside0 (Kd.R Kd.string 9 wc w.heap.size (fun _ => True) v179 t178) ∧ Aside0 (wc.heap[gb177]? = some (.cells #[.int .i64 0, .int .i64 0, .int .i64 0, .int .i64 0, .int .i64 0] 26 (0, 0))) ∧ Aside0 (Below w.heap.size w wc))
  case first =>
    have H := HC3.out
    clear HC3
    by_cases c6 : (t178.length : Int) = 6
    · rw [if_pos c6] at H
      have c6b0 : ((t178.length : Int) == 6) = true := beq_iff_eq.mpr c6
      have c6b1 : ((t178.length : Int) != 6) = false := bne_eq_false_iff_eq.mpr c6
      clear c6
      (first | rw [c6b0] | (simp only [i64_w, i32_w]; rw [c6b0]) | skip)
      by_cases c7 : 0 < (t178.length : Int)
      · rw [if_pos c7] at H
        have c7b0 : decide (0 < (t178.length : Int)) = true := decide_eq_true c7
        have c7b1 : decide (0 < t178.length) = true := decide_eq_true (by omega)
        clear c7
        by_cases c8 : (rdOf ByteArray.empty t178 0).toList = ([70, 73, 88] : List UInt8)
        · rw [if_pos c8] at H
          have c8b0 : ((rdOf ByteArray.empty t178 0).toList == ([70, 73, 88] : List UInt8)) = true := beq_iff_eq.mpr c8
          have c8b1 : ((rdOf ByteArray.empty t178 0).toList != ([70, 73, 88] : List UInt8)) = false := bne_eq_false_iff_eq.mpr c8
          clear c8
          by_cases c9 : 1 < (t178.length : Int)
          · rw [if_pos c9] at H
            have c9b0 : decide (1 < (t178.length : Int)) = true := decide_eq_true c9
            have c9b1 : decide (1 < t178.length) = true := decide_eq_true (by omega)
            clear c9
            have H' := Aside0.mk H
            clear H
            obtain ⟨Ao10, co10, eo10⟩ := Kd.R_slice HO180.out
            subst eo10
            have p181 : 0 ≤ (0 : Int) := (by omega)
            have q181 : 0 < (t178.length : Int) := of_decide_eq_true (by first | (with_reducible assumption) | assumption)
            obtain ⟨ad181, e181, hx181_0⟩ := Kd.at_string (Kd.R_reads' HO180.out).2.2 0 p181 q181
            cases e181
            have qi181 : (0 < t178.length) = True := eq_true (by omega)
            (try rw [show ((0 : Int)).toNat = 0 from rfl] at hx181_0)
            (try rw [Addr.add_zero'] at hx181_0)
            replace p181 := eq_true p181
            replace q181 := eq_true q181
            have p182 : 0 ≤ (1 : Int) := (by omega)
            have q182 : 1 < (t178.length : Int) := of_decide_eq_true (by first | (with_reducible assumption) | assumption)
            obtain ⟨ad182, e182, hx182_0⟩ := Kd.at_string (Kd.R_reads' HO180.out).2.2 1 p182 q182
            obtain rfl : ad181 = ad182 := (by injection e182)
            (try simp only [show (1 : Int).toNat = 1 from rfl, Nat.reduceMul, Nat.reduceEqDiff, Go.Addr.add, ↓reduceIte] at hx182_0)
            have qi182 : (1 < t178.length) = True := eq_true (by omega)
            (try rw [show ((1 : Int)).toNat = 1 from rfl] at hx182_0)
            replace p182 := eq_true p182
            replace q182 := eq_true q182
            go_wp2
            go_meet
            case rel => exact ⟨_, ((((rdOf ByteArray.empty t178 1).size : Int) != 6)), (by first | rfl | (simp; done) | (simp [*]; done)), H', ⟨by first | omega | exact Nat.le_refl _⟩, ⟨by (with_reducible repeat (first | apply Kd.R_alloc | apply Kd.R_drewN | apply Kd.R_drew)); exact HO180.out⟩, ⟨by (with_reducible repeat (first | refine blk_drewN ?_ _ | refine blk_drew ?_ | refine blk_alloc ?_ _)); exact BK177.out⟩, ⟨by repeat (first | (with_reducible first | exact HB.out | apply below_alloc | apply pw_below_drewN | apply below_drew1 | refine below_set ?_ GE177.out) | exact HB.out)⟩⟩
          · rw [if_neg c9] at H
            exact absurd H (by simp)
        · rw [if_neg c8] at H
          have c8b0 : ((rdOf ByteArray.empty t178 0).toList == ([70, 73, 88] : List UInt8)) = false := beq_eq_false_iff_ne.mpr c8
          have c8b1 : ((rdOf ByteArray.empty t178 0).toList != ([70, 73, 88] : List UInt8)) = true := bne_iff_ne.mpr c8
          have H' := Aside0.mk H
          clear H
          obtain ⟨Ao11, co11, eo11⟩ := Kd.R_slice HO180.out
          subst eo11
          have p181 : 0 ≤ (0 : Int) := (by omega)
          have q181 : 0 < (t178.length : Int) := of_decide_eq_true (by first | (with_reducible assumption) | assumption)
          obtain ⟨ad181, e181, hx181_0⟩ := Kd.at_string (Kd.R_reads' HO180.out).2.2 0 p181 q181
          cases e181
          have qi181 : (0 < t178.length) = True := eq_true (by omega)
          (try rw [show ((0 : Int)).toNat = 0 from rfl] at hx181_0)
          (try rw [Addr.add_zero'] at hx181_0)
          replace p181 := eq_true p181
          replace q181 := eq_true q181
          go_wp2
          go_meet
          case rel => exact ⟨_, (true), (by first | rfl | (simp; done) | (simp [*]; done)), H', ⟨by first | omega | exact Nat.le_refl _⟩, ⟨by (with_reducible repeat (first | apply Kd.R_alloc | apply Kd.R_drewN | apply Kd.R_drew)); exact HO180.out⟩, ⟨by (with_reducible repeat (first | refine blk_drewN ?_ _ | refine blk_drew ?_ | refine blk_alloc ?_ _)); exact BK177.out⟩, ⟨by repeat (first | (with_reducible first | exact HB.out | apply below_alloc | apply pw_below_drewN | apply below_drew1 | refine below_set ?_ GE177.out) | exact HB.out)⟩⟩
      · rw [if_neg c7] at H
        exact absurd H (by simp)
    · rw [if_neg c6] at H
      have c6b0 : ((t178.length : Int) == 6) = false := beq_eq_false_iff_ne.mpr c6
      have c6b1 : ((t178.length : Int) != 6) = true := bne_iff_ne.mpr c6
      (first | rw [c6b0] | (simp only [i64_w, i32_w]; rw [c6b0]) | skip)
      have H' := Aside0.mk H
      clear H
      obtain ⟨Ao12, co12, eo12⟩ := Kd.R_slice HO180.out
      subst eo12
      go_wp2
      go_meet
      case rel => exact ⟨_, (true), (by first | rfl | (simp; done) | (simp [*]; done)), H', ⟨by first | omega | exact Nat.le_refl _⟩, ⟨by (with_reducible repeat (first | apply Kd.R_alloc | apply Kd.R_drewN | apply Kd.R_drew)); exact HO180.out⟩, ⟨by (with_reducible repeat (first | refine blk_drewN ?_ _ | refine blk_drew ?_ | refine blk_alloc ?_ _)); exact BK177.out⟩, ⟨by repeat (first | (with_reducible first | exact HB.out | apply below_alloc | apply pw_below_drewN | apply below_drew1 | refine below_set ?_ GE177.out) | exact HB.out)⟩⟩
  case rest =>
    clear HC3
    try clear p1
    try clear q1
    try clear hx1
    try clear qi1
    try clear p2
    try clear c3
    try clear c5
    try clear c6
    try clear c6b0
    try clear c6b1
    try clear c7
    try clear c7b0
    try clear c7b1
    try clear c8
    try clear c8b0
    try clear c8b1
    try clear c9
    try clear c9b0
    try clear c9b1
    try clear hx181_0
    try clear hx182_0
    try clear p181
    try clear p182
    try clear q181
    try clear q182
    obtain ⟨kq, x26_2, rfl, HA, HJ2, HO_4, BK177, HB⟩ := hcut
    cases kq with
    | zero => exact absurd HA.out (by simp [spec_readFix.j0])
    | succ kj2 =>
      have H := HA.out
      clear HA
      simp only [spec_readFix.j0] at H
      by_cases c13 : x26_2 = true
      · subst c13
        have H1 : (some (0, 0, 0, 0, 0, false)) = some (r1, r2, r3, r4, r5, r6) := by rw [if_pos rfl] at H; exact H
        clear H
        have H := H1
        clear H1
        simp only [Option.some.injEq, Prod.mk.injEq] at H
        obtain ⟨rfl, rfl, rfl, rfl, rfl, rfl⟩ := H
        have hcz14_0 : wc.cell? ⟨gb177, 0, none⟩ = some (.int .i64 0) := (blk_cell BK177.out 0).trans rfl
        have hcz14_1 : wc.cell? ⟨gb177, 1, none⟩ = some (.int .i64 0) := (blk_cell BK177.out 1).trans rfl
        have hcz14_2 : wc.cell? ⟨gb177, 2, none⟩ = some (.int .i64 0) := (blk_cell BK177.out 2).trans rfl
        have hcz14_3 : wc.cell? ⟨gb177, 3, none⟩ = some (.int .i64 0) := (blk_cell BK177.out 3).trans rfl
        have hcz14_4 : wc.cell? ⟨gb177, 4, none⟩ = some (.int .i64 0) := (blk_cell BK177.out 4).trans rfl
        have hfz14_0 := blk_frozen BK177.out 0
        have hfz14_1 := blk_frozen BK177.out 1
        have hfz14_2 := blk_frozen BK177.out 2
        have hfz14_3 := blk_frozen BK177.out 3
        have hfz14_4 := blk_frozen BK177.out 4
        go_wp2
        refine bodyPost_ret (results_ct rfl _ _ gb177 26 #[.int .i64 0, .int .i64 0, .int .i64 0, .int .i64 0, .int .i64 0] (0, 0) _ rfl (by (with_reducible repeat (first | refine blk_drewN ?_ _ | refine blk_drew ?_ | refine blk_alloc ?_ _)); refine blk_put (cs := #[.int .i64 0, .int .i64 0, .int .i64 0, .int .i64 0, .int .i64 0]) ?_ 4 _ rfl; (with_reducible repeat (first | refine blk_drewN ?_ _ | refine blk_drew ?_ | refine blk_alloc ?_ _)); refine blk_put (cs := #[.int .i64 0, .int .i64 0, .int .i64 0, .int .i64 0, .int .i64 0]) ?_ 3 _ rfl; (with_reducible repeat (first | refine blk_drewN ?_ _ | refine blk_drew ?_ | refine blk_alloc ?_ _)); refine blk_put (cs := #[.int .i64 0, .int .i64 0, .int .i64 0, .int .i64 0, .int .i64 0]) ?_ 2 _ rfl; (with_reducible repeat (first | refine blk_drewN ?_ _ | refine blk_drew ?_ | refine blk_alloc ?_ _)); refine blk_put (cs := #[.int .i64 0, .int .i64 0, .int .i64 0, .int .i64 0, .int .i64 0]) ?_ 1 _ rfl; (with_reducible repeat (first | refine blk_drewN ?_ _ | refine blk_drew ?_ | refine blk_alloc ?_ _)); refine blk_put (cs := #[.int .i64 0, .int .i64 0, .int .i64 0, .int .i64 0, .int .i64 0]) ?_ 0 _ rfl; (with_reducible repeat (first | refine blk_drewN ?_ _ | refine blk_drew ?_ | refine blk_alloc ?_ _)); exact BK177.out) Tryd.underlying26 rfl (by kernel_rfl)) rfl ?_
        exact ⟨by first | rfl | (simp [errW_none, errW_some] <;> rfl) | (simp [*, errW_none, errW_some] <;> rfl), by repeat (first | (with_reducible first | exact HB.out | apply below_alloc | apply pw_below_drewN | apply below_drew1 | refine below_set ?_ GE177.out) | exact HB.out)⟩
      · replace c13 := Bool.eq_false_iff.mpr c13
        subst c13
        have H1 : (if 1 < (t178.length : Int) then (if 0 ≤ 2 then (if 2 ≤ ((rdOf ByteArray.empty t178 1).size : Int) then ((spec_readDigits.f kj2 ((rdOf ByteArray.empty t178 1).extract 0 2) 2).bind fun t184 => (if 2 ≤ 4 then (if 4 ≤ ((rdOf ByteArray.empty t178 1).size : Int) then ((spec_readDigits.f kj2 ((rdOf ByteArray.empty t178 1).extract 2 4) 2).bind fun t186 => ((spec_readDigits.f kj2 ((rdOf ByteArray.empty t178 1).extract 4 (rdOf ByteArray.empty t178 1).size) 2).bind fun t188 => (if 4 < (t178.length : Int) then ((spec_readDigits.f kj2 (rdOf ByteArray.empty t178 4) 4).bind fun t190 => (if 3 < (t178.length : Int) then ((spec_readDigits.f kj2 (rdOf ByteArray.empty t178 3) 2).bind fun t192 => (if 2 < (t178.length : Int) then ((spec_readDigits.f kj2 (rdOf ByteArray.empty t178 2) 2).bind fun t194 => (if 5 < (t178.length : Int) then ((spec_readDigits.f kj2 (rdOf ByteArray.empty t178 5) 2).bind fun t196 => (if t184 < 0 then (some (0, 0, 0, 0, 0, false)) else (if t186 < 0 then (some (0, 0, 0, 0, 0, false)) else (if t188 < 0 then (some (0, 0, 0, 0, 0, false)) else ((spec_validFix.f t190 t192 t194 (wrap64 ((wrap64 ((wrap64 (3600 * t184)) + (wrap64 (60 * t186)))) + t188)) t196).bind fun t198 => (if t198 = true then ((spec_formatFix.f kj2 t190 t192 t194 (wrap64 ((wrap64 ((wrap64 (3600 * t184)) + (wrap64 (60 * t186)))) + t188)) t196).bind fun t199 => (if t199.toList = a0.toList then (some (t190, t192, t194, wrap64 ((wrap64 ((wrap64 (3600 * t184)) + (wrap64 (60 * t186)))) + t188), t196, true)) else (some (0, 0, 0, 0, 0, false)))) else (some (0, 0, 0, 0, 0, false)))))))) else (none))) else (none))) else (none))) else (none)))) else (none)) else (none))) else (none)) else (none)) else (none)) = some (r1, r2, r3, r4, r5, r6) := by rw [if_neg (show ¬ (false = true) by decide)] at H; exact H
        clear H
        have H := H1
        clear H1
        by_cases c15 : 1 < (t178.length : Int)
        · rw [if_pos c15] at H
          have c15b0 : decide (1 < (t178.length : Int)) = true := decide_eq_true c15
          have c15b1 : decide (1 < t178.length) = true := decide_eq_true (by omega)
          clear c15
          by_cases c16 : 0 ≤ 2
          · rw [if_pos c16] at H
            have c16b0 := eq_true c16
            have c16b1 : decide (0 ≤ 2) = true := decide_eq_true c16
            clear c16
            by_cases c17 : 2 ≤ ((rdOf ByteArray.empty t178 1).size : Int)
            · rw [if_pos c17] at H
              have c17b0 := eq_true c17
              have c17b1 : decide (2 ≤ ((rdOf ByteArray.empty t178 1).size : Int)) = true := decide_eq_true c17
              clear c17
              replace H := Option.bind_eq_some_iff.mp H
              obtain ⟨t184, A180, H⟩ := H
              replace H : (if 2 ≤ 4 then (if 4 ≤ ((rdOf ByteArray.empty t178 1).size : Int) then ((spec_readDigits.f kj2 ((rdOf ByteArray.empty t178 1).extract 2 4) 2).bind fun t186 => ((spec_readDigits.f kj2 ((rdOf ByteArray.empty t178 1).extract 4 (rdOf ByteArray.empty t178 1).size) 2).bind fun t188 => (if 4 < (t178.length : Int) then ((spec_readDigits.f kj2 (rdOf ByteArray.empty t178 4) 4).bind fun t190 => (if 3 < (t178.length : Int) then ((spec_readDigits.f kj2 (rdOf ByteArray.empty t178 3) 2).bind fun t192 => (if 2 < (t178.length : Int) then ((spec_readDigits.f kj2 (rdOf ByteArray.empty t178 2) 2).bind fun t194 => (if 5 < (t178.length : Int) then ((spec_readDigits.f kj2 (rdOf ByteArray.empty t178 5) 2).bind fun t196 => (if t184 < 0 then (some (0, 0, 0, 0, 0, false)) else (if t186 < 0 then (some (0, 0, 0, 0, 0, false)) else (if t188 < 0 then (some (0, 0, 0, 0, 0, false)) else ((spec_validFix.f t190 t192 t194 (wrap64 ((wrap64 ((wrap64 (3600 * t184)) + (wrap64 (60 * t186)))) + t188)) t196).bind fun t198 => (if t198 = true then ((spec_formatFix.f kj2 t190 t192 t194 (wrap64 ((wrap64 ((wrap64 (3600 * t184)) + (wrap64 (60 * t186)))) + t188)) t196).bind fun t199 => (if t199.toList = a0.toList then (some (t190, t192, t194, wrap64 ((wrap64 ((wrap64 (3600 * t184)) + (wrap64 (60 * t186)))) + t188), t196, true)) else (some (0, 0, 0, 0, 0, false)))) else (some (0, 0, 0, 0, 0, false)))))))) else (none))) else (none))) else (none))) else (none)))) else (none)) else (none)) = some (r1, r2, r3, r4, r5, r6) := H
              have A18 := Aside0.mk A180
              clear A180
              by_cases c19 : 2 ≤ 4
              · rw [if_pos c19] at H
                have c19b0 := eq_true c19
                have c19b1 : decide (2 ≤ 4) = true := decide_eq_true c19
                clear c19
                by_cases c20 : 4 ≤ ((rdOf ByteArray.empty t178 1).size : Int)
                · rw [if_pos c20] at H
                  have c20b0 := eq_true c20
                  have c20b1 : decide (4 ≤ ((rdOf ByteArray.empty t178 1).size : Int)) = true := decide_eq_true c20
                  clear c20
                  replace H := Option.bind_eq_some_iff.mp H
                  obtain ⟨t186, A210, H⟩ := H
                  replace H : ((spec_readDigits.f kj2 ((rdOf ByteArray.empty t178 1).extract 4 (rdOf ByteArray.empty t178 1).size) 2).bind fun t188 => (if 4 < (t178.length : Int) then ((spec_readDigits.f kj2 (rdOf ByteArray.empty t178 4) 4).bind fun t190 => (if 3 < (t178.length : Int) then ((spec_readDigits.f kj2 (rdOf ByteArray.empty t178 3) 2).bind fun t192 => (if 2 < (t178.length : Int) then ((spec_readDigits.f kj2 (rdOf ByteArray.empty t178 2) 2).bind fun t194 => (if 5 < (t178.length : Int) then ((spec_readDigits.f kj2 (rdOf ByteArray.empty t178 5) 2).bind fun t196 => (if t184 < 0 then (some (0, 0, 0, 0, 0, false)) else (if t186 < 0 then (some (0, 0, 0, 0, 0, false)) else (if t188 < 0 then (some (0, 0, 0, 0, 0, false)) else ((spec_validFix.f t190 t192 t194 (wrap64 ((wrap64 ((wrap64 (3600 * t184)) + (wrap64 (60 * t186)))) + t188)) t196).bind fun t198 => (if t198 = true then ((spec_formatFix.f kj2 t190 t192 t194 (wrap64 ((wrap64 ((wrap64 (3600 * t184)) + (wrap64 (60 * t186)))) + t188)) t196).bind fun t199 => (if t199.toList = a0.toList then (some (t190, t192, t194, wrap64 ((wrap64 ((wrap64 (3600 * t184)) + (wrap64 (60 * t186)))) + t188), t196, true)) else (some (0, 0, 0, 0, 0, false)))) else (some (0, 0, 0, 0, 0, false)))))))) else (none))) else (none))) else (none))) else (none))) = some (r1, r2, r3, r4, r5, r6) := H
                  have A21 := Aside0.mk A210
                  clear A210
                  have c22b0 := eq_true (of_decide_eq_true (by first | (with_reducible assumption) | assumption) : 4 ≤ ((rdOf ByteArray.empty t178 1).size : Int))
                  replace H := Option.bind_eq_some_iff.mp H
                  obtain ⟨t188, A230, H⟩ := H
                  replace H : (if 4 < (t178.length : Int) then ((spec_readDigits.f kj2 (rdOf ByteArray.empty t178 4) 4).bind fun t190 => (if 3 < (t178.length : Int) then ((spec_readDigits.f kj2 (rdOf ByteArray.empty t178 3) 2).bind fun t192 => (if 2 < (t178.length : Int) then ((spec_readDigits.f kj2 (rdOf ByteArray.empty t178 2) 2).bind fun t194 => (if 5 < (t178.length : Int) then ((spec_readDigits.f kj2 (rdOf ByteArray.empty t178 5) 2).bind fun t196 => (if t184 < 0 then (some (0, 0, 0, 0, 0, false)) else (if t186 < 0 then (some (0, 0, 0, 0, 0, false)) else (if t188 < 0 then (some (0, 0, 0, 0, 0, false)) else ((spec_validFix.f t190 t192 t194 (wrap64 ((wrap64 ((wrap64 (3600 * t184)) + (wrap64 (60 * t186)))) + t188)) t196).bind fun t198 => (if t198 = true then ((spec_formatFix.f kj2 t190 t192 t194 (wrap64 ((wrap64 ((wrap64 (3600 * t184)) + (wrap64 (60 * t186)))) + t188)) t196).bind fun t199 => (if t199.toList = a0.toList then (some (t190, t192, t194, wrap64 ((wrap64 ((wrap64 (3600 * t184)) + (wrap64 (60 * t186)))) + t188), t196, true)) else (some (0, 0, 0, 0, 0, false)))) else (some (0, 0, 0, 0, 0, false)))))))) else (none))) else (none))) else (none))) else (none)) = some (r1, r2, r3, r4, r5, r6) := H
                  have A23 := Aside0.mk A230
                  clear A230
                  by_cases c24 : 4 < (t178.length : Int)
                  · rw [if_pos c24] at H
                    have c24b0 : decide (4 < (t178.length : Int)) = true := decide_eq_true c24
                    have c24b1 : decide (4 < t178.length) = true := decide_eq_true (by omega)
                    clear c24
                    replace H := Option.bind_eq_some_iff.mp H
                    obtain ⟨t190, A250, H⟩ := H
                    replace H : (if 3 < (t178.length : Int) then ((spec_readDigits.f kj2 (rdOf ByteArray.empty t178 3) 2).bind fun t192 => (if 2 < (t178.length : Int) then ((spec_readDigits.f kj2 (rdOf ByteArray.empty t178 2) 2).bind fun t194 => (if 5 < (t178.length : Int) then ((spec_readDigits.f kj2 (rdOf ByteArray.empty t178 5) 2).bind fun t196 => (if t184 < 0 then (some (0, 0, 0, 0, 0, false)) else (if t186 < 0 then (some (0, 0, 0, 0, 0, false)) else (if t188 < 0 then (some (0, 0, 0, 0, 0, false)) else ((spec_validFix.f t190 t192 t194 (wrap64 ((wrap64 ((wrap64 (3600 * t184)) + (wrap64 (60 * t186)))) + t188)) t196).bind fun t198 => (if t198 = true then ((spec_formatFix.f kj2 t190 t192 t194 (wrap64 ((wrap64 ((wrap64 (3600 * t184)) + (wrap64 (60 * t186)))) + t188)) t196).bind fun t199 => (if t199.toList = a0.toList then (some (t190, t192, t194, wrap64 ((wrap64 ((wrap64 (3600 * t184)) + (wrap64 (60 * t186)))) + t188), t196, true)) else (some (0, 0, 0, 0, 0, false)))) else (some (0, 0, 0, 0, 0, false)))))))) else (none))) else (none))) else (none)) = some (r1, r2, r3, r4, r5, r6) := H
                    have A25 := Aside0.mk A250
                    clear A250
                    by_cases c26 : 3 < (t178.length : Int)
                    · rw [if_pos c26] at H
                      have c26b0 : decide (3 < (t178.length : Int)) = true := decide_eq_true c26
                      have c26b1 : decide (3 < t178.length) = true := decide_eq_true (by omega)
                      clear c26
                      replace H := Option.bind_eq_some_iff.mp H
                      obtain ⟨t192, A270, H⟩ := H
                      replace H : (if 2 < (t178.length : Int) then ((spec_readDigits.f kj2 (rdOf ByteArray.empty t178 2) 2).bind fun t194 => (if 5 < (t178.length : Int) then ((spec_readDigits.f kj2 (rdOf ByteArray.empty t178 5) 2).bind fun t196 => (if t184 < 0 then (some (0, 0, 0, 0, 0, false)) else (if t186 < 0 then (some (0, 0, 0, 0, 0, false)) else (if t188 < 0 then (some (0, 0, 0, 0, 0, false)) else ((spec_validFix.f t190 t192 t194 (wrap64 ((wrap64 ((wrap64 (3600 * t184)) + (wrap64 (60 * t186)))) + t188)) t196).bind fun t198 => (if t198 = true then ((spec_formatFix.f kj2 t190 t192 t194 (wrap64 ((wrap64 ((wrap64 (3600 * t184)) + (wrap64 (60 * t186)))) + t188)) t196).bind fun t199 => (if t199.toList = a0.toList then (some (t190, t192, t194, wrap64 ((wrap64 ((wrap64 (3600 * t184)) + (wrap64 (60 * t186)))) + t188), t196, true)) else (some (0, 0, 0, 0, 0, false)))) else (some (0, 0, 0, 0, 0, false)))))))) else (none))) else (none)) = some (r1, r2, r3, r4, r5, r6) := H
                      have A27 := Aside0.mk A270
                      clear A270
                      by_cases c28 : 2 < (t178.length : Int)
                      · rw [if_pos c28] at H
                        have c28b0 : decide (2 < (t178.length : Int)) = true := decide_eq_true c28
                        have c28b1 : decide (2 < t178.length) = true := decide_eq_true (by omega)
                        clear c28
                        replace H := Option.bind_eq_some_iff.mp H
                        obtain ⟨t194, A290, H⟩ := H
                        replace H : (if 5 < (t178.length : Int) then ((spec_readDigits.f kj2 (rdOf ByteArray.empty t178 5) 2).bind fun t196 => (if t184 < 0 then (some (0, 0, 0, 0, 0, false)) else (if t186 < 0 then (some (0, 0, 0, 0, 0, false)) else (if t188 < 0 then (some (0, 0, 0, 0, 0, false)) else ((spec_validFix.f t190 t192 t194 (wrap64 ((wrap64 ((wrap64 (3600 * t184)) + (wrap64 (60 * t186)))) + t188)) t196).bind fun t198 => (if t198 = true then ((spec_formatFix.f kj2 t190 t192 t194 (wrap64 ((wrap64 ((wrap64 (3600 * t184)) + (wrap64 (60 * t186)))) + t188)) t196).bind fun t199 => (if t199.toList = a0.toList then (some (t190, t192, t194, wrap64 ((wrap64 ((wrap64 (3600 * t184)) + (wrap64 (60 * t186)))) + t188), t196, true)) else (some (0, 0, 0, 0, 0, false)))) else (some (0, 0, 0, 0, 0, false)))))))) else (none)) = some (r1, r2, r3, r4, r5, r6) := H
                        have A29 := Aside0.mk A290
                        clear A290
                        by_cases c30 : 5 < (t178.length : Int)
                        · rw [if_pos c30] at H
                          have c30b0 : decide (5 < (t178.length : Int)) = true := decide_eq_true c30
                          have c30b1 : decide (5 < t178.length) = true := decide_eq_true (by omega)
                          clear c30
                          replace H := Option.bind_eq_some_iff.mp H
                          obtain ⟨t196, A310, H⟩ := H
                          replace H : (if t184 < 0 then (some (0, 0, 0, 0, 0, false)) else (if t186 < 0 then (some (0, 0, 0, 0, 0, false)) else (if t188 < 0 then (some (0, 0, 0, 0, 0, false)) else ((spec_validFix.f t190 t192 t194 (wrap64 ((wrap64 ((wrap64 (3600 * t184)) + (wrap64 (60 * t186)))) + t188)) t196).bind fun t198 => (if t198 = true then ((spec_formatFix.f kj2 t190 t192 t194 (wrap64 ((wrap64 ((wrap64 (3600 * t184)) + (wrap64 (60 * t186)))) + t188)) t196).bind fun t199 => (if t199.toList = a0.toList then (some (t190, t192, t194, wrap64 ((wrap64 ((wrap64 (3600 * t184)) + (wrap64 (60 * t186)))) + t188), t196, true)) else (some (0, 0, 0, 0, 0, false)))) else (some (0, 0, 0, 0, 0, false))))))) = some (r1, r2, r3, r4, r5, r6) := H
                          have A31 := Aside0.mk A310
                          clear A310
                          have HCW := Aside0.mk H
                          clear H
                          obtain ⟨Ao33, co33, eo33⟩ := Kd.R_slice HO_4.out
                          subst eo33
                          have p183 : 0 ≤ (1 : Int) := (by omega)
                          have q183 : 1 < (t178.length : Int) := of_decide_eq_true (by first | (with_reducible assumption) | assumption)
                          obtain ⟨ad183, e183, hx183_0⟩ := Kd.at_string (Kd.R_reads' HO_4.out).2.2 1 p183 q183
                          cases e183
                          (try simp only [show (1 : Int).toNat = 1 from rfl, Nat.reduceMul, Nat.reduceEqDiff, Go.Addr.add, ↓reduceIte] at hx183_0)
                          have qi183 : (1 < t178.length) = True := eq_true (by omega)
                          (try rw [show ((1 : Int)).toNat = 1 from rfl] at hx183_0)
                          replace p183 := eq_true p183
                          replace q183 := eq_true q183
                          try go_wp2_with (first | ((with_reducible refine gate_callee (f := 60) rfl ?_); refine goesL_ (some 32) rfl rfl Tryd.func60 (by kernel_rfl) rfl #[.string ((rdOf ByteArray.empty t178 1).extract 0 2), .int .i64 2] rfl (by (try simp only [List.map_toArray, List.map_cons, List.map_nil]); first | done | rfl | (simp only [List.length_drop, List.length_take]; rfl)) ?_; (with_reducible refine (spec_readDigits.calls kj2 ((rdOf ByteArray.empty t178 1).extract 0 2) 2 t184 _ A18.out).mono ?_); rintro e w' ⟨rfl, ⟨nd, rfl⟩⟩; refine ⟨_, rfl, ?_⟩; (try (rw [drewN_self wc]; generalize hq_ : World.drewN wc _ = wc; have n0_ : Aside0 (Kd.R Kd.string 9 wc w.heap.size (fun _ => True) (.slice (some ad183) t178.length co33) t178) := ⟨by rw [← hq_]; exact (by (with_reducible repeat (first | apply Kd.R_alloc | apply Kd.R_drewN | apply Kd.R_drew)); exact HO_4.out)⟩; have n1_ : Aside0 (wc.heap[gb177]? = some (.cells #[.int .i64 0, .int .i64 0, .int .i64 0, .int .i64 0, .int .i64 0] 26 (0, 0))) := ⟨by rw [← hq_]; exact (by (with_reducible repeat (first | refine blk_drewN ?_ _ | refine blk_drew ?_ | refine blk_alloc ?_ _)); exact BK177.out)⟩; have n2_ : Aside0 (Below w.heap.size w wc) := ⟨by rw [← hq_]; exact (by repeat (first | (with_reducible first | exact HB.out | apply below_alloc | apply pw_below_drewN | apply below_drew1 | refine below_set ?_ GE177.out) | exact HB.out))⟩; clear HO_4 BK177 HB hq_; have HO_4 := n0_; have BK177 := n1_; have HB := n2_; clear n0_ n1_ n2_)); (try (have hcu177_0 : wc.cell? ⟨gb177, 0, none⟩ = some (.int .i64 0) := (blk_cell BK177.out 0).trans rfl)); (try (have hfu177_0 := blk_frozen BK177.out 0)); (try (have hcu177_1 : wc.cell? ⟨gb177, 1, none⟩ = some (.int .i64 0) := (blk_cell BK177.out 1).trans rfl)); (try (have hfu177_1 := blk_frozen BK177.out 1)); (try (have hcu177_2 : wc.cell? ⟨gb177, 2, none⟩ = some (.int .i64 0) := (blk_cell BK177.out 2).trans rfl)); (try (have hfu177_2 := blk_frozen BK177.out 2)); (try (have hcu177_3 : wc.cell? ⟨gb177, 3, none⟩ = some (.int .i64 0) := (blk_cell BK177.out 3).trans rfl)); (try (have hfu177_3 := blk_frozen BK177.out 3)); (try (have hcu177_4 : wc.cell? ⟨gb177, 4, none⟩ = some (.int .i64 0) := (blk_cell BK177.out 4).trans rfl)); (try (have hfu177_4 := blk_frozen BK177.out 4)); have p185 : 0 ≤ (1 : Int) := (by omega); have q185 : 1 < (t178.length : Int) := of_decide_eq_true (by first | (with_reducible assumption) | assumption); obtain ⟨ad185, e185, hx185_0⟩ := Kd.at_string (Kd.R_reads' HO_4.out).2.2 1 p185 q185; obtain rfl : ad183 = ad185 := (by injection e185); (try simp only [show (1 : Int).toNat = 1 from rfl, Nat.reduceMul, Nat.reduceEqDiff, Go.Addr.add, ↓reduceIte] at hx185_0); have qi185 : (1 < t178.length) = True := eq_true (by omega); (try rw [show ((1 : Int)).toNat = 1 from rfl] at hx185_0); replace p185 := eq_true p185; replace q185 := eq_true q185) | ((with_reducible refine gate_callee (f := 60) rfl ?_); refine goesL_ (some 37) rfl rfl Tryd.func60 (by kernel_rfl) rfl #[.string ((rdOf ByteArray.empty t178 1).extract 2 4), .int .i64 2] rfl (by (try simp only [List.map_toArray, List.map_cons, List.map_nil]); first | done | rfl | (simp only [List.length_drop, List.length_take]; rfl)) ?_; (with_reducible refine (spec_readDigits.calls kj2 ((rdOf ByteArray.empty t178 1).extract 2 4) 2 t186 _ A21.out).mono ?_); rintro e w' ⟨rfl, ⟨nd, rfl⟩⟩; refine ⟨_, rfl, ?_⟩; (try (rw [drewN_self wc]; generalize hq_ : World.drewN wc _ = wc; have n0_ : Aside0 (Kd.R Kd.string 9 wc w.heap.size (fun _ => True) (.slice (some ad183) t178.length co33) t178) := ⟨by rw [← hq_]; exact (by (with_reducible repeat (first | apply Kd.R_alloc | apply Kd.R_drewN | apply Kd.R_drew)); exact HO_4.out)⟩; have n1_ : Aside0 (wc.heap[gb177]? = some (.cells #[.int .i64 0, .int .i64 0, .int .i64 0, .int .i64 0, .int .i64 0] 26 (0, 0))) := ⟨by rw [← hq_]; exact (by (with_reducible repeat (first | refine blk_drewN ?_ _ | refine blk_drew ?_ | refine blk_alloc ?_ _)); exact BK177.out)⟩; have n2_ : Aside0 (Below w.heap.size w wc) := ⟨by rw [← hq_]; exact (by repeat (first | (with_reducible first | exact HB.out | apply below_alloc | apply pw_below_drewN | apply below_drew1 | refine below_set ?_ GE177.out) | exact HB.out))⟩; clear HO_4 BK177 HB hq_; have HO_4 := n0_; have BK177 := n1_; have HB := n2_; clear n0_ n1_ n2_)); (try (have hcu177_0 : wc.cell? ⟨gb177, 0, none⟩ = some (.int .i64 0) := (blk_cell BK177.out 0).trans rfl)); (try (have hfu177_0 := blk_frozen BK177.out 0)); (try (have hcu177_1 : wc.cell? ⟨gb177, 1, none⟩ = some (.int .i64 0) := (blk_cell BK177.out 1).trans rfl)); (try (have hfu177_1 := blk_frozen BK177.out 1)); (try (have hcu177_2 : wc.cell? ⟨gb177, 2, none⟩ = some (.int .i64 0) := (blk_cell BK177.out 2).trans rfl)); (try (have hfu177_2 := blk_frozen BK177.out 2)); (try (have hcu177_3 : wc.cell? ⟨gb177, 3, none⟩ = some (.int .i64 0) := (blk_cell BK177.out 3).trans rfl)); (try (have hfu177_3 := blk_frozen BK177.out 3)); (try (have hcu177_4 : wc.cell? ⟨gb177, 4, none⟩ = some (.int .i64 0) := (blk_cell BK177.out 4).trans rfl)); (try (have hfu177_4 := blk_frozen BK177.out 4)); have p187 : 0 ≤ (1 : Int) := (by omega); have q187 : 1 < (t178.length : Int) := of_decide_eq_true (by first | (with_reducible assumption) | assumption); obtain ⟨ad187, e187, hx187_0⟩ := Kd.at_string (Kd.R_reads' HO_4.out).2.2 1 p187 q187; obtain rfl : ad183 = ad187 := (by injection e187); (try simp only [show (1 : Int).toNat = 1 from rfl, Nat.reduceMul, Nat.reduceEqDiff, Go.Addr.add, ↓reduceIte] at hx187_0); have qi187 : (1 < t178.length) = True := eq_true (by omega); (try rw [show ((1 : Int)).toNat = 1 from rfl] at hx187_0); replace p187 := eq_true p187; replace q187 := eq_true q187) | ((with_reducible refine gate_callee (f := 60) rfl ?_); refine goesL_ (some 42) rfl rfl Tryd.func60 (by kernel_rfl) rfl #[.string ((rdOf ByteArray.empty t178 1).extract 4 (rdOf ByteArray.empty t178 1).size), .int .i64 2] rfl (by (try simp only [List.map_toArray, List.map_cons, List.map_nil]); first | done | rfl | (simp only [List.length_drop, List.length_take]; rfl)) ?_; (with_reducible refine (spec_readDigits.calls kj2 ((rdOf ByteArray.empty t178 1).extract 4 (rdOf ByteArray.empty t178 1).size) 2 t188 _ A23.out).mono ?_); rintro e w' ⟨rfl, ⟨nd, rfl⟩⟩; refine ⟨_, rfl, ?_⟩; (try (rw [drewN_self wc]; generalize hq_ : World.drewN wc _ = wc; have n0_ : Aside0 (Kd.R Kd.string 9 wc w.heap.size (fun _ => True) (.slice (some ad183) t178.length co33) t178) := ⟨by rw [← hq_]; exact (by (with_reducible repeat (first | apply Kd.R_alloc | apply Kd.R_drewN | apply Kd.R_drew)); exact HO_4.out)⟩; have n1_ : Aside0 (wc.heap[gb177]? = some (.cells #[.int .i64 0, .int .i64 0, .int .i64 0, .int .i64 0, .int .i64 0] 26 (0, 0))) := ⟨by rw [← hq_]; exact (by (with_reducible repeat (first | refine blk_drewN ?_ _ | refine blk_drew ?_ | refine blk_alloc ?_ _)); exact BK177.out)⟩; have n2_ : Aside0 (Below w.heap.size w wc) := ⟨by rw [← hq_]; exact (by repeat (first | (with_reducible first | exact HB.out | apply below_alloc | apply pw_below_drewN | apply below_drew1 | refine below_set ?_ GE177.out) | exact HB.out))⟩; clear HO_4 BK177 HB hq_; have HO_4 := n0_; have BK177 := n1_; have HB := n2_; clear n0_ n1_ n2_)); (try (have hcu177_0 : wc.cell? ⟨gb177, 0, none⟩ = some (.int .i64 0) := (blk_cell BK177.out 0).trans rfl)); (try (have hfu177_0 := blk_frozen BK177.out 0)); (try (have hcu177_1 : wc.cell? ⟨gb177, 1, none⟩ = some (.int .i64 0) := (blk_cell BK177.out 1).trans rfl)); (try (have hfu177_1 := blk_frozen BK177.out 1)); (try (have hcu177_2 : wc.cell? ⟨gb177, 2, none⟩ = some (.int .i64 0) := (blk_cell BK177.out 2).trans rfl)); (try (have hfu177_2 := blk_frozen BK177.out 2)); (try (have hcu177_3 : wc.cell? ⟨gb177, 3, none⟩ = some (.int .i64 0) := (blk_cell BK177.out 3).trans rfl)); (try (have hfu177_3 := blk_frozen BK177.out 3)); (try (have hcu177_4 : wc.cell? ⟨gb177, 4, none⟩ = some (.int .i64 0) := (blk_cell BK177.out 4).trans rfl)); (try (have hfu177_4 := blk_frozen BK177.out 4))))
                          have n0_ := Aside0.mk (Kd.R_drew HO_4.out)
                          have n1_ := Aside0.mk (blk_drew BK177.out)
                          have n2_ := Aside0.mk (below_drew1 HB.out)
                          clear HO_4
                          clear BK177
                          clear HB
                          have HO_4 := n0_
                          have BK177 := n1_
                          have HB := n2_
                          clear n0_ n1_ n2_
                          have p189 : 0 ≤ (4 : Int) := (by omega)
                          have q189 : 4 < (t178.length : Int) := of_decide_eq_true (by first | (with_reducible assumption) | assumption)
                          obtain ⟨ad189, e189, hx189_0⟩ := Kd.at_string (Kd.R_reads' HO_4.out).2.2 4 p189 q189
                          obtain rfl : ad183 = ad189 := (by injection e189)
                          (try simp only [show (4 : Int).toNat = 4 from rfl, Nat.reduceMul, Nat.reduceEqDiff, Go.Addr.add, ↓reduceIte] at hx189_0)
                          have qi189 : (4 < t178.length) = True := eq_true (by omega)
                          (try rw [show ((4 : Int)).toNat = 4 from rfl] at hx189_0)
                          replace p189 := eq_true p189
                          replace q189 := eq_true q189
                          have p191 : 0 ≤ (3 : Int) := (by omega)
                          have q191 : 3 < (t178.length : Int) := of_decide_eq_true (by first | (with_reducible assumption) | assumption)
                          obtain ⟨ad191, e191, hx191_0⟩ := Kd.at_string (Kd.R_reads' HO_4.out).2.2 3 p191 q191
                          obtain rfl : ad183 = ad191 := (by injection e191)
                          (try simp only [show (3 : Int).toNat = 3 from rfl, Nat.reduceMul, Nat.reduceEqDiff, Go.Addr.add, ↓reduceIte] at hx191_0)
                          have qi191 : (3 < t178.length) = True := eq_true (by omega)
                          (try rw [show ((3 : Int)).toNat = 3 from rfl] at hx191_0)
                          replace p191 := eq_true p191
                          replace q191 := eq_true q191
                          have p193 : 0 ≤ (2 : Int) := (by omega)
                          have q193 : 2 < (t178.length : Int) := of_decide_eq_true (by first | (with_reducible assumption) | assumption)
                          obtain ⟨ad193, e193, hx193_0⟩ := Kd.at_string (Kd.R_reads' HO_4.out).2.2 2 p193 q193
                          obtain rfl : ad183 = ad193 := (by injection e193)
                          (try simp only [show (2 : Int).toNat = 2 from rfl, Nat.reduceMul, Nat.reduceEqDiff, Go.Addr.add, ↓reduceIte] at hx193_0)
                          have qi193 : (2 < t178.length) = True := eq_true (by omega)
                          (try rw [show ((2 : Int)).toNat = 2 from rfl] at hx193_0)
                          replace p193 := eq_true p193
                          replace q193 := eq_true q193
                          have p195 : 0 ≤ (5 : Int) := (by omega)
                          have q195 : 5 < (t178.length : Int) := of_decide_eq_true (by first | (with_reducible assumption) | assumption)
                          obtain ⟨ad195, e195, hx195_0⟩ := Kd.at_string (Kd.R_reads' HO_4.out).2.2 5 p195 q195
                          obtain rfl : ad183 = ad195 := (by injection e195)
                          (try simp only [show (5 : Int).toNat = 5 from rfl, Nat.reduceMul, Nat.reduceEqDiff, Go.Addr.add, ↓reduceIte] at hx195_0)
                          have qi195 : (5 < t178.length) = True := eq_true (by omega)
                          (try rw [show ((5 : Int)).toNat = 5 from rfl] at hx195_0)
                          replace p195 := eq_true p195
                          replace q195 := eq_true q195
                          refine start_ (n := 27) (S := fun w' => w'.cell? ⟨ad183.block, ad183.off + 4, none⟩ = some (.string (rdOf ByteArray.empty t178 4)) ∧ w'.cell? ⟨ad183.block, ad183.off + 3, none⟩ = some (.string (rdOf ByteArray.empty t178 3)) ∧ w'.cell? ⟨ad183.block, ad183.off + 2, none⟩ = some (.string (rdOf ByteArray.empty t178 2)) ∧ w'.cell? ⟨ad183.block, ad183.off + 5, none⟩ = some (.string (rdOf ByteArray.empty t178 5))) (ds := []) #[false, false, false, false, false, false, false, false, false, false, false, false, false, false, false, false, false, false, false, false, false, false, false, false, false, false, false] (by kernel_rfl) rfl rfl ⟨hx189_0, hx191_0, hx193_0, hx195_0⟩ (fun hHeld => ?_); refine with_tabW spec_readFix.tab7 spec_readFix.bits7 (fun HT_ HW_ => ?_)
                          generalize wc.drew = w34 at HO_4 BK177 HB hx189_0 hx191_0 hx193_0 hx195_0 hHeld ⊢
                          refine pure_ (i := 0) (N := some 43) (v := ?_) (a' := ?_) #[true, false, false, false, false, false, false, false, false, false, false, false, false, false, false, false, false, false, false, false, false, false, false, false, false, false, false] rfl rfl (any_of HT_.out (by kernel_rfl)) (fun _ _ _ h => h) (Or.inl ⟨by rfl, ?_⟩) ?_ ?_
                          rotate_left
                          · intro w'
                            go_simp
                            with_reducible rfl
                          rotate_left
                          · simp only [Act.put, List.setIfInBounds_toArray, List.set_cons_zero, List.set_cons_succ, i64_w, i32_w]
                            rfl
                          refine pure_ (i := 1) (N := some 44) (v := ?_) (a' := ?_) #[true, true, false, false, false, false, false, false, false, false, false, false, false, false, false, false, false, false, false, false, false, false, false, false, false, false, false] rfl rfl (any_of HT_.out (by kernel_rfl)) (fun _ _ _ h => h) (Or.inl ⟨by rfl, ?_⟩) ?_ ?_
                          rotate_left
                          · intro w'
                            go_simp
                            with_reducible rfl
                          rotate_left
                          · simp only [Act.put, List.setIfInBounds_toArray, List.set_cons_zero, List.set_cons_succ, i64_w, i32_w]
                            rfl
                          refine pure_ (i := 4) (N := some 47) (v := ?_) (a' := ?_) #[true, true, false, false, true, false, false, false, false, false, false, false, false, false, false, false, false, false, false, false, false, false, false, false, false, false, false] rfl rfl (any_of HT_.out (by kernel_rfl)) (fun _ _ _ h => h) (Or.inl ⟨by rfl, ?_⟩) ?_ ?_
                          rotate_left
                          · intro w'
                            go_simp
                            with_reducible rfl
                          rotate_left
                          · simp only [Act.put, List.setIfInBounds_toArray, List.set_cons_zero, List.set_cons_succ, i64_w, i32_w]
                            rfl
                          refine pure_ (i := 5) (N := some 48) (v := ?_) (a' := ?_) #[true, true, false, false, true, true, false, false, false, false, false, false, false, false, false, false, false, false, false, false, false, false, false, false, false, false, false] rfl rfl (any_of HT_.out (by kernel_rfl)) (fun _ _ _ h => h) (Or.inl ⟨by rfl, ?_⟩) ?_ ?_
                          rotate_left
                          · intro w'
                            go_simp
                            with_reducible rfl
                          rotate_left
                          · simp only [Act.put, List.setIfInBounds_toArray, List.set_cons_zero, List.set_cons_succ, i64_w, i32_w]
                            rfl
                          refine pure_ (i := 8) (N := some 51) (v := ?_) (a' := ?_) #[true, true, false, false, true, true, false, false, true, false, false, false, false, false, false, false, false, false, false, false, false, false, false, false, false, false, false] rfl rfl (any_of HT_.out (by kernel_rfl)) (fun _ _ _ h => h) (Or.inl ⟨by rfl, ?_⟩) ?_ ?_
                          rotate_left
                          · intro w'
                            go_simp
                            with_reducible rfl
                          rotate_left
                          · simp only [Act.put, List.setIfInBounds_toArray, List.set_cons_zero, List.set_cons_succ, i64_w, i32_w]
                            rfl
                          refine pure_ (i := 9) (N := some 52) (v := ?_) (a' := ?_) #[true, true, false, false, true, true, false, false, true, true, false, false, false, false, false, false, false, false, false, false, false, false, false, false, false, false, false] rfl rfl (any_of HT_.out (by kernel_rfl)) (fun _ _ _ h => h) (Or.inl ⟨by rfl, ?_⟩) ?_ ?_
                          rotate_left
                          · intro w'
                            go_simp
                            with_reducible rfl
                          rotate_left
                          · simp only [Act.put, List.setIfInBounds_toArray, List.set_cons_zero, List.set_cons_succ, i64_w, i32_w]
                            rfl
                          refine pure_ (i := 13) (N := some 56) (v := ?_) (a' := ?_) #[true, true, false, false, true, true, false, false, true, true, false, false, false, true, false, false, false, false, false, false, false, false, false, false, false, false, false] rfl rfl (any_of HT_.out (by kernel_rfl)) (fun _ _ _ h => h) (Or.inl ⟨by rfl, ?_⟩) ?_ ?_
                          rotate_left
                          · intro w'
                            go_simp
                            with_reducible rfl
                          rotate_left
                          · simp only [Act.put, List.setIfInBounds_toArray, List.set_cons_zero, List.set_cons_succ, i64_w, i32_w]
                            rfl
                          refine pure_ (i := 14) (N := some 57) (v := ?_) (a' := ?_) #[true, true, false, false, true, true, false, false, true, true, false, false, false, true, true, false, false, false, false, false, false, false, false, false, false, false, false] rfl rfl (any_of HT_.out (by kernel_rfl)) (fun _ _ _ h => h) (Or.inl ⟨by rfl, ?_⟩) ?_ ?_
                          rotate_left
                          · intro w'
                            go_simp
                            with_reducible rfl
                          rotate_left
                          · simp only [Act.put, List.setIfInBounds_toArray, List.set_cons_zero, List.set_cons_succ, i64_w, i32_w]
                            rfl
                          refine pure_ (i := 15) (N := some 58) (v := ?_) (a' := ?_) #[true, true, false, false, true, true, false, false, true, true, false, false, false, true, true, true, false, false, false, false, false, false, false, false, false, false, false] rfl rfl (any_of HT_.out (by kernel_rfl)) (fun _ _ _ h => h) (Or.inl ⟨by rfl, ?_⟩) ?_ ?_
                          rotate_left
                          · intro w'
                            go_simp
                            with_reducible rfl
                          rotate_left
                          · simp only [Act.put, List.setIfInBounds_toArray, List.set_cons_zero, List.set_cons_succ, i64_w, i32_w]
                            rfl
                          refine pure_ (i := 16) (N := some 59) (v := ?_) (a' := ?_) #[true, true, false, false, true, true, false, false, true, true, false, false, false, true, true, true, true, false, false, false, false, false, false, false, false, false, false] rfl rfl (any_of HT_.out (by kernel_rfl)) (fun _ _ _ h => h) (Or.inl ⟨by rfl, ?_⟩) ?_ ?_
                          rotate_left
                          · intro w'
                            go_simp
                            with_reducible rfl
                          rotate_left
                          · simp only [Act.put, List.setIfInBounds_toArray, List.set_cons_zero, List.set_cons_succ, i64_w, i32_w]
                            rfl
                          refine pure_ (i := 17) (N := some 60) (v := ?_) (a' := ?_) #[true, true, false, false, true, true, false, false, true, true, false, false, false, true, true, true, true, true, false, false, false, false, false, false, false, false, false] rfl rfl (any_of HT_.out (by kernel_rfl)) (fun _ _ _ h => h) (Or.inl ⟨by rfl, ?_⟩) ?_ ?_
                          rotate_left
                          · intro w'
                            go_simp
                            with_reducible rfl
                          rotate_left
                          · simp only [Act.put, List.setIfInBounds_toArray, List.set_cons_zero, List.set_cons_succ, i64_w, i32_w]
                            rfl
                          refine pure_ (i := 18) (N := some 61) (v := ?_) (a' := ?_) #[true, true, false, false, true, true, false, false, true, true, false, false, false, true, true, true, true, true, true, false, false, false, false, false, false, false, false] rfl rfl (any_of HT_.out (by kernel_rfl)) (fun _ _ _ h => h) (Or.inl ⟨by rfl, ?_⟩) ?_ ?_
                          rotate_left
                          · intro w'
                            go_simp
                            with_reducible rfl
                          rotate_left
                          · simp only [Act.put, List.setIfInBounds_toArray, List.set_cons_zero, List.set_cons_succ, i64_w, i32_w]
                            rfl
                          refine pure_ (i := 19) (N := some 62) (v := ?_) (a' := ?_) #[true, true, false, false, true, true, false, false, true, true, false, false, false, true, true, true, true, true, true, true, false, false, false, false, false, false, false] rfl rfl (any_of HT_.out (by kernel_rfl)) (fun _ _ _ h => h) (Or.inl ⟨by rfl, ?_⟩) ?_ ?_
                          rotate_left
                          · intro w'
                            go_simp
                            with_reducible rfl
                          rotate_left
                          · simp only [Act.put, List.setIfInBounds_toArray, List.set_cons_zero, List.set_cons_succ, i64_w, i32_w]
                            rfl
                          refine pure_ (i := 20) (N := some 63) (v := ?_) (a' := ?_) #[true, true, false, false, true, true, false, false, true, true, false, false, false, true, true, true, true, true, true, true, true, false, false, false, false, false, false] rfl rfl (any_of HT_.out (by kernel_rfl)) (fun _ _ _ h => h) (Or.inl ⟨by rfl, ?_⟩) ?_ ?_
                          rotate_left
                          · intro w'
                            go_simp
                            with_reducible rfl
                          rotate_left
                          · simp only [Act.put, List.setIfInBounds_toArray, List.set_cons_zero, List.set_cons_succ, i64_w, i32_w]
                            rfl
                          refine pure_ (i := 21) (N := some 64) (v := ?_) (a' := ?_) #[true, true, false, false, true, true, false, false, true, true, false, false, false, true, true, true, true, true, true, true, true, true, false, false, false, false, false] rfl rfl (any_of HT_.out (by kernel_rfl)) (fun _ _ _ h => h) (Or.inl ⟨by rfl, ?_⟩) ?_ ?_
                          rotate_left
                          · intro w'
                            go_simp
                            with_reducible rfl
                          rotate_left
                          · simp only [Act.put, List.setIfInBounds_toArray, List.set_cons_zero, List.set_cons_succ, i64_w, i32_w]
                            rfl
                          refine take_ (i := 2) (N := some 45) (v := ?_) (a' := ?_) #[true, true, true, false, true, true, false, false, true, true, false, false, false, true, true, true, true, true, true, true, true, true, false, false, false, false, false] rfl rfl (take_ofW HT_.out HW_.out (by kernel_rfl)) (fun _ _ _ h => h) (Or.inl ⟨by rfl, ?_⟩) hHeld ?_ ?_
                          rotate_left
                          · rintro w' ⟨s0, s1, s2, s3⟩
                            go_simp
                            with_reducible rfl
                          rotate_left
                          · simp only [Act.put, List.setIfInBounds_toArray, List.set_cons_zero, List.set_cons_succ, i64_w, i32_w]
                            rfl
                          refine take_ (i := 6) (N := some 49) (v := ?_) (a' := ?_) #[true, true, true, false, true, true, true, false, true, true, false, false, false, true, true, true, true, true, true, true, true, true, false, false, false, false, false] rfl rfl (take_ofW HT_.out HW_.out (by kernel_rfl)) (fun _ _ _ h => h) (Or.inl ⟨by rfl, ?_⟩) hHeld ?_ ?_
                          rotate_left
                          · rintro w' ⟨s0, s1, s2, s3⟩
                            go_simp
                            with_reducible rfl
                          rotate_left
                          · simp only [Act.put, List.setIfInBounds_toArray, List.set_cons_zero, List.set_cons_succ, i64_w, i32_w]
                            rfl
                          refine take_ (i := 10) (N := some 53) (v := ?_) (a' := ?_) #[true, true, true, false, true, true, true, false, true, true, true, false, false, true, true, true, true, true, true, true, true, true, false, false, false, false, false] rfl rfl (take_ofW HT_.out HW_.out (by kernel_rfl)) (fun _ _ _ h => h) (Or.inl ⟨by rfl, ?_⟩) hHeld ?_ ?_
                          rotate_left
                          · rintro w' ⟨s0, s1, s2, s3⟩
                            go_simp
                            with_reducible rfl
                          rotate_left
                          · simp only [Act.put, List.setIfInBounds_toArray, List.set_cons_zero, List.set_cons_succ, i64_w, i32_w]
                            rfl
                          refine take_ (i := 22) (N := some 65) (v := ?_) (a' := ?_) #[true, true, true, false, true, true, true, false, true, true, true, false, false, true, true, true, true, true, true, true, true, true, true, false, false, false, false] rfl rfl (take_ofW HT_.out HW_.out (by kernel_rfl)) (fun _ _ _ h => h) (Or.inl ⟨by rfl, ?_⟩) hHeld ?_ ?_
                          rotate_left
                          · rintro w' ⟨s0, s1, s2, s3⟩
                            go_simp
                            with_reducible rfl
                          rotate_left
                          · simp only [Act.put, List.setIfInBounds_toArray, List.set_cons_zero, List.set_cons_succ, i64_w, i32_w]
                            rfl
                          refine join_ (σ := Nat) 1 bq8_0 (fun s_ => [(46, .int .i64 t190), (50, .int .i64 t192), (54, .int .i64 t194), (66, .int .i64 t196), (8, .pointer (some ⟨s_, 0, none⟩)), (55, .agg #[.int .i64 t190, .int .i64 t192, .int .i64 t194]), (67, .agg #[.int .i64 t190, .int .i64 t192, .int .i64 t194, .int .i64 (wrap64 ((wrap64 ((wrap64 (3600 * t184)) + (wrap64 (60 * t186)))) + t188)), .int .i64 t196])]) (fun s_ w' => (w'.cell? ⟨ad183.block, ad183.off + 4, none⟩ = some (.string (rdOf ByteArray.empty t178 4)) ∧ w'.cell? ⟨ad183.block, ad183.off + 3, none⟩ = some (.string (rdOf ByteArray.empty t178 3)) ∧ w'.cell? ⟨ad183.block, ad183.off + 2, none⟩ = some (.string (rdOf ByteArray.empty t178 2)) ∧ w'.cell? ⟨ad183.block, ad183.off + 5, none⟩ = some (.string (rdOf ByteArray.empty t178 5))) ∧ (Kd.R Kd.string 9 w' w.heap.size (fun _ => True) (.slice (some ad183) t178.length co33) t178) ∧ (w'.heap[gb177]? = some (.cells #[.int .i64 0, .int .i64 0, .int .i64 0, .int .i64 0, .int .i64 0] 26 (0, 0))) ∧ (w'.heap[s_]? = some (.cells #[.int .i64 0, .int .i64 0, .int .i64 0, .int .i64 0, .int .i64 0] 26 (0, 0))) ∧ (w.heap.size ≤ s_) ∧ (w.heap.size ≤ s_) ∧ (gb177 ≠ s_) ∧ (s_ ≠ gb177) ∧ (Below w.heap.size w w')) ?_ ?_
                          rotate_left
                          · intro hJ3_7_11_23_25
                            refine join_ (σ := Unit) 2 bq8_1 (fun s_ => [(46, .int .i64 t190), (50, .int .i64 t192), (54, .int .i64 t194), (66, .int .i64 t196), (55, .agg #[.int .i64 t190, .int .i64 t192, .int .i64 t194]), (67, .agg #[.int .i64 t190, .int .i64 t192, .int .i64 t194, .int .i64 (wrap64 ((wrap64 ((wrap64 (3600 * t184)) + (wrap64 (60 * t186)))) + t188)), .int .i64 t196])]) (fun s_ w' => (w'.cell? ⟨ad183.block, ad183.off + 4, none⟩ = some (.string (rdOf ByteArray.empty t178 4)) ∧ w'.cell? ⟨ad183.block, ad183.off + 3, none⟩ = some (.string (rdOf ByteArray.empty t178 3)) ∧ w'.cell? ⟨ad183.block, ad183.off + 2, none⟩ = some (.string (rdOf ByteArray.empty t178 2)) ∧ w'.cell? ⟨ad183.block, ad183.off + 5, none⟩ = some (.string (rdOf ByteArray.empty t178 5))) ∧ (Kd.R Kd.string 9 w' w.heap.size (fun _ => True) (.slice (some ad183) t178.length co33) t178) ∧ (w'.heap[gb177]? = some (.cells #[.int .i64 0, .int .i64 0, .int .i64 0, .int .i64 0, .int .i64 0] 26 (0, 0))) ∧ (Below w.heap.size w w')) ?_ ?_
                            rotate_left
                            · intro hJ3_7_11_23
                              refine join_ (σ := Nat) 3 bq8_2 (fun s_ => [(46, .int .i64 t190), (50, .int .i64 t192), (54, .int .i64 t194), (8, .pointer (some ⟨s_, 0, none⟩)), (55, .agg #[.int .i64 t190, .int .i64 t192, .int .i64 t194])]) (fun s_ w' => (w'.cell? ⟨ad183.block, ad183.off + 4, none⟩ = some (.string (rdOf ByteArray.empty t178 4)) ∧ w'.cell? ⟨ad183.block, ad183.off + 3, none⟩ = some (.string (rdOf ByteArray.empty t178 3)) ∧ w'.cell? ⟨ad183.block, ad183.off + 2, none⟩ = some (.string (rdOf ByteArray.empty t178 2)) ∧ w'.cell? ⟨ad183.block, ad183.off + 5, none⟩ = some (.string (rdOf ByteArray.empty t178 5))) ∧ (Kd.R Kd.string 9 w' w.heap.size (fun _ => True) (.slice (some ad183) t178.length co33) t178) ∧ (w'.heap[gb177]? = some (.cells #[.int .i64 0, .int .i64 0, .int .i64 0, .int .i64 0, .int .i64 0] 26 (0, 0))) ∧ (w'.heap[s_]? = some (.cells #[.int .i64 0, .int .i64 0, .int .i64 0, .int .i64 0, .int .i64 0] 26 (0, 0))) ∧ (w.heap.size ≤ s_) ∧ (w.heap.size ≤ s_) ∧ (gb177 ≠ s_) ∧ (s_ ≠ gb177) ∧ (Below w.heap.size w w')) ?_ ?_
                              rotate_left
                              · intro hJ3_7_11_25
                                refine join_ (σ := Unit) 4 bq8_3 (fun s_ => [(46, .int .i64 t190), (50, .int .i64 t192), (54, .int .i64 t194), (55, .agg #[.int .i64 t190, .int .i64 t192, .int .i64 t194])]) (fun s_ w' => (w'.cell? ⟨ad183.block, ad183.off + 4, none⟩ = some (.string (rdOf ByteArray.empty t178 4)) ∧ w'.cell? ⟨ad183.block, ad183.off + 3, none⟩ = some (.string (rdOf ByteArray.empty t178 3)) ∧ w'.cell? ⟨ad183.block, ad183.off + 2, none⟩ = some (.string (rdOf ByteArray.empty t178 2)) ∧ w'.cell? ⟨ad183.block, ad183.off + 5, none⟩ = some (.string (rdOf ByteArray.empty t178 5))) ∧ (Kd.R Kd.string 9 w' w.heap.size (fun _ => True) (.slice (some ad183) t178.length co33) t178) ∧ (w'.heap[gb177]? = some (.cells #[.int .i64 0, .int .i64 0, .int .i64 0, .int .i64 0, .int .i64 0] 26 (0, 0))) ∧ (Below w.heap.size w w')) ?_ ?_
                                rotate_left
                                · intro hJ3_7_11
                                  refine join_ (σ := Nat) 5 bq8_4 (fun s_ => [(46, .int .i64 t190), (50, .int .i64 t192), (8, .pointer (some ⟨s_, 0, none⟩))]) (fun s_ w' => (w'.cell? ⟨ad183.block, ad183.off + 4, none⟩ = some (.string (rdOf ByteArray.empty t178 4)) ∧ w'.cell? ⟨ad183.block, ad183.off + 3, none⟩ = some (.string (rdOf ByteArray.empty t178 3)) ∧ w'.cell? ⟨ad183.block, ad183.off + 2, none⟩ = some (.string (rdOf ByteArray.empty t178 2)) ∧ w'.cell? ⟨ad183.block, ad183.off + 5, none⟩ = some (.string (rdOf ByteArray.empty t178 5))) ∧ (Kd.R Kd.string 9 w' w.heap.size (fun _ => True) (.slice (some ad183) t178.length co33) t178) ∧ (w'.heap[gb177]? = some (.cells #[.int .i64 0, .int .i64 0, .int .i64 0, .int .i64 0, .int .i64 0] 26 (0, 0))) ∧ (w'.heap[s_]? = some (.cells #[.int .i64 0, .int .i64 0, .int .i64 0, .int .i64 0, .int .i64 0] 26 (0, 0))) ∧ (w.heap.size ≤ s_) ∧ (w.heap.size ≤ s_) ∧ (gb177 ≠ s_) ∧ (s_ ≠ gb177) ∧ (Below w.heap.size w w')) ?_ ?_
                                  rotate_left
                                  · intro hJ3_7_25
                                    refine join_ (σ := Unit) 6 bq8_5 (fun s_ => [(46, .int .i64 t190), (50, .int .i64 t192)]) (fun s_ w' => (w'.cell? ⟨ad183.block, ad183.off + 4, none⟩ = some (.string (rdOf ByteArray.empty t178 4)) ∧ w'.cell? ⟨ad183.block, ad183.off + 3, none⟩ = some (.string (rdOf ByteArray.empty t178 3)) ∧ w'.cell? ⟨ad183.block, ad183.off + 2, none⟩ = some (.string (rdOf ByteArray.empty t178 2)) ∧ w'.cell? ⟨ad183.block, ad183.off + 5, none⟩ = some (.string (rdOf ByteArray.empty t178 5))) ∧ (Kd.R Kd.string 9 w' w.heap.size (fun _ => True) (.slice (some ad183) t178.length co33) t178) ∧ (w'.heap[gb177]? = some (.cells #[.int .i64 0, .int .i64 0, .int .i64 0, .int .i64 0, .int .i64 0] 26 (0, 0))) ∧ (Below w.heap.size w w')) ?_ ?_
                                    rotate_left
                                    · intro hJ3_7
                                      refine join_ (σ := Nat) 6 bq8_6 (fun s_ => [(46, .int .i64 t190), (8, .pointer (some ⟨s_, 0, none⟩))]) (fun s_ w' => (w'.cell? ⟨ad183.block, ad183.off + 4, none⟩ = some (.string (rdOf ByteArray.empty t178 4)) ∧ w'.cell? ⟨ad183.block, ad183.off + 3, none⟩ = some (.string (rdOf ByteArray.empty t178 3)) ∧ w'.cell? ⟨ad183.block, ad183.off + 2, none⟩ = some (.string (rdOf ByteArray.empty t178 2)) ∧ w'.cell? ⟨ad183.block, ad183.off + 5, none⟩ = some (.string (rdOf ByteArray.empty t178 5))) ∧ (Kd.R Kd.string 9 w' w.heap.size (fun _ => True) (.slice (some ad183) t178.length co33) t178) ∧ (w'.heap[gb177]? = some (.cells #[.int .i64 0, .int .i64 0, .int .i64 0, .int .i64 0, .int .i64 0] 26 (0, 0))) ∧ (w'.heap[s_]? = some (.cells #[.int .i64 0, .int .i64 0, .int .i64 0, .int .i64 0, .int .i64 0] 26 (0, 0))) ∧ (w.heap.size ≤ s_) ∧ (w.heap.size ≤ s_) ∧ (gb177 ≠ s_) ∧ (s_ ≠ gb177) ∧ (Below w.heap.size w w')) ?_ ?_
                                      rotate_left
                                      · intro hJ3_25
                                        refine join_ (σ := Unit) 7 bq8_7 (fun s_ => [(46, .int .i64 t190)]) (fun s_ w' => (w'.cell? ⟨ad183.block, ad183.off + 4, none⟩ = some (.string (rdOf ByteArray.empty t178 4)) ∧ w'.cell? ⟨ad183.block, ad183.off + 3, none⟩ = some (.string (rdOf ByteArray.empty t178 3)) ∧ w'.cell? ⟨ad183.block, ad183.off + 2, none⟩ = some (.string (rdOf ByteArray.empty t178 2)) ∧ w'.cell? ⟨ad183.block, ad183.off + 5, none⟩ = some (.string (rdOf ByteArray.empty t178 5))) ∧ (Kd.R Kd.string 9 w' w.heap.size (fun _ => True) (.slice (some ad183) t178.length co33) t178) ∧ (w'.heap[gb177]? = some (.cells #[.int .i64 0, .int .i64 0, .int .i64 0, .int .i64 0, .int .i64 0] 26 (0, 0))) ∧ (Below w.heap.size w w')) ?_ ?_
                                        rotate_left
                                        · intro hJ3
                                          refine join_ (σ := Nat) 7 bq8_8 (fun s_ => [(8, .pointer (some ⟨s_, 0, none⟩))]) (fun s_ w' => (w'.cell? ⟨ad183.block, ad183.off + 4, none⟩ = some (.string (rdOf ByteArray.empty t178 4)) ∧ w'.cell? ⟨ad183.block, ad183.off + 3, none⟩ = some (.string (rdOf ByteArray.empty t178 3)) ∧ w'.cell? ⟨ad183.block, ad183.off + 2, none⟩ = some (.string (rdOf ByteArray.empty t178 2)) ∧ w'.cell? ⟨ad183.block, ad183.off + 5, none⟩ = some (.string (rdOf ByteArray.empty t178 5))) ∧ (Kd.R Kd.string 9 w' w.heap.size (fun _ => True) (.slice (some ad183) t178.length co33) t178) ∧ (w'.heap[gb177]? = some (.cells #[.int .i64 0, .int .i64 0, .int .i64 0, .int .i64 0, .int .i64 0] 26 (0, 0))) ∧ (w'.heap[s_]? = some (.cells #[.int .i64 0, .int .i64 0, .int .i64 0, .int .i64 0, .int .i64 0] 26 (0, 0))) ∧ (w.heap.size ≤ s_) ∧ (w.heap.size ≤ s_) ∧ (gb177 ≠ s_) ∧ (s_ ≠ gb177) ∧ (Below w.heap.size w w')) ?_ ?_
                                          rotate_left
                                          · intro hJ25
                                            refine two_ (i := 3) (j := 25) (Ni := some 46) (Nj := some 8) bq8_7 bq8_8 rfl rfl rfl rfl (two_of HT_.out (by kernel_rfl)) (by decide) (by decide) (fun K hK => ?_) (fun K hK => ?_)
                                            · skip
                                              refine goes_ Tryd.func60 (by kernel_rfl) rfl #[.string (rdOf ByteArray.empty t178 4), .int .i64 4] (by rfl) rfl rfl (by (try simp only [List.map_toArray, List.map_cons, List.map_nil]); first | done | rfl | (simp only [List.length_drop, List.length_take]; rfl)) ?_
                                              with_reducible refine (spec_readDigits.calls kj2 (rdOf ByteArray.empty t178 4) 4 t190 _ A25.out).mono ?_
                                              rintro e w' ⟨rfl, ⟨nd, rfl⟩⟩
                                              refine ⟨_, rfl, ?_⟩
                                              refine hK.out _ _ ⟨hHeld.1, hHeld.2.1, hHeld.2.2.1, hHeld.2.2.2⟩ (fun hHeld => ?_)
                                              clear hK K
                                              refine norm_ (a' := ?_) ?_ ?_
                                              rotate_left
                                              · show Act.put _ (some 46) _ = _
                                                simp only [Act.put, List.setIfInBounds_toArray, List.set_cons_zero, List.set_cons_succ, i64_w, i32_w]
                                                rfl
                                              exact norm_ (by first | (simp only [putAll, Act.put, List.setIfInBounds_toArray, List.set_cons_zero, List.set_cons_succ]; done) | (simp only [putAll, Act.put, List.setIfInBounds_toArray, List.set_cons_zero, List.set_cons_succ]; rfl)) (hJ3 () _ ⟨hHeld, (by (with_reducible repeat (first | apply Kd.R_alloc | apply Kd.R_drewN | apply Kd.R_drew)); exact HO_4.out), (by (with_reducible repeat (first | refine blk_drewN ?_ _ | refine blk_drew ?_ | refine blk_alloc ?_ _)); exact BK177.out), (by repeat (first | (with_reducible first | exact HB.out | apply below_alloc | apply pw_below_drewN | apply below_drew1 | refine below_set ?_ GE177.out) | exact HB.out))⟩)
                                            · skip
                                              refine box_step ?hg (N := 8) ?hd (cs := #[.int .i64 0, .int .i64 0, .int .i64 0, .int .i64 0, .int .i64 0]) (t := 26) ?hr ?_; (case hd => rfl); (case hg => rfl); (case hr => first | (go_simp; done) | (go_simp; rfl))
                                              intro gb197 hg w35 hbox hb
                                              have HS0_ := (hb.cell (World.block_lt_of_cell? _ _ (hHeld.1))).trans (hHeld.1)
                                              have HS1_ := (hb.cell (World.block_lt_of_cell? _ _ (hHeld.2.1))).trans (hHeld.2.1)
                                              have HS2_ := (hb.cell (World.block_lt_of_cell? _ _ (hHeld.2.2.1))).trans (hHeld.2.2.1)
                                              have HS3_ := (hb.cell (World.block_lt_of_cell? _ _ (hHeld.2.2.2))).trans (hHeld.2.2.2)
                                              have n0_ := Aside0.mk (Kd.R_below (by (with_reducible repeat (first | apply Kd.R_alloc | apply Kd.R_drewN | apply Kd.R_drew)); exact HO_4.out) hb)
                                              have n1_ := Aside0.mk (blk_below (g := gb177) (o := .cells #[.int .i64 0, .int .i64 0, .int .i64 0, .int .i64 0, .int .i64 0] 26 (0, 0)) (by (with_reducible repeat (first | refine blk_drewN ?_ _ | refine blk_drew ?_ | refine blk_alloc ?_ _)); exact BK177.out) hb)
                                              have n2_ := Aside0.mk (below_step (by repeat (first | (with_reducible first | exact HB.out | apply below_alloc | apply pw_below_drewN | apply below_drew1 | refine below_set ?_ GE177.out) | exact HB.out)) hb)
                                              have n3_ := Aside0.mk (hbox)
                                              have n4_ := Aside0.mk ((by rw [hg]; exact (below_size (by repeat (first | (with_reducible first | exact HB.out | apply below_alloc | apply pw_below_drewN | apply below_drew1 | refine below_set ?_ GE177.out) | exact HB.out))) : w.heap.size ≤ gb197))
                                              have n5_ := Aside0.mk ((by rw [hg]; exact (below_size (by repeat (first | (with_reducible first | exact HB.out | apply below_alloc | apply pw_below_drewN | apply below_drew1 | refine below_set ?_ GE177.out) | exact HB.out))) : w.heap.size ≤ gb197))
                                              have n6_ := Aside0.mk ((by rw [hg]; exact Nat.ne_of_lt (blk_lt (g := gb177) (o := .cells #[.int .i64 0, .int .i64 0, .int .i64 0, .int .i64 0, .int .i64 0] 26 (0, 0)) (by (with_reducible repeat (first | refine blk_drewN ?_ _ | refine blk_drew ?_ | refine blk_alloc ?_ _)); exact BK177.out)) : gb177 ≠ gb197))
                                              have n7_ := Aside0.mk ((by rw [hg]; exact Nat.ne_of_gt (blk_lt (g := gb177) (o := .cells #[.int .i64 0, .int .i64 0, .int .i64 0, .int .i64 0, .int .i64 0] 26 (0, 0)) (by (with_reducible repeat (first | refine blk_drewN ?_ _ | refine blk_drew ?_ | refine blk_alloc ?_ _)); exact BK177.out)) : gb197 ≠ gb177))
                                              clear HO_4
                                              clear BK177
                                              clear HB
                                              have HO_4 := n0_
                                              have BK177 := n1_
                                              have HB := n2_
                                              have BK197 := n3_
                                              have GW197 := n4_
                                              have GE197 := n5_
                                              have NB177_197 := n6_
                                              have NB197_177 := n7_
                                              clear n0_ n1_ n2_ n3_ n4_ n5_ n6_ n7_
                                              clear hb hbox hg
                                              refine hK.out _ _ ⟨HS0_, HS1_, HS2_, HS3_⟩ (fun hHeld => ?_)
                                              clear hK K
                                              refine norm_ (a' := ?_) ?_ ?_
                                              rotate_left
                                              · show Act.put _ (some 8) _ = _
                                                simp only [Act.put, List.setIfInBounds_toArray, List.set_cons_zero, List.set_cons_succ, i64_w, i32_w]
                                                rfl
                                              exact norm_ (by first | (simp only [putAll, Act.put, List.setIfInBounds_toArray, List.set_cons_zero, List.set_cons_succ]; done) | (simp only [putAll, Act.put, List.setIfInBounds_toArray, List.set_cons_zero, List.set_cons_succ]; rfl)) (hJ25 (gb197) _ ⟨hHeld, (by (with_reducible repeat (first | apply Kd.R_alloc | apply Kd.R_drewN | apply Kd.R_drew)); exact HO_4.out), (by (with_reducible repeat (first | refine blk_drewN ?_ _ | refine blk_drew ?_ | refine blk_alloc ?_ _)); exact BK177.out), (by (with_reducible repeat (first | refine blk_drewN ?_ _ | refine blk_drew ?_ | refine blk_alloc ?_ _)); exact BK197.out), GW197.out, GE197.out, NB177_197.out, NB197_177.out, (by repeat (first | (with_reducible first | exact HB.out | apply below_alloc | apply pw_below_drewN | apply below_drew1 | refine below_set ?_ GE177.out | refine below_set ?_ GE197.out) | exact HB.out))⟩)
                                          · skip
                                            rintro gb197 w36 ⟨hS_, h0_, h1_, h2_, h3_, h4_, h5_, h6_, h7_⟩
                                            have n0_ : Aside0 (Kd.R Kd.string 9 w36 w.heap.size (fun _ => True) (.slice (some ad183) t178.length co33) t178) := ⟨h0_⟩
                                            have n1_ : Aside0 (w36.heap[gb177]? = some (.cells #[.int .i64 0, .int .i64 0, .int .i64 0, .int .i64 0, .int .i64 0] 26 (0, 0))) := ⟨h1_⟩
                                            have n2_ : Aside0 (w36.heap[gb197]? = some (.cells #[.int .i64 0, .int .i64 0, .int .i64 0, .int .i64 0, .int .i64 0] 26 (0, 0))) := ⟨h2_⟩
                                            have n3_ : Aside0 (w.heap.size ≤ gb197) := ⟨h3_⟩
                                            have n4_ : Aside0 (w.heap.size ≤ gb197) := ⟨h4_⟩
                                            have n5_ : Aside0 (gb177 ≠ gb197) := ⟨h5_⟩
                                            have n6_ : Aside0 (gb197 ≠ gb177) := ⟨h6_⟩
                                            have n7_ : Aside0 (Below w.heap.size w w36) := ⟨h7_⟩
                                            clear HO_4
                                            clear BK177
                                            clear HB
                                            clear h0_ h1_ h2_ h3_ h4_ h5_ h6_ h7_
                                            have HO_4 := n0_
                                            have BK177 := n1_
                                            have BK197 := n2_
                                            have GW197 := n3_
                                            have GE197 := n4_
                                            have NB177_197 := n5_
                                            have NB197_177 := n6_
                                            have HB := n7_
                                            clear n0_ n1_ n2_ n3_ n4_ n5_ n6_ n7_
                                            have hHeld : w36.cell? ⟨ad183.block, ad183.off + 4, none⟩ = some (.string (rdOf ByteArray.empty t178 4)) ∧ w36.cell? ⟨ad183.block, ad183.off + 3, none⟩ = some (.string (rdOf ByteArray.empty t178 3)) ∧ w36.cell? ⟨ad183.block, ad183.off + 2, none⟩ = some (.string (rdOf ByteArray.empty t178 2)) ∧ w36.cell? ⟨ad183.block, ad183.off + 5, none⟩ = some (.string (rdOf ByteArray.empty t178 5)) := hS_
                                            refine norm_ (a' := ?_) ?_ ?_
                                            rotate_left
                                            · simp only [putAll, Act.put, List.setIfInBounds_toArray, List.set_cons_zero, List.set_cons_succ]
                                              rfl
                                            refine one_ (i := 3) (N := some 46) bq8_6 rfl rfl (one_of HT_.out (by kernel_rfl)) (by decide) (fun K hK => ?_)
                                            refine goes_ Tryd.func60 (by kernel_rfl) rfl #[.string (rdOf ByteArray.empty t178 4), .int .i64 4] (by rfl) rfl rfl (by (try simp only [List.map_toArray, List.map_cons, List.map_nil]); first | done | rfl | (simp only [List.length_drop, List.length_take]; rfl)) ?_
                                            with_reducible refine (spec_readDigits.calls kj2 (rdOf ByteArray.empty t178 4) 4 t190 _ A25.out).mono ?_
                                            rintro e w' ⟨rfl, ⟨nd, rfl⟩⟩
                                            refine ⟨_, rfl, ?_⟩
                                            refine hK.out _ _ ⟨hHeld.1, hHeld.2.1, hHeld.2.2.1, hHeld.2.2.2⟩ (fun hHeld => ?_)
                                            clear hK K
                                            refine norm_ (a' := ?_) ?_ ?_
                                            rotate_left
                                            · show Act.put _ (some 46) _ = _
                                              simp only [Act.put, List.setIfInBounds_toArray, List.set_cons_zero, List.set_cons_succ, i64_w, i32_w]
                                              rfl
                                            exact norm_ (by first | (simp only [putAll, Act.put, List.setIfInBounds_toArray, List.set_cons_zero, List.set_cons_succ]; done) | (simp only [putAll, Act.put, List.setIfInBounds_toArray, List.set_cons_zero, List.set_cons_succ]; rfl)) (hJ3_25 (gb197) _ ⟨hHeld, (by (with_reducible repeat (first | apply Kd.R_alloc | apply Kd.R_drewN | apply Kd.R_drew)); exact HO_4.out), (by (with_reducible repeat (first | refine blk_drewN ?_ _ | refine blk_drew ?_ | refine blk_alloc ?_ _)); exact BK177.out), (by (with_reducible repeat (first | refine blk_drewN ?_ _ | refine blk_drew ?_ | refine blk_alloc ?_ _)); exact BK197.out), GW197.out, GE197.out, NB177_197.out, NB197_177.out, (by repeat (first | (with_reducible first | exact HB.out | apply below_alloc | apply pw_below_drewN | apply below_drew1 | refine below_set ?_ GE177.out | refine below_set ?_ GE197.out) | exact HB.out))⟩)
                                        · skip
                                          rintro _ w35 ⟨hS_, h0_, h1_, h2_⟩
                                          have n0_ : Aside0 (Kd.R Kd.string 9 w35 w.heap.size (fun _ => True) (.slice (some ad183) t178.length co33) t178) := ⟨h0_⟩
                                          have n1_ : Aside0 (w35.heap[gb177]? = some (.cells #[.int .i64 0, .int .i64 0, .int .i64 0, .int .i64 0, .int .i64 0] 26 (0, 0))) := ⟨h1_⟩
                                          have n2_ : Aside0 (Below w.heap.size w w35) := ⟨h2_⟩
                                          clear HO_4
                                          clear BK177
                                          clear HB
                                          clear h0_ h1_ h2_
                                          have HO_4 := n0_
                                          have BK177 := n1_
                                          have HB := n2_
                                          clear n0_ n1_ n2_
                                          have hHeld : w35.cell? ⟨ad183.block, ad183.off + 4, none⟩ = some (.string (rdOf ByteArray.empty t178 4)) ∧ w35.cell? ⟨ad183.block, ad183.off + 3, none⟩ = some (.string (rdOf ByteArray.empty t178 3)) ∧ w35.cell? ⟨ad183.block, ad183.off + 2, none⟩ = some (.string (rdOf ByteArray.empty t178 2)) ∧ w35.cell? ⟨ad183.block, ad183.off + 5, none⟩ = some (.string (rdOf ByteArray.empty t178 5)) := hS_
                                          refine norm_ (a' := ?_) ?_ ?_
                                          rotate_left
                                          · simp only [putAll, Act.put, List.setIfInBounds_toArray, List.set_cons_zero, List.set_cons_succ]
                                            rfl
                                          refine two_ (i := 7) (j := 25) (Ni := some 50) (Nj := some 8) bq8_5 bq8_6 rfl rfl rfl rfl (two_of HT_.out (by kernel_rfl)) (by decide) (by decide) (fun K hK => ?_) (fun K hK => ?_)
                                          · skip
                                            refine goes_ Tryd.func60 (by kernel_rfl) rfl #[.string (rdOf ByteArray.empty t178 3), .int .i64 2] (by rfl) rfl rfl (by (try simp only [List.map_toArray, List.map_cons, List.map_nil]); first | done | rfl | (simp only [List.length_drop, List.length_take]; rfl)) ?_
                                            with_reducible refine (spec_readDigits.calls kj2 (rdOf ByteArray.empty t178 3) 2 t192 _ A27.out).mono ?_
                                            rintro e w' ⟨rfl, ⟨nd, rfl⟩⟩
                                            refine ⟨_, rfl, ?_⟩
                                            refine hK.out _ _ ⟨hHeld.1, hHeld.2.1, hHeld.2.2.1, hHeld.2.2.2⟩ (fun hHeld => ?_)
                                            clear hK K
                                            refine norm_ (a' := ?_) ?_ ?_
                                            rotate_left
                                            · show Act.put _ (some 50) _ = _
                                              simp only [Act.put, List.setIfInBounds_toArray, List.set_cons_zero, List.set_cons_succ, i64_w, i32_w]
                                              rfl
                                            exact norm_ (by first | (simp only [putAll, Act.put, List.setIfInBounds_toArray, List.set_cons_zero, List.set_cons_succ]; done) | (simp only [putAll, Act.put, List.setIfInBounds_toArray, List.set_cons_zero, List.set_cons_succ]; rfl)) (hJ3_7 () _ ⟨hHeld, (by (with_reducible repeat (first | apply Kd.R_alloc | apply Kd.R_drewN | apply Kd.R_drew)); exact HO_4.out), (by (with_reducible repeat (first | refine blk_drewN ?_ _ | refine blk_drew ?_ | refine blk_alloc ?_ _)); exact BK177.out), (by repeat (first | (with_reducible first | exact HB.out | apply below_alloc | apply pw_below_drewN | apply below_drew1 | refine below_set ?_ GE177.out) | exact HB.out))⟩)
                                          · skip
                                            refine box_step ?hg (N := 8) ?hd (cs := #[.int .i64 0, .int .i64 0, .int .i64 0, .int .i64 0, .int .i64 0]) (t := 26) ?hr ?_; (case hd => rfl); (case hg => rfl); (case hr => first | (go_simp; done) | (go_simp; rfl))
                                            intro gb197 hg w36 hbox hb
                                            have HS0_ := (hb.cell (World.block_lt_of_cell? _ _ (hHeld.1))).trans (hHeld.1)
                                            have HS1_ := (hb.cell (World.block_lt_of_cell? _ _ (hHeld.2.1))).trans (hHeld.2.1)
                                            have HS2_ := (hb.cell (World.block_lt_of_cell? _ _ (hHeld.2.2.1))).trans (hHeld.2.2.1)
                                            have HS3_ := (hb.cell (World.block_lt_of_cell? _ _ (hHeld.2.2.2))).trans (hHeld.2.2.2)
                                            have n0_ := Aside0.mk (Kd.R_below (by (with_reducible repeat (first | apply Kd.R_alloc | apply Kd.R_drewN | apply Kd.R_drew)); exact HO_4.out) hb)
                                            have n1_ := Aside0.mk (blk_below (g := gb177) (o := .cells #[.int .i64 0, .int .i64 0, .int .i64 0, .int .i64 0, .int .i64 0] 26 (0, 0)) (by (with_reducible repeat (first | refine blk_drewN ?_ _ | refine blk_drew ?_ | refine blk_alloc ?_ _)); exact BK177.out) hb)
                                            have n2_ := Aside0.mk (below_step (by repeat (first | (with_reducible first | exact HB.out | apply below_alloc | apply pw_below_drewN | apply below_drew1 | refine below_set ?_ GE177.out) | exact HB.out)) hb)
                                            have n3_ := Aside0.mk (hbox)
                                            have n4_ := Aside0.mk ((by rw [hg]; exact (below_size (by repeat (first | (with_reducible first | exact HB.out | apply below_alloc | apply pw_below_drewN | apply below_drew1 | refine below_set ?_ GE177.out) | exact HB.out))) : w.heap.size ≤ gb197))
                                            have n5_ := Aside0.mk ((by rw [hg]; exact (below_size (by repeat (first | (with_reducible first | exact HB.out | apply below_alloc | apply pw_below_drewN | apply below_drew1 | refine below_set ?_ GE177.out) | exact HB.out))) : w.heap.size ≤ gb197))
                                            have n6_ := Aside0.mk ((by rw [hg]; exact Nat.ne_of_lt (blk_lt (g := gb177) (o := .cells #[.int .i64 0, .int .i64 0, .int .i64 0, .int .i64 0, .int .i64 0] 26 (0, 0)) (by (with_reducible repeat (first | refine blk_drewN ?_ _ | refine blk_drew ?_ | refine blk_alloc ?_ _)); exact BK177.out)) : gb177 ≠ gb197))
                                            have n7_ := Aside0.mk ((by rw [hg]; exact Nat.ne_of_gt (blk_lt (g := gb177) (o := .cells #[.int .i64 0, .int .i64 0, .int .i64 0, .int .i64 0, .int .i64 0] 26 (0, 0)) (by (with_reducible repeat (first | refine blk_drewN ?_ _ | refine blk_drew ?_ | refine blk_alloc ?_ _)); exact BK177.out)) : gb197 ≠ gb177))
                                            clear HO_4
                                            clear BK177
                                            clear HB
                                            have HO_4 := n0_
                                            have BK177 := n1_
                                            have HB := n2_
                                            have BK197 := n3_
                                            have GW197 := n4_
                                            have GE197 := n5_
                                            have NB177_197 := n6_
                                            have NB197_177 := n7_
                                            clear n0_ n1_ n2_ n3_ n4_ n5_ n6_ n7_
                                            clear hb hbox hg
                                            refine hK.out _ _ ⟨HS0_, HS1_, HS2_, HS3_⟩ (fun hHeld => ?_)
                                            clear hK K
                                            refine norm_ (a' := ?_) ?_ ?_
                                            rotate_left
                                            · show Act.put _ (some 8) _ = _
                                              simp only [Act.put, List.setIfInBounds_toArray, List.set_cons_zero, List.set_cons_succ, i64_w, i32_w]
                                              rfl
                                            exact norm_ (by first | (simp only [putAll, Act.put, List.setIfInBounds_toArray, List.set_cons_zero, List.set_cons_succ]; done) | (simp only [putAll, Act.put, List.setIfInBounds_toArray, List.set_cons_zero, List.set_cons_succ]; rfl)) (hJ3_25 (gb197) _ ⟨hHeld, (by (with_reducible repeat (first | apply Kd.R_alloc | apply Kd.R_drewN | apply Kd.R_drew)); exact HO_4.out), (by (with_reducible repeat (first | refine blk_drewN ?_ _ | refine blk_drew ?_ | refine blk_alloc ?_ _)); exact BK177.out), (by (with_reducible repeat (first | refine blk_drewN ?_ _ | refine blk_drew ?_ | refine blk_alloc ?_ _)); exact BK197.out), GW197.out, GE197.out, NB177_197.out, NB197_177.out, (by repeat (first | (with_reducible first | exact HB.out | apply below_alloc | apply pw_below_drewN | apply below_drew1 | refine below_set ?_ GE177.out | refine below_set ?_ GE197.out) | exact HB.out))⟩)
                                      · skip
                                        rintro gb197 w36 ⟨hS_, h0_, h1_, h2_, h3_, h4_, h5_, h6_, h7_⟩
                                        have n0_ : Aside0 (Kd.R Kd.string 9 w36 w.heap.size (fun _ => True) (.slice (some ad183) t178.length co33) t178) := ⟨h0_⟩
                                        have n1_ : Aside0 (w36.heap[gb177]? = some (.cells #[.int .i64 0, .int .i64 0, .int .i64 0, .int .i64 0, .int .i64 0] 26 (0, 0))) := ⟨h1_⟩
                                        have n2_ : Aside0 (w36.heap[gb197]? = some (.cells #[.int .i64 0, .int .i64 0, .int .i64 0, .int .i64 0, .int .i64 0] 26 (0, 0))) := ⟨h2_⟩
                                        have n3_ : Aside0 (w.heap.size ≤ gb197) := ⟨h3_⟩
                                        have n4_ : Aside0 (w.heap.size ≤ gb197) := ⟨h4_⟩
                                        have n5_ : Aside0 (gb177 ≠ gb197) := ⟨h5_⟩
                                        have n6_ : Aside0 (gb197 ≠ gb177) := ⟨h6_⟩
                                        have n7_ : Aside0 (Below w.heap.size w w36) := ⟨h7_⟩
                                        clear HO_4
                                        clear BK177
                                        clear HB
                                        clear h0_ h1_ h2_ h3_ h4_ h5_ h6_ h7_
                                        have HO_4 := n0_
                                        have BK177 := n1_
                                        have BK197 := n2_
                                        have GW197 := n3_
                                        have GE197 := n4_
                                        have NB177_197 := n5_
                                        have NB197_177 := n6_
                                        have HB := n7_
                                        clear n0_ n1_ n2_ n3_ n4_ n5_ n6_ n7_
                                        have hHeld : w36.cell? ⟨ad183.block, ad183.off + 4, none⟩ = some (.string (rdOf ByteArray.empty t178 4)) ∧ w36.cell? ⟨ad183.block, ad183.off + 3, none⟩ = some (.string (rdOf ByteArray.empty t178 3)) ∧ w36.cell? ⟨ad183.block, ad183.off + 2, none⟩ = some (.string (rdOf ByteArray.empty t178 2)) ∧ w36.cell? ⟨ad183.block, ad183.off + 5, none⟩ = some (.string (rdOf ByteArray.empty t178 5)) := hS_
                                        refine norm_ (a' := ?_) ?_ ?_
                                        rotate_left
                                        · simp only [putAll, Act.put, List.setIfInBounds_toArray, List.set_cons_zero, List.set_cons_succ]
                                          rfl
                                        refine one_ (i := 7) (N := some 50) bq8_4 rfl rfl (one_of HT_.out (by kernel_rfl)) (by decide) (fun K hK => ?_)
                                        refine goes_ Tryd.func60 (by kernel_rfl) rfl #[.string (rdOf ByteArray.empty t178 3), .int .i64 2] (by rfl) rfl rfl (by (try simp only [List.map_toArray, List.map_cons, List.map_nil]); first | done | rfl | (simp only [List.length_drop, List.length_take]; rfl)) ?_
                                        with_reducible refine (spec_readDigits.calls kj2 (rdOf ByteArray.empty t178 3) 2 t192 _ A27.out).mono ?_
                                        rintro e w' ⟨rfl, ⟨nd, rfl⟩⟩
                                        refine ⟨_, rfl, ?_⟩
                                        refine hK.out _ _ ⟨hHeld.1, hHeld.2.1, hHeld.2.2.1, hHeld.2.2.2⟩ (fun hHeld => ?_)
                                        clear hK K
                                        refine norm_ (a' := ?_) ?_ ?_
                                        rotate_left
                                        · show Act.put _ (some 50) _ = _
                                          simp only [Act.put, List.setIfInBounds_toArray, List.set_cons_zero, List.set_cons_succ, i64_w, i32_w]
                                          rfl
                                        exact norm_ (by first | (simp only [putAll, Act.put, List.setIfInBounds_toArray, List.set_cons_zero, List.set_cons_succ]; done) | (simp only [putAll, Act.put, List.setIfInBounds_toArray, List.set_cons_zero, List.set_cons_succ]; rfl)) (hJ3_7_25 (gb197) _ ⟨hHeld, (by (with_reducible repeat (first | apply Kd.R_alloc | apply Kd.R_drewN | apply Kd.R_drew)); exact HO_4.out), (by (with_reducible repeat (first | refine blk_drewN ?_ _ | refine blk_drew ?_ | refine blk_alloc ?_ _)); exact BK177.out), (by (with_reducible repeat (first | refine blk_drewN ?_ _ | refine blk_drew ?_ | refine blk_alloc ?_ _)); exact BK197.out), GW197.out, GE197.out, NB177_197.out, NB197_177.out, (by repeat (first | (with_reducible first | exact HB.out | apply below_alloc | apply pw_below_drewN | apply below_drew1 | refine below_set ?_ GE177.out | refine below_set ?_ GE197.out) | exact HB.out))⟩)
                                    · skip
                                      rintro _ w35 ⟨hS_, h0_, h1_, h2_⟩
                                      have n0_ : Aside0 (Kd.R Kd.string 9 w35 w.heap.size (fun _ => True) (.slice (some ad183) t178.length co33) t178) := ⟨h0_⟩
                                      have n1_ : Aside0 (w35.heap[gb177]? = some (.cells #[.int .i64 0, .int .i64 0, .int .i64 0, .int .i64 0, .int .i64 0] 26 (0, 0))) := ⟨h1_⟩
                                      have n2_ : Aside0 (Below w.heap.size w w35) := ⟨h2_⟩
                                      clear HO_4
                                      clear BK177
                                      clear HB
                                      clear h0_ h1_ h2_
                                      have HO_4 := n0_
                                      have BK177 := n1_
                                      have HB := n2_
                                      clear n0_ n1_ n2_
                                      have hHeld : w35.cell? ⟨ad183.block, ad183.off + 4, none⟩ = some (.string (rdOf ByteArray.empty t178 4)) ∧ w35.cell? ⟨ad183.block, ad183.off + 3, none⟩ = some (.string (rdOf ByteArray.empty t178 3)) ∧ w35.cell? ⟨ad183.block, ad183.off + 2, none⟩ = some (.string (rdOf ByteArray.empty t178 2)) ∧ w35.cell? ⟨ad183.block, ad183.off + 5, none⟩ = some (.string (rdOf ByteArray.empty t178 5)) := hS_
                                      refine norm_ (a' := ?_) ?_ ?_
                                      rotate_left
                                      · simp only [putAll, Act.put, List.setIfInBounds_toArray, List.set_cons_zero, List.set_cons_succ]
                                        rfl
                                      refine two_ (i := 11) (j := 25) (Ni := some 54) (Nj := some 8) #[true, true, true, true, true, true, true, true, true, true, true, true, false, true, true, true, true, true, true, true, true, true, true, false, false, false, false] bq8_4 rfl rfl rfl rfl (two_of HT_.out (by kernel_rfl)) (by decide) (by decide) (fun K hK => ?_) (fun K hK => ?_)
                                      · skip
                                        refine goes_ Tryd.func60 (by kernel_rfl) rfl #[.string (rdOf ByteArray.empty t178 2), .int .i64 2] (by rfl) rfl rfl (by (try simp only [List.map_toArray, List.map_cons, List.map_nil]); first | done | rfl | (simp only [List.length_drop, List.length_take]; rfl)) ?_
                                        with_reducible refine (spec_readDigits.calls kj2 (rdOf ByteArray.empty t178 2) 2 t194 _ A29.out).mono ?_
                                        rintro e w' ⟨rfl, ⟨nd, rfl⟩⟩
                                        refine ⟨_, rfl, ?_⟩
                                        refine hK.out _ _ ⟨hHeld.1, hHeld.2.1, hHeld.2.2.1, hHeld.2.2.2⟩ (fun hHeld => ?_)
                                        clear hK K
                                        refine norm_ (a' := ?_) ?_ ?_
                                        rotate_left
                                        · show Act.put _ (some 54) _ = _
                                          simp only [Act.put, List.setIfInBounds_toArray, List.set_cons_zero, List.set_cons_succ, i64_w, i32_w]
                                          rfl
                                        refine pure_ (i := 12) (N := some 55) (v := ?_) (a' := ?_) bq8_3 rfl rfl (any_of HT_.out (by kernel_rfl)) (fun _ _ _ h => h) (Or.inl ⟨by rfl, ?_⟩) ?_ ?_
                                        rotate_left
                                        · intro w'
                                          go_simp
                                          with_reducible rfl
                                        rotate_left
                                        · simp only [Act.put, List.setIfInBounds_toArray, List.set_cons_zero, List.set_cons_succ, i64_w, i32_w]
                                          rfl
                                        exact norm_ (by first | (simp only [putAll, Act.put, List.setIfInBounds_toArray, List.set_cons_zero, List.set_cons_succ]; done) | (simp only [putAll, Act.put, List.setIfInBounds_toArray, List.set_cons_zero, List.set_cons_succ]; rfl)) (hJ3_7_11 () _ ⟨hHeld, (by (with_reducible repeat (first | apply Kd.R_alloc | apply Kd.R_drewN | apply Kd.R_drew)); exact HO_4.out), (by (with_reducible repeat (first | refine blk_drewN ?_ _ | refine blk_drew ?_ | refine blk_alloc ?_ _)); exact BK177.out), (by repeat (first | (with_reducible first | exact HB.out | apply below_alloc | apply pw_below_drewN | apply below_drew1 | refine below_set ?_ GE177.out) | exact HB.out))⟩)
                                      · skip
                                        refine box_step ?hg (N := 8) ?hd (cs := #[.int .i64 0, .int .i64 0, .int .i64 0, .int .i64 0, .int .i64 0]) (t := 26) ?hr ?_; (case hd => rfl); (case hg => rfl); (case hr => first | (go_simp; done) | (go_simp; rfl))
                                        intro gb197 hg w36 hbox hb
                                        have HS0_ := (hb.cell (World.block_lt_of_cell? _ _ (hHeld.1))).trans (hHeld.1)
                                        have HS1_ := (hb.cell (World.block_lt_of_cell? _ _ (hHeld.2.1))).trans (hHeld.2.1)
                                        have HS2_ := (hb.cell (World.block_lt_of_cell? _ _ (hHeld.2.2.1))).trans (hHeld.2.2.1)
                                        have HS3_ := (hb.cell (World.block_lt_of_cell? _ _ (hHeld.2.2.2))).trans (hHeld.2.2.2)
                                        have n0_ := Aside0.mk (Kd.R_below (by (with_reducible repeat (first | apply Kd.R_alloc | apply Kd.R_drewN | apply Kd.R_drew)); exact HO_4.out) hb)
                                        have n1_ := Aside0.mk (blk_below (g := gb177) (o := .cells #[.int .i64 0, .int .i64 0, .int .i64 0, .int .i64 0, .int .i64 0] 26 (0, 0)) (by (with_reducible repeat (first | refine blk_drewN ?_ _ | refine blk_drew ?_ | refine blk_alloc ?_ _)); exact BK177.out) hb)
                                        have n2_ := Aside0.mk (below_step (by repeat (first | (with_reducible first | exact HB.out | apply below_alloc | apply pw_below_drewN | apply below_drew1 | refine below_set ?_ GE177.out) | exact HB.out)) hb)
                                        have n3_ := Aside0.mk (hbox)
                                        have n4_ := Aside0.mk ((by rw [hg]; exact (below_size (by repeat (first | (with_reducible first | exact HB.out | apply below_alloc | apply pw_below_drewN | apply below_drew1 | refine below_set ?_ GE177.out) | exact HB.out))) : w.heap.size ≤ gb197))
                                        have n5_ := Aside0.mk ((by rw [hg]; exact (below_size (by repeat (first | (with_reducible first | exact HB.out | apply below_alloc | apply pw_below_drewN | apply below_drew1 | refine below_set ?_ GE177.out) | exact HB.out))) : w.heap.size ≤ gb197))
                                        have n6_ := Aside0.mk ((by rw [hg]; exact Nat.ne_of_lt (blk_lt (g := gb177) (o := .cells #[.int .i64 0, .int .i64 0, .int .i64 0, .int .i64 0, .int .i64 0] 26 (0, 0)) (by (with_reducible repeat (first | refine blk_drewN ?_ _ | refine blk_drew ?_ | refine blk_alloc ?_ _)); exact BK177.out)) : gb177 ≠ gb197))
                                        have n7_ := Aside0.mk ((by rw [hg]; exact Nat.ne_of_gt (blk_lt (g := gb177) (o := .cells #[.int .i64 0, .int .i64 0, .int .i64 0, .int .i64 0, .int .i64 0] 26 (0, 0)) (by (with_reducible repeat (first | refine blk_drewN ?_ _ | refine blk_drew ?_ | refine blk_alloc ?_ _)); exact BK177.out)) : gb197 ≠ gb177))
                                        clear HO_4
                                        clear BK177
                                        clear HB
                                        have HO_4 := n0_
                                        have BK177 := n1_
                                        have HB := n2_
                                        have BK197 := n3_
                                        have GW197 := n4_
                                        have GE197 := n5_
                                        have NB177_197 := n6_
                                        have NB197_177 := n7_
                                        clear n0_ n1_ n2_ n3_ n4_ n5_ n6_ n7_
                                        clear hb hbox hg
                                        refine hK.out _ _ ⟨HS0_, HS1_, HS2_, HS3_⟩ (fun hHeld => ?_)
                                        clear hK K
                                        refine norm_ (a' := ?_) ?_ ?_
                                        rotate_left
                                        · show Act.put _ (some 8) _ = _
                                          simp only [Act.put, List.setIfInBounds_toArray, List.set_cons_zero, List.set_cons_succ, i64_w, i32_w]
                                          rfl
                                        exact norm_ (by first | (simp only [putAll, Act.put, List.setIfInBounds_toArray, List.set_cons_zero, List.set_cons_succ]; done) | (simp only [putAll, Act.put, List.setIfInBounds_toArray, List.set_cons_zero, List.set_cons_succ]; rfl)) (hJ3_7_25 (gb197) _ ⟨hHeld, (by (with_reducible repeat (first | apply Kd.R_alloc | apply Kd.R_drewN | apply Kd.R_drew)); exact HO_4.out), (by (with_reducible repeat (first | refine blk_drewN ?_ _ | refine blk_drew ?_ | refine blk_alloc ?_ _)); exact BK177.out), (by (with_reducible repeat (first | refine blk_drewN ?_ _ | refine blk_drew ?_ | refine blk_alloc ?_ _)); exact BK197.out), GW197.out, GE197.out, NB177_197.out, NB197_177.out, (by repeat (first | (with_reducible first | exact HB.out | apply below_alloc | apply pw_below_drewN | apply below_drew1 | refine below_set ?_ GE177.out | refine below_set ?_ GE197.out) | exact HB.out))⟩)
                                  · skip
                                    rintro gb197 w36 ⟨hS_, h0_, h1_, h2_, h3_, h4_, h5_, h6_, h7_⟩
                                    have n0_ : Aside0 (Kd.R Kd.string 9 w36 w.heap.size (fun _ => True) (.slice (some ad183) t178.length co33) t178) := ⟨h0_⟩
                                    have n1_ : Aside0 (w36.heap[gb177]? = some (.cells #[.int .i64 0, .int .i64 0, .int .i64 0, .int .i64 0, .int .i64 0] 26 (0, 0))) := ⟨h1_⟩
                                    have n2_ : Aside0 (w36.heap[gb197]? = some (.cells #[.int .i64 0, .int .i64 0, .int .i64 0, .int .i64 0, .int .i64 0] 26 (0, 0))) := ⟨h2_⟩
                                    have n3_ : Aside0 (w.heap.size ≤ gb197) := ⟨h3_⟩
                                    have n4_ : Aside0 (w.heap.size ≤ gb197) := ⟨h4_⟩
                                    have n5_ : Aside0 (gb177 ≠ gb197) := ⟨h5_⟩
                                    have n6_ : Aside0 (gb197 ≠ gb177) := ⟨h6_⟩
                                    have n7_ : Aside0 (Below w.heap.size w w36) := ⟨h7_⟩
                                    clear HO_4
                                    clear BK177
                                    clear HB
                                    clear h0_ h1_ h2_ h3_ h4_ h5_ h6_ h7_
                                    have HO_4 := n0_
                                    have BK177 := n1_
                                    have BK197 := n2_
                                    have GW197 := n3_
                                    have GE197 := n4_
                                    have NB177_197 := n5_
                                    have NB197_177 := n6_
                                    have HB := n7_
                                    clear n0_ n1_ n2_ n3_ n4_ n5_ n6_ n7_
                                    have hHeld : w36.cell? ⟨ad183.block, ad183.off + 4, none⟩ = some (.string (rdOf ByteArray.empty t178 4)) ∧ w36.cell? ⟨ad183.block, ad183.off + 3, none⟩ = some (.string (rdOf ByteArray.empty t178 3)) ∧ w36.cell? ⟨ad183.block, ad183.off + 2, none⟩ = some (.string (rdOf ByteArray.empty t178 2)) ∧ w36.cell? ⟨ad183.block, ad183.off + 5, none⟩ = some (.string (rdOf ByteArray.empty t178 5)) := hS_
                                    refine norm_ (a' := ?_) ?_ ?_
                                    rotate_left
                                    · simp only [putAll, Act.put, List.setIfInBounds_toArray, List.set_cons_zero, List.set_cons_succ]
                                      rfl
                                    refine one_ (i := 11) (N := some 54) #[true, true, true, true, true, true, true, true, true, true, true, true, false, true, true, true, true, true, true, true, true, true, true, false, false, true, false] rfl rfl (one_of HT_.out (by kernel_rfl)) (by decide) (fun K hK => ?_)
                                    refine goes_ Tryd.func60 (by kernel_rfl) rfl #[.string (rdOf ByteArray.empty t178 2), .int .i64 2] (by rfl) rfl rfl (by (try simp only [List.map_toArray, List.map_cons, List.map_nil]); first | done | rfl | (simp only [List.length_drop, List.length_take]; rfl)) ?_
                                    with_reducible refine (spec_readDigits.calls kj2 (rdOf ByteArray.empty t178 2) 2 t194 _ A29.out).mono ?_
                                    rintro e w' ⟨rfl, ⟨nd, rfl⟩⟩
                                    refine ⟨_, rfl, ?_⟩
                                    refine hK.out _ _ ⟨hHeld.1, hHeld.2.1, hHeld.2.2.1, hHeld.2.2.2⟩ (fun hHeld => ?_)
                                    clear hK K
                                    refine norm_ (a' := ?_) ?_ ?_
                                    rotate_left
                                    · show Act.put _ (some 54) _ = _
                                      simp only [Act.put, List.setIfInBounds_toArray, List.set_cons_zero, List.set_cons_succ, i64_w, i32_w]
                                      rfl
                                    refine pure_ (i := 12) (N := some 55) (v := ?_) (a' := ?_) bq8_2 rfl rfl (any_of HT_.out (by kernel_rfl)) (fun _ _ _ h => h) (Or.inl ⟨by rfl, ?_⟩) ?_ ?_
                                    rotate_left
                                    · intro w'
                                      go_simp
                                      with_reducible rfl
                                    rotate_left
                                    · simp only [Act.put, List.setIfInBounds_toArray, List.set_cons_zero, List.set_cons_succ, i64_w, i32_w]
                                      rfl
                                    exact norm_ (by first | (simp only [putAll, Act.put, List.setIfInBounds_toArray, List.set_cons_zero, List.set_cons_succ]; done) | (simp only [putAll, Act.put, List.setIfInBounds_toArray, List.set_cons_zero, List.set_cons_succ]; rfl)) (hJ3_7_11_25 (gb197) _ ⟨hHeld, (by (with_reducible repeat (first | apply Kd.R_alloc | apply Kd.R_drewN | apply Kd.R_drew)); exact HO_4.out), (by (with_reducible repeat (first | refine blk_drewN ?_ _ | refine blk_drew ?_ | refine blk_alloc ?_ _)); exact BK177.out), (by (with_reducible repeat (first | refine blk_drewN ?_ _ | refine blk_drew ?_ | refine blk_alloc ?_ _)); exact BK197.out), GW197.out, GE197.out, NB177_197.out, NB197_177.out, (by repeat (first | (with_reducible first | exact HB.out | apply below_alloc | apply pw_below_drewN | apply below_drew1 | refine below_set ?_ GE177.out | refine below_set ?_ GE197.out) | exact HB.out))⟩)
                                · skip
                                  rintro _ w35 ⟨hS_, h0_, h1_, h2_⟩
                                  have n0_ : Aside0 (Kd.R Kd.string 9 w35 w.heap.size (fun _ => True) (.slice (some ad183) t178.length co33) t178) := ⟨h0_⟩
                                  have n1_ : Aside0 (w35.heap[gb177]? = some (.cells #[.int .i64 0, .int .i64 0, .int .i64 0, .int .i64 0, .int .i64 0] 26 (0, 0))) := ⟨h1_⟩
                                  have n2_ : Aside0 (Below w.heap.size w w35) := ⟨h2_⟩
                                  clear HO_4
                                  clear BK177
                                  clear HB
                                  clear h0_ h1_ h2_
                                  have HO_4 := n0_
                                  have BK177 := n1_
                                  have HB := n2_
                                  clear n0_ n1_ n2_
                                  have hHeld : w35.cell? ⟨ad183.block, ad183.off + 4, none⟩ = some (.string (rdOf ByteArray.empty t178 4)) ∧ w35.cell? ⟨ad183.block, ad183.off + 3, none⟩ = some (.string (rdOf ByteArray.empty t178 3)) ∧ w35.cell? ⟨ad183.block, ad183.off + 2, none⟩ = some (.string (rdOf ByteArray.empty t178 2)) ∧ w35.cell? ⟨ad183.block, ad183.off + 5, none⟩ = some (.string (rdOf ByteArray.empty t178 5)) := hS_
                                  refine norm_ (a' := ?_) ?_ ?_
                                  rotate_left
                                  · simp only [putAll, Act.put, List.setIfInBounds_toArray, List.set_cons_zero, List.set_cons_succ]
                                    rfl
                                  refine two_ (i := 23) (j := 25) (Ni := some 66) (Nj := some 8) #[true, true, true, true, true, true, true, true, true, true, true, true, true, true, true, true, true, true, true, true, true, true, true, true, false, false, false] bq8_2 rfl rfl rfl rfl (two_of HT_.out (by kernel_rfl)) (by decide) (by decide) (fun K hK => ?_) (fun K hK => ?_)
                                  · skip
                                    refine goes_ Tryd.func60 (by kernel_rfl) rfl #[.string (rdOf ByteArray.empty t178 5), .int .i64 2] (by rfl) rfl rfl (by (try simp only [List.map_toArray, List.map_cons, List.map_nil]); first | done | rfl | (simp only [List.length_drop, List.length_take]; rfl)) ?_
                                    with_reducible refine (spec_readDigits.calls kj2 (rdOf ByteArray.empty t178 5) 2 t196 _ A31.out).mono ?_
                                    rintro e w' ⟨rfl, ⟨nd, rfl⟩⟩
                                    refine ⟨_, rfl, ?_⟩
                                    refine hK.out _ _ ⟨hHeld.1, hHeld.2.1, hHeld.2.2.1, hHeld.2.2.2⟩ (fun hHeld => ?_)
                                    clear hK K
                                    refine norm_ (a' := ?_) ?_ ?_
                                    rotate_left
                                    · show Act.put _ (some 66) _ = _
                                      simp only [Act.put, List.setIfInBounds_toArray, List.set_cons_zero, List.set_cons_succ, i64_w, i32_w]
                                      rfl
                                    refine pure_ (i := 24) (N := some 67) (v := ?_) (a' := ?_) bq8_1 rfl rfl (any_of HT_.out (by kernel_rfl)) (fun _ _ _ h => h) (Or.inl ⟨by rfl, ?_⟩) ?_ ?_
                                    rotate_left
                                    · intro w'
                                      go_simp
                                      with_reducible rfl
                                    rotate_left
                                    · simp only [Act.put, List.setIfInBounds_toArray, List.set_cons_zero, List.set_cons_succ, i64_w, i32_w]
                                      rfl
                                    exact norm_ (by first | (simp only [putAll, Act.put, List.setIfInBounds_toArray, List.set_cons_zero, List.set_cons_succ]; done) | (simp only [putAll, Act.put, List.setIfInBounds_toArray, List.set_cons_zero, List.set_cons_succ]; rfl)) (hJ3_7_11_23 () _ ⟨hHeld, (by (with_reducible repeat (first | apply Kd.R_alloc | apply Kd.R_drewN | apply Kd.R_drew)); exact HO_4.out), (by (with_reducible repeat (first | refine blk_drewN ?_ _ | refine blk_drew ?_ | refine blk_alloc ?_ _)); exact BK177.out), (by repeat (first | (with_reducible first | exact HB.out | apply below_alloc | apply pw_below_drewN | apply below_drew1 | refine below_set ?_ GE177.out) | exact HB.out))⟩)
                                  · skip
                                    refine box_step ?hg (N := 8) ?hd (cs := #[.int .i64 0, .int .i64 0, .int .i64 0, .int .i64 0, .int .i64 0]) (t := 26) ?hr ?_; (case hd => rfl); (case hg => rfl); (case hr => first | (go_simp; done) | (go_simp; rfl))
                                    intro gb197 hg w36 hbox hb
                                    have HS0_ := (hb.cell (World.block_lt_of_cell? _ _ (hHeld.1))).trans (hHeld.1)
                                    have HS1_ := (hb.cell (World.block_lt_of_cell? _ _ (hHeld.2.1))).trans (hHeld.2.1)
                                    have HS2_ := (hb.cell (World.block_lt_of_cell? _ _ (hHeld.2.2.1))).trans (hHeld.2.2.1)
                                    have HS3_ := (hb.cell (World.block_lt_of_cell? _ _ (hHeld.2.2.2))).trans (hHeld.2.2.2)
                                    have n0_ := Aside0.mk (Kd.R_below (by (with_reducible repeat (first | apply Kd.R_alloc | apply Kd.R_drewN | apply Kd.R_drew)); exact HO_4.out) hb)
                                    have n1_ := Aside0.mk (blk_below (g := gb177) (o := .cells #[.int .i64 0, .int .i64 0, .int .i64 0, .int .i64 0, .int .i64 0] 26 (0, 0)) (by (with_reducible repeat (first | refine blk_drewN ?_ _ | refine blk_drew ?_ | refine blk_alloc ?_ _)); exact BK177.out) hb)
                                    have n2_ := Aside0.mk (below_step (by repeat (first | (with_reducible first | exact HB.out | apply below_alloc | apply pw_below_drewN | apply below_drew1 | refine below_set ?_ GE177.out) | exact HB.out)) hb)
                                    have n3_ := Aside0.mk (hbox)
                                    have n4_ := Aside0.mk ((by rw [hg]; exact (below_size (by repeat (first | (with_reducible first | exact HB.out | apply below_alloc | apply pw_below_drewN | apply below_drew1 | refine below_set ?_ GE177.out) | exact HB.out))) : w.heap.size ≤ gb197))
                                    have n5_ := Aside0.mk ((by rw [hg]; exact (below_size (by repeat (first | (with_reducible first | exact HB.out | apply below_alloc | apply pw_below_drewN | apply below_drew1 | refine below_set ?_ GE177.out) | exact HB.out))) : w.heap.size ≤ gb197))
                                    have n6_ := Aside0.mk ((by rw [hg]; exact Nat.ne_of_lt (blk_lt (g := gb177) (o := .cells #[.int .i64 0, .int .i64 0, .int .i64 0, .int .i64 0, .int .i64 0] 26 (0, 0)) (by (with_reducible repeat (first | refine blk_drewN ?_ _ | refine blk_drew ?_ | refine blk_alloc ?_ _)); exact BK177.out)) : gb177 ≠ gb197))
                                    have n7_ := Aside0.mk ((by rw [hg]; exact Nat.ne_of_gt (blk_lt (g := gb177) (o := .cells #[.int .i64 0, .int .i64 0, .int .i64 0, .int .i64 0, .int .i64 0] 26 (0, 0)) (by (with_reducible repeat (first | refine blk_drewN ?_ _ | refine blk_drew ?_ | refine blk_alloc ?_ _)); exact BK177.out)) : gb197 ≠ gb177))
                                    clear HO_4
                                    clear BK177
                                    clear HB
                                    have HO_4 := n0_
                                    have BK177 := n1_
                                    have HB := n2_
                                    have BK197 := n3_
                                    have GW197 := n4_
                                    have GE197 := n5_
                                    have NB177_197 := n6_
                                    have NB197_177 := n7_
                                    clear n0_ n1_ n2_ n3_ n4_ n5_ n6_ n7_
                                    clear hb hbox hg
                                    refine hK.out _ _ ⟨HS0_, HS1_, HS2_, HS3_⟩ (fun hHeld => ?_)
                                    clear hK K
                                    refine norm_ (a' := ?_) ?_ ?_
                                    rotate_left
                                    · show Act.put _ (some 8) _ = _
                                      simp only [Act.put, List.setIfInBounds_toArray, List.set_cons_zero, List.set_cons_succ, i64_w, i32_w]
                                      rfl
                                    exact norm_ (by first | (simp only [putAll, Act.put, List.setIfInBounds_toArray, List.set_cons_zero, List.set_cons_succ]; done) | (simp only [putAll, Act.put, List.setIfInBounds_toArray, List.set_cons_zero, List.set_cons_succ]; rfl)) (hJ3_7_11_25 (gb197) _ ⟨hHeld, (by (with_reducible repeat (first | apply Kd.R_alloc | apply Kd.R_drewN | apply Kd.R_drew)); exact HO_4.out), (by (with_reducible repeat (first | refine blk_drewN ?_ _ | refine blk_drew ?_ | refine blk_alloc ?_ _)); exact BK177.out), (by (with_reducible repeat (first | refine blk_drewN ?_ _ | refine blk_drew ?_ | refine blk_alloc ?_ _)); exact BK197.out), GW197.out, GE197.out, NB177_197.out, NB197_177.out, (by repeat (first | (with_reducible first | exact HB.out | apply below_alloc | apply pw_below_drewN | apply below_drew1 | refine below_set ?_ GE177.out | refine below_set ?_ GE197.out) | exact HB.out))⟩)
                              · skip
                                rintro gb197 w36 ⟨hS_, h0_, h1_, h2_, h3_, h4_, h5_, h6_, h7_⟩
                                have n0_ : Aside0 (Kd.R Kd.string 9 w36 w.heap.size (fun _ => True) (.slice (some ad183) t178.length co33) t178) := ⟨h0_⟩
                                have n1_ : Aside0 (w36.heap[gb177]? = some (.cells #[.int .i64 0, .int .i64 0, .int .i64 0, .int .i64 0, .int .i64 0] 26 (0, 0))) := ⟨h1_⟩
                                have n2_ : Aside0 (w36.heap[gb197]? = some (.cells #[.int .i64 0, .int .i64 0, .int .i64 0, .int .i64 0, .int .i64 0] 26 (0, 0))) := ⟨h2_⟩
                                have n3_ : Aside0 (w.heap.size ≤ gb197) := ⟨h3_⟩
                                have n4_ : Aside0 (w.heap.size ≤ gb197) := ⟨h4_⟩
                                have n5_ : Aside0 (gb177 ≠ gb197) := ⟨h5_⟩
                                have n6_ : Aside0 (gb197 ≠ gb177) := ⟨h6_⟩
                                have n7_ : Aside0 (Below w.heap.size w w36) := ⟨h7_⟩
                                clear HO_4
                                clear BK177
                                clear HB
                                clear h0_ h1_ h2_ h3_ h4_ h5_ h6_ h7_
                                have HO_4 := n0_
                                have BK177 := n1_
                                have BK197 := n2_
                                have GW197 := n3_
                                have GE197 := n4_
                                have NB177_197 := n5_
                                have NB197_177 := n6_
                                have HB := n7_
                                clear n0_ n1_ n2_ n3_ n4_ n5_ n6_ n7_
                                have hHeld : w36.cell? ⟨ad183.block, ad183.off + 4, none⟩ = some (.string (rdOf ByteArray.empty t178 4)) ∧ w36.cell? ⟨ad183.block, ad183.off + 3, none⟩ = some (.string (rdOf ByteArray.empty t178 3)) ∧ w36.cell? ⟨ad183.block, ad183.off + 2, none⟩ = some (.string (rdOf ByteArray.empty t178 2)) ∧ w36.cell? ⟨ad183.block, ad183.off + 5, none⟩ = some (.string (rdOf ByteArray.empty t178 5)) := hS_
                                refine norm_ (a' := ?_) ?_ ?_
                                rotate_left
                                · simp only [putAll, Act.put, List.setIfInBounds_toArray, List.set_cons_zero, List.set_cons_succ]
                                  rfl
                                refine one_ (i := 23) (N := some 66) #[true, true, true, true, true, true, true, true, true, true, true, true, true, true, true, true, true, true, true, true, true, true, true, true, false, true, false] rfl rfl (one_of HT_.out (by kernel_rfl)) (by decide) (fun K hK => ?_)
                                refine goes_ Tryd.func60 (by kernel_rfl) rfl #[.string (rdOf ByteArray.empty t178 5), .int .i64 2] (by rfl) rfl rfl (by (try simp only [List.map_toArray, List.map_cons, List.map_nil]); first | done | rfl | (simp only [List.length_drop, List.length_take]; rfl)) ?_
                                with_reducible refine (spec_readDigits.calls kj2 (rdOf ByteArray.empty t178 5) 2 t196 _ A31.out).mono ?_
                                rintro e w' ⟨rfl, ⟨nd, rfl⟩⟩
                                refine ⟨_, rfl, ?_⟩
                                refine hK.out _ _ ⟨hHeld.1, hHeld.2.1, hHeld.2.2.1, hHeld.2.2.2⟩ (fun hHeld => ?_)
                                clear hK K
                                refine norm_ (a' := ?_) ?_ ?_
                                rotate_left
                                · show Act.put _ (some 66) _ = _
                                  simp only [Act.put, List.setIfInBounds_toArray, List.set_cons_zero, List.set_cons_succ, i64_w, i32_w]
                                  rfl
                                refine pure_ (i := 24) (N := some 67) (v := ?_) (a' := ?_) bq8_0 rfl rfl (any_of HT_.out (by kernel_rfl)) (fun _ _ _ h => h) (Or.inl ⟨by rfl, ?_⟩) ?_ ?_
                                rotate_left
                                · intro w'
                                  go_simp
                                  with_reducible rfl
                                rotate_left
                                · simp only [Act.put, List.setIfInBounds_toArray, List.set_cons_zero, List.set_cons_succ, i64_w, i32_w]
                                  rfl
                                exact norm_ (by first | (simp only [putAll, Act.put, List.setIfInBounds_toArray, List.set_cons_zero, List.set_cons_succ]; done) | (simp only [putAll, Act.put, List.setIfInBounds_toArray, List.set_cons_zero, List.set_cons_succ]; rfl)) (hJ3_7_11_23_25 (gb197) _ ⟨hHeld, (by (with_reducible repeat (first | apply Kd.R_alloc | apply Kd.R_drewN | apply Kd.R_drew)); exact HO_4.out), (by (with_reducible repeat (first | refine blk_drewN ?_ _ | refine blk_drew ?_ | refine blk_alloc ?_ _)); exact BK177.out), (by (with_reducible repeat (first | refine blk_drewN ?_ _ | refine blk_drew ?_ | refine blk_alloc ?_ _)); exact BK197.out), GW197.out, GE197.out, NB177_197.out, NB197_177.out, (by repeat (first | (with_reducible first | exact HB.out | apply below_alloc | apply pw_below_drewN | apply below_drew1 | refine below_set ?_ GE177.out | refine below_set ?_ GE197.out) | exact HB.out))⟩)
                            · skip
                              rintro _ w35 ⟨hS_, h0_, h1_, h2_⟩
                              have n0_ : Aside0 (Kd.R Kd.string 9 w35 w.heap.size (fun _ => True) (.slice (some ad183) t178.length co33) t178) := ⟨h0_⟩
                              have n1_ : Aside0 (w35.heap[gb177]? = some (.cells #[.int .i64 0, .int .i64 0, .int .i64 0, .int .i64 0, .int .i64 0] 26 (0, 0))) := ⟨h1_⟩
                              have n2_ : Aside0 (Below w.heap.size w w35) := ⟨h2_⟩
                              clear HO_4
                              clear BK177
                              clear HB
                              clear h0_ h1_ h2_
                              have HO_4 := n0_
                              have BK177 := n1_
                              have HB := n2_
                              clear n0_ n1_ n2_
                              have hHeld : w35.cell? ⟨ad183.block, ad183.off + 4, none⟩ = some (.string (rdOf ByteArray.empty t178 4)) ∧ w35.cell? ⟨ad183.block, ad183.off + 3, none⟩ = some (.string (rdOf ByteArray.empty t178 3)) ∧ w35.cell? ⟨ad183.block, ad183.off + 2, none⟩ = some (.string (rdOf ByteArray.empty t178 2)) ∧ w35.cell? ⟨ad183.block, ad183.off + 5, none⟩ = some (.string (rdOf ByteArray.empty t178 5)) := hS_
                              refine norm_ (a' := ?_) ?_ ?_
                              rotate_left
                              · simp only [putAll, Act.put, List.setIfInBounds_toArray, List.set_cons_zero, List.set_cons_succ]
                                rfl
                              refine one_ (i := 25) (N := some 8) bq8_0 rfl rfl (one_of HT_.out (by kernel_rfl)) (by decide) (fun K hK => ?_)
                              refine box_step ?hg (N := 8) ?hd (cs := #[.int .i64 0, .int .i64 0, .int .i64 0, .int .i64 0, .int .i64 0]) (t := 26) ?hr ?_; (case hd => rfl); (case hg => rfl); (case hr => first | (go_simp; done) | (go_simp; rfl))
                              intro gb197 hg w36 hbox hb
                              have HS0_ := (hb.cell (World.block_lt_of_cell? _ _ (hHeld.1))).trans (hHeld.1)
                              have HS1_ := (hb.cell (World.block_lt_of_cell? _ _ (hHeld.2.1))).trans (hHeld.2.1)
                              have HS2_ := (hb.cell (World.block_lt_of_cell? _ _ (hHeld.2.2.1))).trans (hHeld.2.2.1)
                              have HS3_ := (hb.cell (World.block_lt_of_cell? _ _ (hHeld.2.2.2))).trans (hHeld.2.2.2)
                              have n0_ := Aside0.mk (Kd.R_below (by (with_reducible repeat (first | apply Kd.R_alloc | apply Kd.R_drewN | apply Kd.R_drew)); exact HO_4.out) hb)
                              have n1_ := Aside0.mk (blk_below (g := gb177) (o := .cells #[.int .i64 0, .int .i64 0, .int .i64 0, .int .i64 0, .int .i64 0] 26 (0, 0)) (by (with_reducible repeat (first | refine blk_drewN ?_ _ | refine blk_drew ?_ | refine blk_alloc ?_ _)); exact BK177.out) hb)
                              have n2_ := Aside0.mk (below_step (by repeat (first | (with_reducible first | exact HB.out | apply below_alloc | apply pw_below_drewN | apply below_drew1 | refine below_set ?_ GE177.out) | exact HB.out)) hb)
                              have n3_ := Aside0.mk (hbox)
                              have n4_ := Aside0.mk ((by rw [hg]; exact (below_size (by repeat (first | (with_reducible first | exact HB.out | apply below_alloc | apply pw_below_drewN | apply below_drew1 | refine below_set ?_ GE177.out) | exact HB.out))) : w.heap.size ≤ gb197))
                              have n5_ := Aside0.mk ((by rw [hg]; exact (below_size (by repeat (first | (with_reducible first | exact HB.out | apply below_alloc | apply pw_below_drewN | apply below_drew1 | refine below_set ?_ GE177.out) | exact HB.out))) : w.heap.size ≤ gb197))
                              have n6_ := Aside0.mk ((by rw [hg]; exact Nat.ne_of_lt (blk_lt (g := gb177) (o := .cells #[.int .i64 0, .int .i64 0, .int .i64 0, .int .i64 0, .int .i64 0] 26 (0, 0)) (by (with_reducible repeat (first | refine blk_drewN ?_ _ | refine blk_drew ?_ | refine blk_alloc ?_ _)); exact BK177.out)) : gb177 ≠ gb197))
                              have n7_ := Aside0.mk ((by rw [hg]; exact Nat.ne_of_gt (blk_lt (g := gb177) (o := .cells #[.int .i64 0, .int .i64 0, .int .i64 0, .int .i64 0, .int .i64 0] 26 (0, 0)) (by (with_reducible repeat (first | refine blk_drewN ?_ _ | refine blk_drew ?_ | refine blk_alloc ?_ _)); exact BK177.out)) : gb197 ≠ gb177))
                              clear HO_4
                              clear BK177
                              clear HB
                              have HO_4 := n0_
                              have BK177 := n1_
                              have HB := n2_
                              have BK197 := n3_
                              have GW197 := n4_
                              have GE197 := n5_
                              have NB177_197 := n6_
                              have NB197_177 := n7_
                              clear n0_ n1_ n2_ n3_ n4_ n5_ n6_ n7_
                              clear hb hbox hg
                              refine hK.out _ _ ⟨HS0_, HS1_, HS2_, HS3_⟩ (fun hHeld => ?_)
                              clear hK K
                              refine norm_ (a' := ?_) ?_ ?_
                              rotate_left
                              · show Act.put _ (some 8) _ = _
                                simp only [Act.put, List.setIfInBounds_toArray, List.set_cons_zero, List.set_cons_succ, i64_w, i32_w]
                                rfl
                              exact norm_ (by first | (simp only [putAll, Act.put, List.setIfInBounds_toArray, List.set_cons_zero, List.set_cons_succ]; done) | (simp only [putAll, Act.put, List.setIfInBounds_toArray, List.set_cons_zero, List.set_cons_succ]; rfl)) (hJ3_7_11_23_25 (gb197) _ ⟨hHeld, (by (with_reducible repeat (first | apply Kd.R_alloc | apply Kd.R_drewN | apply Kd.R_drew)); exact HO_4.out), (by (with_reducible repeat (first | refine blk_drewN ?_ _ | refine blk_drew ?_ | refine blk_alloc ?_ _)); exact BK177.out), (by (with_reducible repeat (first | refine blk_drewN ?_ _ | refine blk_drew ?_ | refine blk_alloc ?_ _)); exact BK197.out), GW197.out, GE197.out, NB177_197.out, NB197_177.out, (by repeat (first | (with_reducible first | exact HB.out | apply below_alloc | apply pw_below_drewN | apply below_drew1 | refine below_set ?_ GE177.out | refine below_set ?_ GE197.out) | exact HB.out))⟩)
                          rintro gb197 w36 ⟨hS_, h0_, h1_, h2_, h3_, h4_, h5_, h6_, h7_⟩
                          have n0_ : Aside0 (Kd.R Kd.string 9 w36 w.heap.size (fun _ => True) (.slice (some ad183) t178.length co33) t178) := ⟨h0_⟩
                          have n1_ : Aside0 (w36.heap[gb177]? = some (.cells #[.int .i64 0, .int .i64 0, .int .i64 0, .int .i64 0, .int .i64 0] 26 (0, 0))) := ⟨h1_⟩
                          have n2_ : Aside0 (w36.heap[gb197]? = some (.cells #[.int .i64 0, .int .i64 0, .int .i64 0, .int .i64 0, .int .i64 0] 26 (0, 0))) := ⟨h2_⟩
                          have n3_ : Aside0 (w.heap.size ≤ gb197) := ⟨h3_⟩
                          have n4_ : Aside0 (w.heap.size ≤ gb197) := ⟨h4_⟩
                          have n5_ : Aside0 (gb177 ≠ gb197) := ⟨h5_⟩
                          have n6_ : Aside0 (gb197 ≠ gb177) := ⟨h6_⟩
                          have n7_ : Aside0 (Below w.heap.size w w36) := ⟨h7_⟩
                          clear HO_4
                          clear BK177
                          clear HB
                          clear h0_ h1_ h2_ h3_ h4_ h5_ h6_ h7_
                          have HO_4 := n0_
                          have BK177 := n1_
                          have BK197 := n2_
                          have GW197 := n3_
                          have GE197 := n4_
                          have NB177_197 := n5_
                          have NB197_177 := n6_
                          have HB := n7_
                          clear n0_ n1_ n2_ n3_ n4_ n5_ n6_ n7_
                          have hHeld : w36.cell? ⟨ad183.block, ad183.off + 4, none⟩ = some (.string (rdOf ByteArray.empty t178 4)) ∧ w36.cell? ⟨ad183.block, ad183.off + 3, none⟩ = some (.string (rdOf ByteArray.empty t178 3)) ∧ w36.cell? ⟨ad183.block, ad183.off + 2, none⟩ = some (.string (rdOf ByteArray.empty t178 2)) ∧ w36.cell? ⟨ad183.block, ad183.off + 5, none⟩ = some (.string (rdOf ByteArray.empty t178 5)) := hS_
                          refine norm_ (a' := ?_) ?_ ?_
                          rotate_left
                          · simp only [putAll, Act.put, List.setIfInBounds_toArray, List.set_cons_zero, List.set_cons_succ]
                            rfl
                          refine one_ (i := 26) (N := none) #[true, true, true, true, true, true, true, true, true, true, true, true, true, true, true, true, true, true, true, true, true, true, true, true, true, true, true] rfl rfl (one_of HT_.out (by kernel_rfl)) (by decide) (fun K hK => ?_)
                          have hs37 : w36.cell? ⟨gb197, 0, none⟩ = some (.int .i64 0) := (blk_cell BK197.out 0).trans rfl
                          have hfs37 := blk_frozen BK197.out 0
                          have hns37_0 := NB177_197.out
                          have hms37_0 := NB197_177.out
                          have hs38 : w36.cell? ⟨gb197, 1, none⟩ = some (.int .i64 0) := (blk_cell BK197.out 1).trans rfl
                          have hfs38 := blk_frozen BK197.out 1
                          have hns38_0 := NB177_197.out
                          have hms38_0 := NB197_177.out
                          have hs39 : w36.cell? ⟨gb197, 2, none⟩ = some (.int .i64 0) := (blk_cell BK197.out 2).trans rfl
                          have hfs39 := blk_frozen BK197.out 2
                          have hns39_0 := NB177_197.out
                          have hms39_0 := NB197_177.out
                          have hs40 : w36.cell? ⟨gb197, 3, none⟩ = some (.int .i64 0) := (blk_cell BK197.out 3).trans rfl
                          have hfs40 := blk_frozen BK197.out 3
                          have hns40_0 := NB177_197.out
                          have hms40_0 := NB197_177.out
                          have hs41 : w36.cell? ⟨gb197, 4, none⟩ = some (.int .i64 0) := (blk_cell BK197.out 4).trans rfl
                          have hfs41 := blk_frozen BK197.out 4
                          have hns41_0 := NB177_197.out
                          have hms41_0 := NB197_177.out
                          refine skip_ (w1 := ?_) (by rfl) rfl ?_ ?_
                          rotate_left
                          · go_simp
                            rfl
                          refine hK.out _ _ ⟨((cell_far (p := ⟨gb197, _, none⟩) (by first | (rw [add_block]; exact Kd.own_blk (Kd.R_ne HO_4.out BK197.out (by decide))) | (show (Addr.add _ _).block ≠ _; rw [add_block]; exact Kd.own_blk (Kd.R_ne HO_4.out BK197.out (by decide))) | (dsimp only; exact Kd.own_blk (Kd.R_ne HO_4.out BK197.out (by decide))) | exact Kd.own_blk (Kd.R_ne HO_4.out BK197.out (by decide))) _).trans (((cell_far (p := ⟨gb197, _, none⟩) (by first | (rw [add_block]; exact Kd.own_blk (Kd.R_ne HO_4.out BK197.out (by decide))) | (show (Addr.add _ _).block ≠ _; rw [add_block]; exact Kd.own_blk (Kd.R_ne HO_4.out BK197.out (by decide))) | (dsimp only; exact Kd.own_blk (Kd.R_ne HO_4.out BK197.out (by decide))) | exact Kd.own_blk (Kd.R_ne HO_4.out BK197.out (by decide))) _).trans (((cell_far (p := ⟨gb197, _, none⟩) (by first | (rw [add_block]; exact Kd.own_blk (Kd.R_ne HO_4.out BK197.out (by decide))) | (show (Addr.add _ _).block ≠ _; rw [add_block]; exact Kd.own_blk (Kd.R_ne HO_4.out BK197.out (by decide))) | (dsimp only; exact Kd.own_blk (Kd.R_ne HO_4.out BK197.out (by decide))) | exact Kd.own_blk (Kd.R_ne HO_4.out BK197.out (by decide))) _).trans (((cell_far (p := ⟨gb197, _, none⟩) (by first | (rw [add_block]; exact Kd.own_blk (Kd.R_ne HO_4.out BK197.out (by decide))) | (show (Addr.add _ _).block ≠ _; rw [add_block]; exact Kd.own_blk (Kd.R_ne HO_4.out BK197.out (by decide))) | (dsimp only; exact Kd.own_blk (Kd.R_ne HO_4.out BK197.out (by decide))) | exact Kd.own_blk (Kd.R_ne HO_4.out BK197.out (by decide))) _).trans (((cell_far (p := ⟨gb197, _, none⟩) (by first | (rw [add_block]; exact Kd.own_blk (Kd.R_ne HO_4.out BK197.out (by decide))) | (show (Addr.add _ _).block ≠ _; rw [add_block]; exact Kd.own_blk (Kd.R_ne HO_4.out BK197.out (by decide))) | (dsimp only; exact Kd.own_blk (Kd.R_ne HO_4.out BK197.out (by decide))) | exact Kd.own_blk (Kd.R_ne HO_4.out BK197.out (by decide))) _).trans (hHeld.1)))))))))), ((cell_far (p := ⟨gb197, _, none⟩) (by first | (rw [add_block]; exact Kd.own_blk (Kd.R_ne HO_4.out BK197.out (by decide))) | (show (Addr.add _ _).block ≠ _; rw [add_block]; exact Kd.own_blk (Kd.R_ne HO_4.out BK197.out (by decide))) | (dsimp only; exact Kd.own_blk (Kd.R_ne HO_4.out BK197.out (by decide))) | exact Kd.own_blk (Kd.R_ne HO_4.out BK197.out (by decide))) _).trans (((cell_far (p := ⟨gb197, _, none⟩) (by first | (rw [add_block]; exact Kd.own_blk (Kd.R_ne HO_4.out BK197.out (by decide))) | (show (Addr.add _ _).block ≠ _; rw [add_block]; exact Kd.own_blk (Kd.R_ne HO_4.out BK197.out (by decide))) | (dsimp only; exact Kd.own_blk (Kd.R_ne HO_4.out BK197.out (by decide))) | exact Kd.own_blk (Kd.R_ne HO_4.out BK197.out (by decide))) _).trans (((cell_far (p := ⟨gb197, _, none⟩) (by first | (rw [add_block]; exact Kd.own_blk (Kd.R_ne HO_4.out BK197.out (by decide))) | (show (Addr.add _ _).block ≠ _; rw [add_block]; exact Kd.own_blk (Kd.R_ne HO_4.out BK197.out (by decide))) | (dsimp only; exact Kd.own_blk (Kd.R_ne HO_4.out BK197.out (by decide))) | exact Kd.own_blk (Kd.R_ne HO_4.out BK197.out (by decide))) _).trans (((cell_far (p := ⟨gb197, _, none⟩) (by first | (rw [add_block]; exact Kd.own_blk (Kd.R_ne HO_4.out BK197.out (by decide))) | (show (Addr.add _ _).block ≠ _; rw [add_block]; exact Kd.own_blk (Kd.R_ne HO_4.out BK197.out (by decide))) | (dsimp only; exact Kd.own_blk (Kd.R_ne HO_4.out BK197.out (by decide))) | exact Kd.own_blk (Kd.R_ne HO_4.out BK197.out (by decide))) _).trans (((cell_far (p := ⟨gb197, _, none⟩) (by first | (rw [add_block]; exact Kd.own_blk (Kd.R_ne HO_4.out BK197.out (by decide))) | (show (Addr.add _ _).block ≠ _; rw [add_block]; exact Kd.own_blk (Kd.R_ne HO_4.out BK197.out (by decide))) | (dsimp only; exact Kd.own_blk (Kd.R_ne HO_4.out BK197.out (by decide))) | exact Kd.own_blk (Kd.R_ne HO_4.out BK197.out (by decide))) _).trans (hHeld.2.1)))))))))), ((cell_far (p := ⟨gb197, _, none⟩) (by first | (rw [add_block]; exact Kd.own_blk (Kd.R_ne HO_4.out BK197.out (by decide))) | (show (Addr.add _ _).block ≠ _; rw [add_block]; exact Kd.own_blk (Kd.R_ne HO_4.out BK197.out (by decide))) | (dsimp only; exact Kd.own_blk (Kd.R_ne HO_4.out BK197.out (by decide))) | exact Kd.own_blk (Kd.R_ne HO_4.out BK197.out (by decide))) _).trans (((cell_far (p := ⟨gb197, _, none⟩) (by first | (rw [add_block]; exact Kd.own_blk (Kd.R_ne HO_4.out BK197.out (by decide))) | (show (Addr.add _ _).block ≠ _; rw [add_block]; exact Kd.own_blk (Kd.R_ne HO_4.out BK197.out (by decide))) | (dsimp only; exact Kd.own_blk (Kd.R_ne HO_4.out BK197.out (by decide))) | exact Kd.own_blk (Kd.R_ne HO_4.out BK197.out (by decide))) _).trans (((cell_far (p := ⟨gb197, _, none⟩) (by first | (rw [add_block]; exact Kd.own_blk (Kd.R_ne HO_4.out BK197.out (by decide))) | (show (Addr.add _ _).block ≠ _; rw [add_block]; exact Kd.own_blk (Kd.R_ne HO_4.out BK197.out (by decide))) | (dsimp only; exact Kd.own_blk (Kd.R_ne HO_4.out BK197.out (by decide))) | exact Kd.own_blk (Kd.R_ne HO_4.out BK197.out (by decide))) _).trans (((cell_far (p := ⟨gb197, _, none⟩) (by first | (rw [add_block]; exact Kd.own_blk (Kd.R_ne HO_4.out BK197.out (by decide))) | (show (Addr.add _ _).block ≠ _; rw [add_block]; exact Kd.own_blk (Kd.R_ne HO_4.out BK197.out (by decide))) | (dsimp only; exact Kd.own_blk (Kd.R_ne HO_4.out BK197.out (by decide))) | exact Kd.own_blk (Kd.R_ne HO_4.out BK197.out (by decide))) _).trans (((cell_far (p := ⟨gb197, _, none⟩) (by first | (rw [add_block]; exact Kd.own_blk (Kd.R_ne HO_4.out BK197.out (by decide))) | (show (Addr.add _ _).block ≠ _; rw [add_block]; exact Kd.own_blk (Kd.R_ne HO_4.out BK197.out (by decide))) | (dsimp only; exact Kd.own_blk (Kd.R_ne HO_4.out BK197.out (by decide))) | exact Kd.own_blk (Kd.R_ne HO_4.out BK197.out (by decide))) _).trans (hHeld.2.2.1)))))))))), ((cell_far (p := ⟨gb197, _, none⟩) (by first | (rw [add_block]; exact Kd.own_blk (Kd.R_ne HO_4.out BK197.out (by decide))) | (show (Addr.add _ _).block ≠ _; rw [add_block]; exact Kd.own_blk (Kd.R_ne HO_4.out BK197.out (by decide))) | (dsimp only; exact Kd.own_blk (Kd.R_ne HO_4.out BK197.out (by decide))) | exact Kd.own_blk (Kd.R_ne HO_4.out BK197.out (by decide))) _).trans (((cell_far (p := ⟨gb197, _, none⟩) (by first | (rw [add_block]; exact Kd.own_blk (Kd.R_ne HO_4.out BK197.out (by decide))) | (show (Addr.add _ _).block ≠ _; rw [add_block]; exact Kd.own_blk (Kd.R_ne HO_4.out BK197.out (by decide))) | (dsimp only; exact Kd.own_blk (Kd.R_ne HO_4.out BK197.out (by decide))) | exact Kd.own_blk (Kd.R_ne HO_4.out BK197.out (by decide))) _).trans (((cell_far (p := ⟨gb197, _, none⟩) (by first | (rw [add_block]; exact Kd.own_blk (Kd.R_ne HO_4.out BK197.out (by decide))) | (show (Addr.add _ _).block ≠ _; rw [add_block]; exact Kd.own_blk (Kd.R_ne HO_4.out BK197.out (by decide))) | (dsimp only; exact Kd.own_blk (Kd.R_ne HO_4.out BK197.out (by decide))) | exact Kd.own_blk (Kd.R_ne HO_4.out BK197.out (by decide))) _).trans (((cell_far (p := ⟨gb197, _, none⟩) (by first | (rw [add_block]; exact Kd.own_blk (Kd.R_ne HO_4.out BK197.out (by decide))) | (show (Addr.add _ _).block ≠ _; rw [add_block]; exact Kd.own_blk (Kd.R_ne HO_4.out BK197.out (by decide))) | (dsimp only; exact Kd.own_blk (Kd.R_ne HO_4.out BK197.out (by decide))) | exact Kd.own_blk (Kd.R_ne HO_4.out BK197.out (by decide))) _).trans (((cell_far (p := ⟨gb197, _, none⟩) (by first | (rw [add_block]; exact Kd.own_blk (Kd.R_ne HO_4.out BK197.out (by decide))) | (show (Addr.add _ _).block ≠ _; rw [add_block]; exact Kd.own_blk (Kd.R_ne HO_4.out BK197.out (by decide))) | (dsimp only; exact Kd.own_blk (Kd.R_ne HO_4.out BK197.out (by decide))) | exact Kd.own_blk (Kd.R_ne HO_4.out BK197.out (by decide))) _).trans (hHeld.2.2.2))))))))))⟩ (fun hHeld => ?_)
                          clear hK K
                          refine done_ (done_of HT_.out (by kernel_rfl)) ?_
                          have H := HCW.out
                          clear HCW
                          by_cases c32 : t184 < 0
                          · rw [if_pos c32] at H
                            have c32b0 : decide (t184 < 0) = true := decide_eq_true c32
                            clear c32
                            simp only [Option.some.injEq, Prod.mk.injEq] at H
                            obtain ⟨rfl, rfl, rfl, rfl, rfl, rfl⟩ := H
                            have hnb42 := NB177_197.out
                            have hnc42 := NB197_177.out
                            have hcz43_0 : w36.cell? ⟨gb177, 0, none⟩ = some (.int .i64 0) := (blk_cell BK177.out 0).trans rfl
                            have hcz43_1 : w36.cell? ⟨gb177, 1, none⟩ = some (.int .i64 0) := (blk_cell BK177.out 1).trans rfl
                            have hcz43_2 : w36.cell? ⟨gb177, 2, none⟩ = some (.int .i64 0) := (blk_cell BK177.out 2).trans rfl
                            have hcz43_3 : w36.cell? ⟨gb177, 3, none⟩ = some (.int .i64 0) := (blk_cell BK177.out 3).trans rfl
                            have hcz43_4 : w36.cell? ⟨gb177, 4, none⟩ = some (.int .i64 0) := (blk_cell BK177.out 4).trans rfl
                            have hfz43_0 := blk_frozen BK177.out 0
                            have hfz43_1 := blk_frozen BK177.out 1
                            have hfz43_2 := blk_frozen BK177.out 2
                            have hfz43_3 := blk_frozen BK177.out 3
                            have hfz43_4 := blk_frozen BK177.out 4
                            try go_wp2
                            refine bodyPost_ret (results_ct rfl _ _ gb177 26 #[.int .i64 0, .int .i64 0, .int .i64 0, .int .i64 0, .int .i64 0] (0, 0) _ rfl (by (with_reducible repeat (first | refine blk_drewN ?_ _ | refine blk_drew ?_ | refine blk_alloc ?_ _)); refine blk_put (cs := #[.int .i64 0, .int .i64 0, .int .i64 0, .int .i64 0, .int .i64 0]) ?_ 4 _ rfl; (with_reducible repeat (first | refine blk_drewN ?_ _ | refine blk_drew ?_ | refine blk_alloc ?_ _)); refine blk_put (cs := #[.int .i64 0, .int .i64 0, .int .i64 0, .int .i64 0, .int .i64 0]) ?_ 3 _ rfl; (with_reducible repeat (first | refine blk_drewN ?_ _ | refine blk_drew ?_ | refine blk_alloc ?_ _)); refine blk_put (cs := #[.int .i64 0, .int .i64 0, .int .i64 0, .int .i64 0, .int .i64 0]) ?_ 2 _ rfl; (with_reducible repeat (first | refine blk_drewN ?_ _ | refine blk_drew ?_ | refine blk_alloc ?_ _)); refine blk_put (cs := #[.int .i64 0, .int .i64 0, .int .i64 0, .int .i64 0, .int .i64 0]) ?_ 1 _ rfl; (with_reducible repeat (first | refine blk_drewN ?_ _ | refine blk_drew ?_ | refine blk_alloc ?_ _)); refine blk_put (cs := #[.int .i64 0, .int .i64 0, .int .i64 0, .int .i64 0, .int .i64 0]) ?_ 0 _ rfl; (with_reducible repeat (first | refine blk_drewN ?_ _ | refine blk_drew ?_ | refine blk_alloc ?_ _)); refine blk_far ?_ NB177_197.out _; (with_reducible repeat (first | refine blk_drewN ?_ _ | refine blk_drew ?_ | refine blk_alloc ?_ _)); refine blk_far ?_ NB177_197.out _; (with_reducible repeat (first | refine blk_drewN ?_ _ | refine blk_drew ?_ | refine blk_alloc ?_ _)); refine blk_far ?_ NB177_197.out _; (with_reducible repeat (first | refine blk_drewN ?_ _ | refine blk_drew ?_ | refine blk_alloc ?_ _)); refine blk_far ?_ NB177_197.out _; (with_reducible repeat (first | refine blk_drewN ?_ _ | refine blk_drew ?_ | refine blk_alloc ?_ _)); refine blk_far ?_ NB177_197.out _; (with_reducible repeat (first | refine blk_drewN ?_ _ | refine blk_drew ?_ | refine blk_alloc ?_ _)); exact BK177.out) Tryd.underlying26 rfl (by kernel_rfl)) rfl ?_
                            exact ⟨by first | rfl | (simp [errW_none, errW_some] <;> rfl) | (simp [*, errW_none, errW_some] <;> rfl), by repeat (first | (with_reducible first | exact HB.out | apply below_alloc | apply pw_below_drewN | apply below_drew1 | refine below_set ?_ GE177.out | refine below_set ?_ GE197.out) | exact HB.out)⟩
                          · rw [if_neg c32] at H
                            have c32b0 : decide (t184 < 0) = false := decide_eq_false c32
                            clear c32
                            by_cases c44 : t186 < 0
                            · rw [if_pos c44] at H
                              have c44b0 : decide (t186 < 0) = true := decide_eq_true c44
                              clear c44
                              simp only [Option.some.injEq, Prod.mk.injEq] at H
                              obtain ⟨rfl, rfl, rfl, rfl, rfl, rfl⟩ := H
                              have hnb54 := NB177_197.out
                              have hnc54 := NB197_177.out
                              have hcz55_0 : w36.cell? ⟨gb177, 0, none⟩ = some (.int .i64 0) := (blk_cell BK177.out 0).trans rfl
                              have hcz55_1 : w36.cell? ⟨gb177, 1, none⟩ = some (.int .i64 0) := (blk_cell BK177.out 1).trans rfl
                              have hcz55_2 : w36.cell? ⟨gb177, 2, none⟩ = some (.int .i64 0) := (blk_cell BK177.out 2).trans rfl
                              have hcz55_3 : w36.cell? ⟨gb177, 3, none⟩ = some (.int .i64 0) := (blk_cell BK177.out 3).trans rfl
                              have hcz55_4 : w36.cell? ⟨gb177, 4, none⟩ = some (.int .i64 0) := (blk_cell BK177.out 4).trans rfl
                              have hfz55_0 := blk_frozen BK177.out 0
                              have hfz55_1 := blk_frozen BK177.out 1
                              have hfz55_2 := blk_frozen BK177.out 2
                              have hfz55_3 := blk_frozen BK177.out 3
                              have hfz55_4 := blk_frozen BK177.out 4
                              try go_wp2
                              refine bodyPost_ret (results_ct rfl _ _ gb177 26 #[.int .i64 0, .int .i64 0, .int .i64 0, .int .i64 0, .int .i64 0] (0, 0) _ rfl (by (with_reducible repeat (first | refine blk_drewN ?_ _ | refine blk_drew ?_ | refine blk_alloc ?_ _)); refine blk_put (cs := #[.int .i64 0, .int .i64 0, .int .i64 0, .int .i64 0, .int .i64 0]) ?_ 4 _ rfl; (with_reducible repeat (first | refine blk_drewN ?_ _ | refine blk_drew ?_ | refine blk_alloc ?_ _)); refine blk_put (cs := #[.int .i64 0, .int .i64 0, .int .i64 0, .int .i64 0, .int .i64 0]) ?_ 3 _ rfl; (with_reducible repeat (first | refine blk_drewN ?_ _ | refine blk_drew ?_ | refine blk_alloc ?_ _)); refine blk_put (cs := #[.int .i64 0, .int .i64 0, .int .i64 0, .int .i64 0, .int .i64 0]) ?_ 2 _ rfl; (with_reducible repeat (first | refine blk_drewN ?_ _ | refine blk_drew ?_ | refine blk_alloc ?_ _)); refine blk_put (cs := #[.int .i64 0, .int .i64 0, .int .i64 0, .int .i64 0, .int .i64 0]) ?_ 1 _ rfl; (with_reducible repeat (first | refine blk_drewN ?_ _ | refine blk_drew ?_ | refine blk_alloc ?_ _)); refine blk_put (cs := #[.int .i64 0, .int .i64 0, .int .i64 0, .int .i64 0, .int .i64 0]) ?_ 0 _ rfl; (with_reducible repeat (first | refine blk_drewN ?_ _ | refine blk_drew ?_ | refine blk_alloc ?_ _)); refine blk_far ?_ NB177_197.out _; (with_reducible repeat (first | refine blk_drewN ?_ _ | refine blk_drew ?_ | refine blk_alloc ?_ _)); refine blk_far ?_ NB177_197.out _; (with_reducible repeat (first | refine blk_drewN ?_ _ | refine blk_drew ?_ | refine blk_alloc ?_ _)); refine blk_far ?_ NB177_197.out _; (with_reducible repeat (first | refine blk_drewN ?_ _ | refine blk_drew ?_ | refine blk_alloc ?_ _)); refine blk_far ?_ NB177_197.out _; (with_reducible repeat (first | refine blk_drewN ?_ _ | refine blk_drew ?_ | refine blk_alloc ?_ _)); refine blk_far ?_ NB177_197.out _; (with_reducible repeat (first | refine blk_drewN ?_ _ | refine blk_drew ?_ | refine blk_alloc ?_ _)); exact BK177.out) Tryd.underlying26 rfl (by kernel_rfl)) rfl ?_
                              exact ⟨by first | rfl | (simp [errW_none, errW_some] <;> rfl) | (simp [*, errW_none, errW_some] <;> rfl), by repeat (first | (with_reducible first | exact HB.out | apply below_alloc | apply pw_below_drewN | apply below_drew1 | refine below_set ?_ GE177.out | refine below_set ?_ GE197.out) | exact HB.out)⟩
                            · rw [if_neg c44] at H
                              have c44b0 : decide (t186 < 0) = false := decide_eq_false c44
                              clear c44
                              by_cases c56 : t188 < 0
                              · rw [if_pos c56] at H
                                have c56b0 : decide (t188 < 0) = true := decide_eq_true c56
                                clear c56
                                simp only [Option.some.injEq, Prod.mk.injEq] at H
                                obtain ⟨rfl, rfl, rfl, rfl, rfl, rfl⟩ := H
                                have hnb66 := NB177_197.out
                                have hnc66 := NB197_177.out
                                have hcz67_0 : w36.cell? ⟨gb177, 0, none⟩ = some (.int .i64 0) := (blk_cell BK177.out 0).trans rfl
                                have hcz67_1 : w36.cell? ⟨gb177, 1, none⟩ = some (.int .i64 0) := (blk_cell BK177.out 1).trans rfl
                                have hcz67_2 : w36.cell? ⟨gb177, 2, none⟩ = some (.int .i64 0) := (blk_cell BK177.out 2).trans rfl
                                have hcz67_3 : w36.cell? ⟨gb177, 3, none⟩ = some (.int .i64 0) := (blk_cell BK177.out 3).trans rfl
                                have hcz67_4 : w36.cell? ⟨gb177, 4, none⟩ = some (.int .i64 0) := (blk_cell BK177.out 4).trans rfl
                                have hfz67_0 := blk_frozen BK177.out 0
                                have hfz67_1 := blk_frozen BK177.out 1
                                have hfz67_2 := blk_frozen BK177.out 2
                                have hfz67_3 := blk_frozen BK177.out 3
                                have hfz67_4 := blk_frozen BK177.out 4
                                try go_wp2
                                refine bodyPost_ret (results_ct rfl _ _ gb177 26 #[.int .i64 0, .int .i64 0, .int .i64 0, .int .i64 0, .int .i64 0] (0, 0) _ rfl (by (with_reducible repeat (first | refine blk_drewN ?_ _ | refine blk_drew ?_ | refine blk_alloc ?_ _)); refine blk_put (cs := #[.int .i64 0, .int .i64 0, .int .i64 0, .int .i64 0, .int .i64 0]) ?_ 4 _ rfl; (with_reducible repeat (first | refine blk_drewN ?_ _ | refine blk_drew ?_ | refine blk_alloc ?_ _)); refine blk_put (cs := #[.int .i64 0, .int .i64 0, .int .i64 0, .int .i64 0, .int .i64 0]) ?_ 3 _ rfl; (with_reducible repeat (first | refine blk_drewN ?_ _ | refine blk_drew ?_ | refine blk_alloc ?_ _)); refine blk_put (cs := #[.int .i64 0, .int .i64 0, .int .i64 0, .int .i64 0, .int .i64 0]) ?_ 2 _ rfl; (with_reducible repeat (first | refine blk_drewN ?_ _ | refine blk_drew ?_ | refine blk_alloc ?_ _)); refine blk_put (cs := #[.int .i64 0, .int .i64 0, .int .i64 0, .int .i64 0, .int .i64 0]) ?_ 1 _ rfl; (with_reducible repeat (first | refine blk_drewN ?_ _ | refine blk_drew ?_ | refine blk_alloc ?_ _)); refine blk_put (cs := #[.int .i64 0, .int .i64 0, .int .i64 0, .int .i64 0, .int .i64 0]) ?_ 0 _ rfl; (with_reducible repeat (first | refine blk_drewN ?_ _ | refine blk_drew ?_ | refine blk_alloc ?_ _)); refine blk_far ?_ NB177_197.out _; (with_reducible repeat (first | refine blk_drewN ?_ _ | refine blk_drew ?_ | refine blk_alloc ?_ _)); refine blk_far ?_ NB177_197.out _; (with_reducible repeat (first | refine blk_drewN ?_ _ | refine blk_drew ?_ | refine blk_alloc ?_ _)); refine blk_far ?_ NB177_197.out _; (with_reducible repeat (first | refine blk_drewN ?_ _ | refine blk_drew ?_ | refine blk_alloc ?_ _)); refine blk_far ?_ NB177_197.out _; (with_reducible repeat (first | refine blk_drewN ?_ _ | refine blk_drew ?_ | refine blk_alloc ?_ _)); refine blk_far ?_ NB177_197.out _; (with_reducible repeat (first | refine blk_drewN ?_ _ | refine blk_drew ?_ | refine blk_alloc ?_ _)); exact BK177.out) Tryd.underlying26 rfl (by kernel_rfl)) rfl ?_
                                exact ⟨by first | rfl | (simp [errW_none, errW_some] <;> rfl) | (simp [*, errW_none, errW_some] <;> rfl), by repeat (first | (with_reducible first | exact HB.out | apply below_alloc | apply pw_below_drewN | apply below_drew1 | refine below_set ?_ GE177.out | refine below_set ?_ GE197.out) | exact HB.out)⟩
                              · rw [if_neg c56] at H
                                have c56b0 : decide (t188 < 0) = false := decide_eq_false c56
                                clear c56
                                replace H := Option.bind_eq_some_iff.mp H
                                obtain ⟨t198, A680, H⟩ := H
                                replace H : (if t198 = true then ((spec_formatFix.f kj2 t190 t192 t194 (wrap64 ((wrap64 ((wrap64 (3600 * t184)) + (wrap64 (60 * t186)))) + t188)) t196).bind fun t199 => (if t199.toList = a0.toList then (some (t190, t192, t194, wrap64 ((wrap64 ((wrap64 (3600 * t184)) + (wrap64 (60 * t186)))) + t188), t196, true)) else (some (0, 0, 0, 0, 0, false)))) else (some (0, 0, 0, 0, 0, false))) = some (r1, r2, r3, r4, r5, r6) := H
                                have A68 := Aside0.mk A680
                                clear A680
                                by_cases c69 : t198 = true
                                · subst c69
                                  have H1 : ((spec_formatFix.f kj2 t190 t192 t194 (wrap64 ((wrap64 ((wrap64 (3600 * t184)) + (wrap64 (60 * t186)))) + t188)) t196).bind fun t199 => (if t199.toList = a0.toList then (some (t190, t192, t194, wrap64 ((wrap64 ((wrap64 (3600 * t184)) + (wrap64 (60 * t186)))) + t188), t196, true)) else (some (0, 0, 0, 0, 0, false)))) = some (r1, r2, r3, r4, r5, r6) := by rw [if_pos rfl] at H; exact H
                                  clear H
                                  have H := H1
                                  clear H1
                                  replace H := Option.bind_eq_some_iff.mp H
                                  obtain ⟨t199, A700, H⟩ := H
                                  replace H : (if t199.toList = a0.toList then (some (t190, t192, t194, wrap64 ((wrap64 ((wrap64 (3600 * t184)) + (wrap64 (60 * t186)))) + t188), t196, true)) else (some (0, 0, 0, 0, 0, false))) = some (r1, r2, r3, r4, r5, r6) := H
                                  have A70 := Aside0.mk A700
                                  clear A700
                                  by_cases c71 : t199.toList = a0.toList
                                  · rw [if_pos c71] at H
                                    have c71b0 : (t199.toList == a0.toList) = true := beq_iff_eq.mpr c71
                                    have c71b1 : (t199.toList != a0.toList) = false := bne_eq_false_iff_eq.mpr c71
                                    clear c71
                                    simp only [Option.some.injEq, Prod.mk.injEq] at H
                                    obtain ⟨rfl, rfl, rfl, rfl, rfl, rfl⟩ := H
                                    have hnb81 := NB197_177.out
                                    have hnc81 := NB177_197.out
                                    have hcz82_0 : w36.cell? ⟨gb197, 0, none⟩ = some (.int .i64 0) := (blk_cell BK197.out 0).trans rfl
                                    have hcz82_1 : w36.cell? ⟨gb197, 1, none⟩ = some (.int .i64 0) := (blk_cell BK197.out 1).trans rfl
                                    have hcz82_2 : w36.cell? ⟨gb197, 2, none⟩ = some (.int .i64 0) := (blk_cell BK197.out 2).trans rfl
                                    have hcz82_3 : w36.cell? ⟨gb197, 3, none⟩ = some (.int .i64 0) := (blk_cell BK197.out 3).trans rfl
                                    have hcz82_4 : w36.cell? ⟨gb197, 4, none⟩ = some (.int .i64 0) := (blk_cell BK197.out 4).trans rfl
                                    have hfz82_0 := blk_frozen BK197.out 0
                                    have hfz82_1 := blk_frozen BK197.out 1
                                    have hfz82_2 := blk_frozen BK197.out 2
                                    have hfz82_3 := blk_frozen BK197.out 3
                                    have hfz82_4 := blk_frozen BK197.out 4
                                    try go_wp2_with (first | (go_at_call 27; (with_reducible refine (spec_validFix.calls t190 t192 t194 (wrap64 ((wrap64 ((wrap64 (3600 * t184)) + (wrap64 (60 * t186)))) + t188)) t196 true _ A68.out).mono ?_); rintro e w83 ⟨rfl, hb⟩; have n0_ := Aside0.mk (Kd.R_below (by (with_reducible repeat (first | apply Kd.R_alloc | apply Kd.R_drewN | apply Kd.R_drew)); exact (Kd.R_mono (Kd.R_far (p := ⟨gb197, 4, none⟩) (Kd.R_far (p := ⟨gb197, 3, none⟩) (Kd.R_far (p := ⟨gb197, 2, none⟩) (Kd.R_far (p := ⟨gb197, 1, none⟩) (Kd.R_far (p := ⟨gb197, 0, none⟩) (Kd.R_types HO_4.out BK197.out (by decide)) (fun _ hk => hk.2) (.int .i64 t190)) (fun _ hk => hk.2) (.int .i64 t192)) (fun _ hk => hk.2) (.int .i64 t194)) (fun _ hk => hk.2) (.int .i64 (wrap64 ((wrap64 ((wrap64 (3600 * t184)) + (wrap64 (60 * t186)))) + t188)))) (fun _ hk => hk.2) (.int .i64 t196)) (fun _ h_ => h_.1))) hb); have n1_ := Aside0.mk (blk_below (g := gb177) (o := .cells #[.int .i64 0, .int .i64 0, .int .i64 0, .int .i64 0, .int .i64 0] 26 (0, 0)) (by (with_reducible repeat (first | refine blk_drewN ?_ _ | refine blk_drew ?_ | refine blk_alloc ?_ _)); refine blk_far ?_ NB177_197.out _; (with_reducible repeat (first | refine blk_drewN ?_ _ | refine blk_drew ?_ | refine blk_alloc ?_ _)); refine blk_far ?_ NB177_197.out _; (with_reducible repeat (first | refine blk_drewN ?_ _ | refine blk_drew ?_ | refine blk_alloc ?_ _)); refine blk_far ?_ NB177_197.out _; (with_reducible repeat (first | refine blk_drewN ?_ _ | refine blk_drew ?_ | refine blk_alloc ?_ _)); refine blk_far ?_ NB177_197.out _; (with_reducible repeat (first | refine blk_drewN ?_ _ | refine blk_drew ?_ | refine blk_alloc ?_ _)); refine blk_far ?_ NB177_197.out _; (with_reducible repeat (first | refine blk_drewN ?_ _ | refine blk_drew ?_ | refine blk_alloc ?_ _)); exact BK177.out) hb); have n2_ := Aside0.mk (blk_below (g := gb197) (o := .cells #[.int .i64 t190, .int .i64 t192, .int .i64 t194, .int .i64 (wrap64 ((wrap64 ((wrap64 (3600 * t184)) + (wrap64 (60 * t186)))) + t188)), .int .i64 t196] 26 (0, 0)) (by (with_reducible repeat (first | refine blk_drewN ?_ _ | refine blk_drew ?_ | refine blk_alloc ?_ _)); refine blk_put (cs := #[.int .i64 t190, .int .i64 t192, .int .i64 t194, .int .i64 (wrap64 ((wrap64 ((wrap64 (3600 * t184)) + (wrap64 (60 * t186)))) + t188)), .int .i64 0]) ?_ 4 _ rfl; (with_reducible repeat (first | refine blk_drewN ?_ _ | refine blk_drew ?_ | refine blk_alloc ?_ _)); refine blk_put (cs := #[.int .i64 t190, .int .i64 t192, .int .i64 t194, .int .i64 0, .int .i64 0]) ?_ 3 _ rfl; (with_reducible repeat (first | refine blk_drewN ?_ _ | refine blk_drew ?_ | refine blk_alloc ?_ _)); refine blk_put (cs := #[.int .i64 t190, .int .i64 t192, .int .i64 0, .int .i64 0, .int .i64 0]) ?_ 2 _ rfl; (with_reducible repeat (first | refine blk_drewN ?_ _ | refine blk_drew ?_ | refine blk_alloc ?_ _)); refine blk_put (cs := #[.int .i64 t190, .int .i64 0, .int .i64 0, .int .i64 0, .int .i64 0]) ?_ 1 _ rfl; (with_reducible repeat (first | refine blk_drewN ?_ _ | refine blk_drew ?_ | refine blk_alloc ?_ _)); refine blk_put (cs := #[.int .i64 0, .int .i64 0, .int .i64 0, .int .i64 0, .int .i64 0]) ?_ 0 _ rfl; (with_reducible repeat (first | refine blk_drewN ?_ _ | refine blk_drew ?_ | refine blk_alloc ?_ _)); exact BK197.out) hb); have n3_ := Aside0.mk (below_step (by repeat (first | (with_reducible first | exact HB.out | apply below_alloc | apply pw_below_drewN | apply below_drew1 | refine below_set ?_ GE177.out | refine below_set ?_ GE197.out) | exact HB.out)) hb); clear HO_4; clear BK177; clear BK197; clear HB; have HO_4 := n0_; have BK177 := n1_; have BK197 := n2_; have HB := n3_; clear n0_ n1_ n2_ n3_; (try clear hb); (try clear hb2); (try clear hk); (try clear hi); have hcz84_0 : w83.cell? ⟨gb197, 0, none⟩ = some (.int .i64 t190) := (blk_cell BK197.out 0).trans rfl; have hcz84_1 : w83.cell? ⟨gb197, 1, none⟩ = some (.int .i64 t192) := (blk_cell BK197.out 1).trans rfl; have hcz84_2 : w83.cell? ⟨gb197, 2, none⟩ = some (.int .i64 t194) := (blk_cell BK197.out 2).trans rfl; have hcz84_3 : w83.cell? ⟨gb197, 3, none⟩ = some (.int .i64 (wrap64 ((wrap64 ((wrap64 (3600 * t184)) + (wrap64 (60 * t186)))) + t188))) := (blk_cell BK197.out 3).trans rfl; have hcz84_4 : w83.cell? ⟨gb197, 4, none⟩ = some (.int .i64 t196) := (blk_cell BK197.out 4).trans rfl; have hfz84_0 := blk_frozen BK197.out 0; have hfz84_1 := blk_frozen BK197.out 1; have hfz84_2 := blk_frozen BK197.out 2; have hfz84_3 := blk_frozen BK197.out 3; have hfz84_4 := blk_frozen BK197.out 4) | (go_at_call 33; (with_reducible refine (spec_formatFix.calls kj2 t190 t192 t194 (wrap64 ((wrap64 ((wrap64 (3600 * t184)) + (wrap64 (60 * t186)))) + t188)) t196 t199 _ A70.out).mono ?_); rintro e w85 ⟨rfl, hb⟩; have n0_ := Aside0.mk (Kd.R_below (by (with_reducible repeat (first | apply Kd.R_alloc | apply Kd.R_drewN | apply Kd.R_drew)); exact HO_4.out) hb); have n1_ := Aside0.mk (blk_below (g := gb177) (o := .cells #[.int .i64 0, .int .i64 0, .int .i64 0, .int .i64 0, .int .i64 0] 26 (0, 0)) (by (with_reducible repeat (first | refine blk_drewN ?_ _ | refine blk_drew ?_ | refine blk_alloc ?_ _)); exact BK177.out) hb); have n2_ := Aside0.mk (blk_below (g := gb197) (o := .cells #[.int .i64 t190, .int .i64 t192, .int .i64 t194, .int .i64 (wrap64 ((wrap64 ((wrap64 (3600 * t184)) + (wrap64 (60 * t186)))) + t188)), .int .i64 t196] 26 (0, 0)) (by (with_reducible repeat (first | refine blk_drewN ?_ _ | refine blk_drew ?_ | refine blk_alloc ?_ _)); exact BK197.out) hb); have n3_ := Aside0.mk (below_step (by repeat (first | (with_reducible first | exact HB.out | apply below_alloc | apply pw_below_drewN | apply below_drew1 | refine below_set ?_ GE177.out | refine below_set ?_ GE197.out) | exact HB.out)) hb); clear HO_4; clear BK177; clear BK197; clear HB; have HO_4 := n0_; have BK177 := n1_; have BK197 := n2_; have HB := n3_; clear n0_ n1_ n2_ n3_; (try clear hb); (try clear hb2); (try clear hk); (try clear hi); have hcz86_0 : w85.cell? ⟨gb197, 0, none⟩ = some (.int .i64 t190) := (blk_cell BK197.out 0).trans rfl; have hcz86_1 : w85.cell? ⟨gb197, 1, none⟩ = some (.int .i64 t192) := (blk_cell BK197.out 1).trans rfl; have hcz86_2 : w85.cell? ⟨gb197, 2, none⟩ = some (.int .i64 t194) := (blk_cell BK197.out 2).trans rfl; have hcz86_3 : w85.cell? ⟨gb197, 3, none⟩ = some (.int .i64 (wrap64 ((wrap64 ((wrap64 (3600 * t184)) + (wrap64 (60 * t186)))) + t188))) := (blk_cell BK197.out 3).trans rfl; have hcz86_4 : w85.cell? ⟨gb197, 4, none⟩ = some (.int .i64 t196) := (blk_cell BK197.out 4).trans rfl; have hfz86_0 := blk_frozen BK197.out 0; have hfz86_1 := blk_frozen BK197.out 1; have hfz86_2 := blk_frozen BK197.out 2; have hfz86_3 := blk_frozen BK197.out 3; have hfz86_4 := blk_frozen BK197.out 4; have hcz87_0 : w85.cell? ⟨gb177, 0, none⟩ = some (.int .i64 0) := (blk_cell BK177.out 0).trans rfl; have hcz87_1 : w85.cell? ⟨gb177, 1, none⟩ = some (.int .i64 0) := (blk_cell BK177.out 1).trans rfl; have hcz87_2 : w85.cell? ⟨gb177, 2, none⟩ = some (.int .i64 0) := (blk_cell BK177.out 2).trans rfl; have hcz87_3 : w85.cell? ⟨gb177, 3, none⟩ = some (.int .i64 0) := (blk_cell BK177.out 3).trans rfl; have hcz87_4 : w85.cell? ⟨gb177, 4, none⟩ = some (.int .i64 0) := (blk_cell BK177.out 4).trans rfl; have hfz87_0 := blk_frozen BK177.out 0; have hfz87_1 := blk_frozen BK177.out 1; have hfz87_2 := blk_frozen BK177.out 2; have hfz87_3 := blk_frozen BK177.out 3; have hfz87_4 := blk_frozen BK177.out 4))
                                    refine bodyPost_ret (results_ct rfl _ _ gb177 26 #[.int .i64 t190, .int .i64 t192, .int .i64 t194, .int .i64 (wrap64 ((wrap64 ((wrap64 (3600 * t184)) + (wrap64 (60 * t186)))) + t188)), .int .i64 t196] (0, 0) _ rfl (by (with_reducible repeat (first | refine blk_drewN ?_ _ | refine blk_drew ?_ | refine blk_alloc ?_ _)); refine blk_put (cs := #[.int .i64 t190, .int .i64 t192, .int .i64 t194, .int .i64 (wrap64 ((wrap64 ((wrap64 (3600 * t184)) + (wrap64 (60 * t186)))) + t188)), .int .i64 0]) ?_ 4 _ rfl; (with_reducible repeat (first | refine blk_drewN ?_ _ | refine blk_drew ?_ | refine blk_alloc ?_ _)); refine blk_put (cs := #[.int .i64 t190, .int .i64 t192, .int .i64 t194, .int .i64 0, .int .i64 0]) ?_ 3 _ rfl; (with_reducible repeat (first | refine blk_drewN ?_ _ | refine blk_drew ?_ | refine blk_alloc ?_ _)); refine blk_put (cs := #[.int .i64 t190, .int .i64 t192, .int .i64 0, .int .i64 0, .int .i64 0]) ?_ 2 _ rfl; (with_reducible repeat (first | refine blk_drewN ?_ _ | refine blk_drew ?_ | refine blk_alloc ?_ _)); refine blk_put (cs := #[.int .i64 t190, .int .i64 0, .int .i64 0, .int .i64 0, .int .i64 0]) ?_ 1 _ rfl; (with_reducible repeat (first | refine blk_drewN ?_ _ | refine blk_drew ?_ | refine blk_alloc ?_ _)); refine blk_put (cs := #[.int .i64 0, .int .i64 0, .int .i64 0, .int .i64 0, .int .i64 0]) ?_ 0 _ rfl; (with_reducible repeat (first | refine blk_drewN ?_ _ | refine blk_drew ?_ | refine blk_alloc ?_ _)); exact BK177.out) Tryd.underlying26 rfl (by kernel_rfl)) rfl ?_
                                    exact ⟨by first | rfl | (simp [errW_none, errW_some] <;> rfl) | (simp [*, errW_none, errW_some] <;> rfl), by repeat (first | (with_reducible first | exact HB.out | apply below_alloc | apply pw_below_drewN | apply below_drew1 | refine below_set ?_ GE177.out | refine below_set ?_ GE197.out) | exact HB.out)⟩
                                  · rw [if_neg c71] at H
                                    have c71b0 : (t199.toList == a0.toList) = false := beq_eq_false_iff_ne.mpr c71
                                    have c71b1 : (t199.toList != a0.toList) = true := bne_iff_ne.mpr c71
                                    simp only [Option.some.injEq, Prod.mk.injEq] at H
                                    obtain ⟨rfl, rfl, rfl, rfl, rfl, rfl⟩ := H
                                    have hnb97 := NB197_177.out
                                    have hnc97 := NB177_197.out
                                    have hcz98_0 : w36.cell? ⟨gb197, 0, none⟩ = some (.int .i64 0) := (blk_cell BK197.out 0).trans rfl
                                    have hcz98_1 : w36.cell? ⟨gb197, 1, none⟩ = some (.int .i64 0) := (blk_cell BK197.out 1).trans rfl
                                    have hcz98_2 : w36.cell? ⟨gb197, 2, none⟩ = some (.int .i64 0) := (blk_cell BK197.out 2).trans rfl
                                    have hcz98_3 : w36.cell? ⟨gb197, 3, none⟩ = some (.int .i64 0) := (blk_cell BK197.out 3).trans rfl
                                    have hcz98_4 : w36.cell? ⟨gb197, 4, none⟩ = some (.int .i64 0) := (blk_cell BK197.out 4).trans rfl
                                    have hfz98_0 := blk_frozen BK197.out 0
                                    have hfz98_1 := blk_frozen BK197.out 1
                                    have hfz98_2 := blk_frozen BK197.out 2
                                    have hfz98_3 := blk_frozen BK197.out 3
                                    have hfz98_4 := blk_frozen BK197.out 4
                                    try go_wp2_with (first | (go_at_call 27; (with_reducible refine (spec_validFix.calls t190 t192 t194 (wrap64 ((wrap64 ((wrap64 (3600 * t184)) + (wrap64 (60 * t186)))) + t188)) t196 true _ A68.out).mono ?_); rintro e w99 ⟨rfl, hb⟩; have n0_ := Aside0.mk (Kd.R_below (by (with_reducible repeat (first | apply Kd.R_alloc | apply Kd.R_drewN | apply Kd.R_drew)); exact (Kd.R_mono (Kd.R_far (p := ⟨gb197, 4, none⟩) (Kd.R_far (p := ⟨gb197, 3, none⟩) (Kd.R_far (p := ⟨gb197, 2, none⟩) (Kd.R_far (p := ⟨gb197, 1, none⟩) (Kd.R_far (p := ⟨gb197, 0, none⟩) (Kd.R_types HO_4.out BK197.out (by decide)) (fun _ hk => hk.2) (.int .i64 t190)) (fun _ hk => hk.2) (.int .i64 t192)) (fun _ hk => hk.2) (.int .i64 t194)) (fun _ hk => hk.2) (.int .i64 (wrap64 ((wrap64 ((wrap64 (3600 * t184)) + (wrap64 (60 * t186)))) + t188)))) (fun _ hk => hk.2) (.int .i64 t196)) (fun _ h_ => h_.1))) hb); have n1_ := Aside0.mk (blk_below (g := gb177) (o := .cells #[.int .i64 0, .int .i64 0, .int .i64 0, .int .i64 0, .int .i64 0] 26 (0, 0)) (by (with_reducible repeat (first | refine blk_drewN ?_ _ | refine blk_drew ?_ | refine blk_alloc ?_ _)); refine blk_far ?_ NB177_197.out _; (with_reducible repeat (first | refine blk_drewN ?_ _ | refine blk_drew ?_ | refine blk_alloc ?_ _)); refine blk_far ?_ NB177_197.out _; (with_reducible repeat (first | refine blk_drewN ?_ _ | refine blk_drew ?_ | refine blk_alloc ?_ _)); refine blk_far ?_ NB177_197.out _; (with_reducible repeat (first | refine blk_drewN ?_ _ | refine blk_drew ?_ | refine blk_alloc ?_ _)); refine blk_far ?_ NB177_197.out _; (with_reducible repeat (first | refine blk_drewN ?_ _ | refine blk_drew ?_ | refine blk_alloc ?_ _)); refine blk_far ?_ NB177_197.out _; (with_reducible repeat (first | refine blk_drewN ?_ _ | refine blk_drew ?_ | refine blk_alloc ?_ _)); exact BK177.out) hb); have n2_ := Aside0.mk (blk_below (g := gb197) (o := .cells #[.int .i64 t190, .int .i64 t192, .int .i64 t194, .int .i64 (wrap64 ((wrap64 ((wrap64 (3600 * t184)) + (wrap64 (60 * t186)))) + t188)), .int .i64 t196] 26 (0, 0)) (by (with_reducible repeat (first | refine blk_drewN ?_ _ | refine blk_drew ?_ | refine blk_alloc ?_ _)); refine blk_put (cs := #[.int .i64 t190, .int .i64 t192, .int .i64 t194, .int .i64 (wrap64 ((wrap64 ((wrap64 (3600 * t184)) + (wrap64 (60 * t186)))) + t188)), .int .i64 0]) ?_ 4 _ rfl; (with_reducible repeat (first | refine blk_drewN ?_ _ | refine blk_drew ?_ | refine blk_alloc ?_ _)); refine blk_put (cs := #[.int .i64 t190, .int .i64 t192, .int .i64 t194, .int .i64 0, .int .i64 0]) ?_ 3 _ rfl; (with_reducible repeat (first | refine blk_drewN ?_ _ | refine blk_drew ?_ | refine blk_alloc ?_ _)); refine blk_put (cs := #[.int .i64 t190, .int .i64 t192, .int .i64 0, .int .i64 0, .int .i64 0]) ?_ 2 _ rfl; (with_reducible repeat (first | refine blk_drewN ?_ _ | refine blk_drew ?_ | refine blk_alloc ?_ _)); refine blk_put (cs := #[.int .i64 t190, .int .i64 0, .int .i64 0, .int .i64 0, .int .i64 0]) ?_ 1 _ rfl; (with_reducible repeat (first | refine blk_drewN ?_ _ | refine blk_drew ?_ | refine blk_alloc ?_ _)); refine blk_put (cs := #[.int .i64 0, .int .i64 0, .int .i64 0, .int .i64 0, .int .i64 0]) ?_ 0 _ rfl; (with_reducible repeat (first | refine blk_drewN ?_ _ | refine blk_drew ?_ | refine blk_alloc ?_ _)); exact BK197.out) hb); have n3_ := Aside0.mk (below_step (by repeat (first | (with_reducible first | exact HB.out | apply below_alloc | apply pw_below_drewN | apply below_drew1 | refine below_set ?_ GE177.out | refine below_set ?_ GE197.out) | exact HB.out)) hb); clear HO_4; clear BK177; clear BK197; clear HB; have HO_4 := n0_; have BK177 := n1_; have BK197 := n2_; have HB := n3_; clear n0_ n1_ n2_ n3_; (try clear hb); (try clear hb2); (try clear hk); (try clear hi); have hcz100_0 : w99.cell? ⟨gb197, 0, none⟩ = some (.int .i64 t190) := (blk_cell BK197.out 0).trans rfl; have hcz100_1 : w99.cell? ⟨gb197, 1, none⟩ = some (.int .i64 t192) := (blk_cell BK197.out 1).trans rfl; have hcz100_2 : w99.cell? ⟨gb197, 2, none⟩ = some (.int .i64 t194) := (blk_cell BK197.out 2).trans rfl; have hcz100_3 : w99.cell? ⟨gb197, 3, none⟩ = some (.int .i64 (wrap64 ((wrap64 ((wrap64 (3600 * t184)) + (wrap64 (60 * t186)))) + t188))) := (blk_cell BK197.out 3).trans rfl; have hcz100_4 : w99.cell? ⟨gb197, 4, none⟩ = some (.int .i64 t196) := (blk_cell BK197.out 4).trans rfl; have hfz100_0 := blk_frozen BK197.out 0; have hfz100_1 := blk_frozen BK197.out 1; have hfz100_2 := blk_frozen BK197.out 2; have hfz100_3 := blk_frozen BK197.out 3; have hfz100_4 := blk_frozen BK197.out 4) | (go_at_call 33; (with_reducible refine (spec_formatFix.calls kj2 t190 t192 t194 (wrap64 ((wrap64 ((wrap64 (3600 * t184)) + (wrap64 (60 * t186)))) + t188)) t196 t199 _ A70.out).mono ?_); rintro e w101 ⟨rfl, hb⟩; have n0_ := Aside0.mk (Kd.R_below (by (with_reducible repeat (first | apply Kd.R_alloc | apply Kd.R_drewN | apply Kd.R_drew)); exact HO_4.out) hb); have n1_ := Aside0.mk (blk_below (g := gb177) (o := .cells #[.int .i64 0, .int .i64 0, .int .i64 0, .int .i64 0, .int .i64 0] 26 (0, 0)) (by (with_reducible repeat (first | refine blk_drewN ?_ _ | refine blk_drew ?_ | refine blk_alloc ?_ _)); exact BK177.out) hb); have n2_ := Aside0.mk (blk_below (g := gb197) (o := .cells #[.int .i64 t190, .int .i64 t192, .int .i64 t194, .int .i64 (wrap64 ((wrap64 ((wrap64 (3600 * t184)) + (wrap64 (60 * t186)))) + t188)), .int .i64 t196] 26 (0, 0)) (by (with_reducible repeat (first | refine blk_drewN ?_ _ | refine blk_drew ?_ | refine blk_alloc ?_ _)); exact BK197.out) hb); have n3_ := Aside0.mk (below_step (by repeat (first | (with_reducible first | exact HB.out | apply below_alloc | apply pw_below_drewN | apply below_drew1 | refine below_set ?_ GE177.out | refine below_set ?_ GE197.out) | exact HB.out)) hb); clear HO_4; clear BK177; clear BK197; clear HB; have HO_4 := n0_; have BK177 := n1_; have BK197 := n2_; have HB := n3_; clear n0_ n1_ n2_ n3_; (try clear hb); (try clear hb2); (try clear hk); (try clear hi); have hcz102_0 : w101.cell? ⟨gb177, 0, none⟩ = some (.int .i64 0) := (blk_cell BK177.out 0).trans rfl; have hcz102_1 : w101.cell? ⟨gb177, 1, none⟩ = some (.int .i64 0) := (blk_cell BK177.out 1).trans rfl; have hcz102_2 : w101.cell? ⟨gb177, 2, none⟩ = some (.int .i64 0) := (blk_cell BK177.out 2).trans rfl; have hcz102_3 : w101.cell? ⟨gb177, 3, none⟩ = some (.int .i64 0) := (blk_cell BK177.out 3).trans rfl; have hcz102_4 : w101.cell? ⟨gb177, 4, none⟩ = some (.int .i64 0) := (blk_cell BK177.out 4).trans rfl; have hfz102_0 := blk_frozen BK177.out 0; have hfz102_1 := blk_frozen BK177.out 1; have hfz102_2 := blk_frozen BK177.out 2; have hfz102_3 := blk_frozen BK177.out 3; have hfz102_4 := blk_frozen BK177.out 4))
                                    refine bodyPost_ret (results_ct rfl _ _ gb177 26 #[.int .i64 0, .int .i64 0, .int .i64 0, .int .i64 0, .int .i64 0] (0, 0) _ rfl (by (with_reducible repeat (first | refine blk_drewN ?_ _ | refine blk_drew ?_ | refine blk_alloc ?_ _)); refine blk_put (cs := #[.int .i64 0, .int .i64 0, .int .i64 0, .int .i64 0, .int .i64 0]) ?_ 4 _ rfl; (with_reducible repeat (first | refine blk_drewN ?_ _ | refine blk_drew ?_ | refine blk_alloc ?_ _)); refine blk_put (cs := #[.int .i64 0, .int .i64 0, .int .i64 0, .int .i64 0, .int .i64 0]) ?_ 3 _ rfl; (with_reducible repeat (first | refine blk_drewN ?_ _ | refine blk_drew ?_ | refine blk_alloc ?_ _)); refine blk_put (cs := #[.int .i64 0, .int .i64 0, .int .i64 0, .int .i64 0, .int .i64 0]) ?_ 2 _ rfl; (with_reducible repeat (first | refine blk_drewN ?_ _ | refine blk_drew ?_ | refine blk_alloc ?_ _)); refine blk_put (cs := #[.int .i64 0, .int .i64 0, .int .i64 0, .int .i64 0, .int .i64 0]) ?_ 1 _ rfl; (with_reducible repeat (first | refine blk_drewN ?_ _ | refine blk_drew ?_ | refine blk_alloc ?_ _)); refine blk_put (cs := #[.int .i64 0, .int .i64 0, .int .i64 0, .int .i64 0, .int .i64 0]) ?_ 0 _ rfl; (with_reducible repeat (first | refine blk_drewN ?_ _ | refine blk_drew ?_ | refine blk_alloc ?_ _)); exact BK177.out) Tryd.underlying26 rfl (by kernel_rfl)) rfl ?_
                                    exact ⟨by first | rfl | (simp [errW_none, errW_some] <;> rfl) | (simp [*, errW_none, errW_some] <;> rfl), by repeat (first | (with_reducible first | exact HB.out | apply below_alloc | apply pw_below_drewN | apply below_drew1 | refine below_set ?_ GE177.out | refine below_set ?_ GE197.out) | exact HB.out)⟩
                                · replace c69 := Bool.eq_false_iff.mpr c69
                                  subst c69
                                  have H1 : (some (0, 0, 0, 0, 0, false)) = some (r1, r2, r3, r4, r5, r6) := by rw [if_neg (show ¬ (false = true) by decide)] at H; exact H
                                  clear H
                                  have H := H1
                                  clear H1
                                  simp only [Option.some.injEq, Prod.mk.injEq] at H
                                  obtain ⟨rfl, rfl, rfl, rfl, rfl, rfl⟩ := H
                                  have hnb112 := NB197_177.out
                                  have hnc112 := NB177_197.out
                                  have hcz113_0 : w36.cell? ⟨gb197, 0, none⟩ = some (.int .i64 0) := (blk_cell BK197.out 0).trans rfl
                                  have hcz113_1 : w36.cell? ⟨gb197, 1, none⟩ = some (.int .i64 0) := (blk_cell BK197.out 1).trans rfl
                                  have hcz113_2 : w36.cell? ⟨gb197, 2, none⟩ = some (.int .i64 0) := (blk_cell BK197.out 2).trans rfl
                                  have hcz113_3 : w36.cell? ⟨gb197, 3, none⟩ = some (.int .i64 0) := (blk_cell BK197.out 3).trans rfl
                                  have hcz113_4 : w36.cell? ⟨gb197, 4, none⟩ = some (.int .i64 0) := (blk_cell BK197.out 4).trans rfl
                                  have hfz113_0 := blk_frozen BK197.out 0
                                  have hfz113_1 := blk_frozen BK197.out 1
                                  have hfz113_2 := blk_frozen BK197.out 2
                                  have hfz113_3 := blk_frozen BK197.out 3
                                  have hfz113_4 := blk_frozen BK197.out 4
                                  try go_wp2_with (first | (go_at_call 27; (with_reducible refine (spec_validFix.calls t190 t192 t194 (wrap64 ((wrap64 ((wrap64 (3600 * t184)) + (wrap64 (60 * t186)))) + t188)) t196 false _ A68.out).mono ?_); rintro e w114 ⟨rfl, hb⟩; have n0_ := Aside0.mk (Kd.R_below (by (with_reducible repeat (first | apply Kd.R_alloc | apply Kd.R_drewN | apply Kd.R_drew)); exact (Kd.R_mono (Kd.R_far (p := ⟨gb197, 4, none⟩) (Kd.R_far (p := ⟨gb197, 3, none⟩) (Kd.R_far (p := ⟨gb197, 2, none⟩) (Kd.R_far (p := ⟨gb197, 1, none⟩) (Kd.R_far (p := ⟨gb197, 0, none⟩) (Kd.R_types HO_4.out BK197.out (by decide)) (fun _ hk => hk.2) (.int .i64 t190)) (fun _ hk => hk.2) (.int .i64 t192)) (fun _ hk => hk.2) (.int .i64 t194)) (fun _ hk => hk.2) (.int .i64 (wrap64 ((wrap64 ((wrap64 (3600 * t184)) + (wrap64 (60 * t186)))) + t188)))) (fun _ hk => hk.2) (.int .i64 t196)) (fun _ h_ => h_.1))) hb); have n1_ := Aside0.mk (blk_below (g := gb177) (o := .cells #[.int .i64 0, .int .i64 0, .int .i64 0, .int .i64 0, .int .i64 0] 26 (0, 0)) (by (with_reducible repeat (first | refine blk_drewN ?_ _ | refine blk_drew ?_ | refine blk_alloc ?_ _)); refine blk_far ?_ NB177_197.out _; (with_reducible repeat (first | refine blk_drewN ?_ _ | refine blk_drew ?_ | refine blk_alloc ?_ _)); refine blk_far ?_ NB177_197.out _; (with_reducible repeat (first | refine blk_drewN ?_ _ | refine blk_drew ?_ | refine blk_alloc ?_ _)); refine blk_far ?_ NB177_197.out _; (with_reducible repeat (first | refine blk_drewN ?_ _ | refine blk_drew ?_ | refine blk_alloc ?_ _)); refine blk_far ?_ NB177_197.out _; (with_reducible repeat (first | refine blk_drewN ?_ _ | refine blk_drew ?_ | refine blk_alloc ?_ _)); refine blk_far ?_ NB177_197.out _; (with_reducible repeat (first | refine blk_drewN ?_ _ | refine blk_drew ?_ | refine blk_alloc ?_ _)); exact BK177.out) hb); have n2_ := Aside0.mk (blk_below (g := gb197) (o := .cells #[.int .i64 t190, .int .i64 t192, .int .i64 t194, .int .i64 (wrap64 ((wrap64 ((wrap64 (3600 * t184)) + (wrap64 (60 * t186)))) + t188)), .int .i64 t196] 26 (0, 0)) (by (with_reducible repeat (first | refine blk_drewN ?_ _ | refine blk_drew ?_ | refine blk_alloc ?_ _)); refine blk_put (cs := #[.int .i64 t190, .int .i64 t192, .int .i64 t194, .int .i64 (wrap64 ((wrap64 ((wrap64 (3600 * t184)) + (wrap64 (60 * t186)))) + t188)), .int .i64 0]) ?_ 4 _ rfl; (with_reducible repeat (first | refine blk_drewN ?_ _ | refine blk_drew ?_ | refine blk_alloc ?_ _)); refine blk_put (cs := #[.int .i64 t190, .int .i64 t192, .int .i64 t194, .int .i64 0, .int .i64 0]) ?_ 3 _ rfl; (with_reducible repeat (first | refine blk_drewN ?_ _ | refine blk_drew ?_ | refine blk_alloc ?_ _)); refine blk_put (cs := #[.int .i64 t190, .int .i64 t192, .int .i64 0, .int .i64 0, .int .i64 0]) ?_ 2 _ rfl; (with_reducible repeat (first | refine blk_drewN ?_ _ | refine blk_drew ?_ | refine blk_alloc ?_ _)); refine blk_put (cs := #[.int .i64 t190, .int .i64 0, .int .i64 0, .int .i64 0, .int .i64 0]) ?_ 1 _ rfl; (with_reducible repeat (first | refine blk_drewN ?_ _ | refine blk_drew ?_ | refine blk_alloc ?_ _)); refine blk_put (cs := #[.int .i64 0, .int .i64 0, .int .i64 0, .int .i64 0, .int .i64 0]) ?_ 0 _ rfl; (with_reducible repeat (first | refine blk_drewN ?_ _ | refine blk_drew ?_ | refine blk_alloc ?_ _)); exact BK197.out) hb); have n3_ := Aside0.mk (below_step (by repeat (first | (with_reducible first | exact HB.out | apply below_alloc | apply pw_below_drewN | apply below_drew1 | refine below_set ?_ GE177.out | refine below_set ?_ GE197.out) | exact HB.out)) hb); clear HO_4; clear BK177; clear BK197; clear HB; have HO_4 := n0_; have BK177 := n1_; have BK197 := n2_; have HB := n3_; clear n0_ n1_ n2_ n3_; (try clear hb); (try clear hb2); (try clear hk); (try clear hi); have hcz115_0 : w114.cell? ⟨gb177, 0, none⟩ = some (.int .i64 0) := (blk_cell BK177.out 0).trans rfl; have hcz115_1 : w114.cell? ⟨gb177, 1, none⟩ = some (.int .i64 0) := (blk_cell BK177.out 1).trans rfl; have hcz115_2 : w114.cell? ⟨gb177, 2, none⟩ = some (.int .i64 0) := (blk_cell BK177.out 2).trans rfl; have hcz115_3 : w114.cell? ⟨gb177, 3, none⟩ = some (.int .i64 0) := (blk_cell BK177.out 3).trans rfl; have hcz115_4 : w114.cell? ⟨gb177, 4, none⟩ = some (.int .i64 0) := (blk_cell BK177.out 4).trans rfl; have hfz115_0 := blk_frozen BK177.out 0; have hfz115_1 := blk_frozen BK177.out 1; have hfz115_2 := blk_frozen BK177.out 2; have hfz115_3 := blk_frozen BK177.out 3; have hfz115_4 := blk_frozen BK177.out 4))
                                  refine bodyPost_ret (results_ct rfl _ _ gb177 26 #[.int .i64 0, .int .i64 0, .int .i64 0, .int .i64 0, .int .i64 0] (0, 0) _ rfl (by (with_reducible repeat (first | refine blk_drewN ?_ _ | refine blk_drew ?_ | refine blk_alloc ?_ _)); refine blk_put (cs := #[.int .i64 0, .int .i64 0, .int .i64 0, .int .i64 0, .int .i64 0]) ?_ 4 _ rfl; (with_reducible repeat (first | refine blk_drewN ?_ _ | refine blk_drew ?_ | refine blk_alloc ?_ _)); refine blk_put (cs := #[.int .i64 0, .int .i64 0, .int .i64 0, .int .i64 0, .int .i64 0]) ?_ 3 _ rfl; (with_reducible repeat (first | refine blk_drewN ?_ _ | refine blk_drew ?_ | refine blk_alloc ?_ _)); refine blk_put (cs := #[.int .i64 0, .int .i64 0, .int .i64 0, .int .i64 0, .int .i64 0]) ?_ 2 _ rfl; (with_reducible repeat (first | refine blk_drewN ?_ _ | refine blk_drew ?_ | refine blk_alloc ?_ _)); refine blk_put (cs := #[.int .i64 0, .int .i64 0, .int .i64 0, .int .i64 0, .int .i64 0]) ?_ 1 _ rfl; (with_reducible repeat (first | refine blk_drewN ?_ _ | refine blk_drew ?_ | refine blk_alloc ?_ _)); refine blk_put (cs := #[.int .i64 0, .int .i64 0, .int .i64 0, .int .i64 0, .int .i64 0]) ?_ 0 _ rfl; (with_reducible repeat (first | refine blk_drewN ?_ _ | refine blk_drew ?_ | refine blk_alloc ?_ _)); exact BK177.out) Tryd.underlying26 rfl (by kernel_rfl)) rfl ?_
                                  exact ⟨by first | rfl | (simp [errW_none, errW_some] <;> rfl) | (simp [*, errW_none, errW_some] <;> rfl), by repeat (first | (with_reducible first | exact HB.out | apply below_alloc | apply pw_below_drewN | apply below_drew1 | refine below_set ?_ GE177.out | refine below_set ?_ GE197.out) | exact HB.out)⟩
                        · rw [if_neg c30] at H
                          exact absurd H (by simp)
                      · rw [if_neg c28] at H
                        exact absurd H (by simp)
                    · rw [if_neg c26] at H
                      exact absurd H (by simp)
                  · rw [if_neg c24] at H
                    exact absurd H (by simp)
                · rw [if_neg c20] at H
                  exact absurd H (by simp)
              · rw [if_neg c19] at H
                exact absurd H (by simp)
            · rw [if_neg c17] at H
              exact absurd H (by simp)
          · rw [if_neg c16] at H
            exact absurd H (by simp)
        · rw [if_neg c15] at H
          exact absurd H (by simp)

end Go.Proofs.YtdggcfpimjdckaaDoor.PFnFixCanonical
