-- Out of a print of the walks, turned by a program of this session; Lean checks it.
import Derived.Test.YtdggcfpimjdckaaGreatDoorPFnExactRunSessionx0
import Derived.Test.YtdggcfpimjdckaaGreatDoorPFnExactRunSessionx1
import Derived.Test.YtdggcfpimjdckaaGreatDoorPFnExactRunSessionx2
import Derived.Test.YtdggcfpimjdckaaGreatDoorPFnExactRunSessionx3
namespace Go.Proofs.YtdggcfpimjdckaaGreatDoor.PFnExactRunSession
open Go.RowKit Go.Proofs.YtdggcfpimjdckaaGreatDoorW.PrintWords Go.Proofs.YtdggcfpimjdckaaGreatDoorW.PrintLast Go.Proofs.YtdggcfpimjdckaaGreatDoorW.PrintMore
attribute [local go_sem] max2_int min2_int max_two min_two max_three min_three max_four min_four   -- for this text's walks alone
set_option linter.unusedVariables false
set_option linter.unusedSimpArgs false

private theorem z1_ {p : Prop} (h : p := by repeat (first | exact (Kd.C_below HR0.out HB.out) | (with_reducible refine Kd.C_alloc ?_ _) | (with_reducible refine Kd.C_drewN ?_ _) | (with_reducible refine Kd.C_drew ?_))) : p := h
private theorem z2_ {p : Prop} (h : p := by rw [hg]; exact (below_size (by repeat (first | (with_reducible first | exact HB.out | apply below_alloc | apply pw_below_drewN | apply below_drew1) | exact HB.out)))) : p := h
private theorem z3_ {p : Prop} (h : p := by repeat (first | (with_reducible first | exact HB.out | apply below_alloc | apply pw_below_drewN | apply below_drew1 | refine below_set ?_ GE175.out) | exact HB.out)) : p := h
private theorem z4_ {p : Prop} (h : p := by repeat (first | (with_reducible first | exact HB.out | apply below_alloc | apply pw_below_drewN | apply below_drew1 | refine below_set ?_ GE179.out) | exact HB.out)) : p := h
private theorem z5_ {p : Prop} (h : p := by (try simp only [List.map_toArray, List.map_cons, List.map_nil]); first | done | rfl | (simp only [List.length_drop, List.length_take]; rfl)) : p := h
private theorem z6_ {p : Prop} (h : p := by repeat (first | (with_reducible first | exact HB.out | apply below_alloc | apply pw_below_drewN | apply below_drew1) | exact HB.out)) : p := h
private theorem z7_ {p : Prop} (h : p := by (with_reducible repeat (first | refine blk_drewN ?_ _ | refine blk_drew ?_ | refine blk_alloc ?_ _)); exact BK175.out) : p := h
private theorem z8_ {p : Prop} (h : p := by (with_reducible repeat (first | refine blk_drewN ?_ _ | refine blk_drew ?_ | refine blk_alloc ?_ _)); exact BK179.out) : p := h
private theorem z9_ {p : Prop} (h : p := by first | rfl | (simp [errW_none, errW_some] <;> rfl) | (simp [*, errW_none, errW_some] <;> rfl)) : p := h
private theorem z10_ {p : Prop} (h : p := by first | (with_reducible assumption) | assumption) : p := h
private theorem z11_ {p : Prop} (h : p := by first | rfl | (simp; done) | (simp [*]; done)) : p := h
/-! ### spec_dayOf: function 54 -/
mutual
def spec_dayOf.l0 : Nat → Int → Int → Int → Int → Int → Option (Int)
  | 0, _, _, _, _, _ => none
  | k + 1, x3, x4, x176000, x176001, x176002 => if x4 < x176000 then ((spec_leap.f x4).bind fun t176 => ((spec_toInt.f t176).bind fun t177 => (spec_dayOf.l0 k (wrap64 ((wrap64 (x3 + 365)) + t177)) (wrap64 (x4 + 1)) x176000 x176001 x176002))) else (spec_dayOf.l1 k x3 1 x176000 x176001 x176002)
def spec_dayOf.l1 : Nat → Int → Int → Int → Int → Int → Option (Int)
  | 0, _, _, _, _, _ => none
  | k + 1, x3, x5, x176000, x176001, x176002 => if x5 < x176001 then ((spec_monthDays.f x176000 x5).bind fun t178 => (spec_dayOf.l1 k (wrap64 (x3 + t178)) (wrap64 (x5 + 1)) x176000 x176001 x176002)) else (some x3)
end
def spec_dayOf.f (k : Nat) (a0_0 : Int) (a0_1 : Int) (a0_2 : Int) : Option (Int) := spec_dayOf.l0 k (wrap64 (a0_2 - 1)) 1980 a0_0 a0_1 a0_2
theorem spec_dayOf.mono_l : ∀ k, (∀ y0 y1 y2 y3 y4, LeO (spec_dayOf.l0 k y0 y1 y2 y3 y4) (spec_dayOf.l0 (k + 1) y0 y1 y2 y3 y4)) ∧ (∀ y0 y1 y2 y3 y4, LeO (spec_dayOf.l1 k y0 y1 y2 y3 y4) (spec_dayOf.l1 (k + 1) y0 y1 y2 y3 y4))
  | 0 => ⟨fun _ _ _ _ _ r h => by simp [spec_dayOf.l0] at h, fun _ _ _ _ _ r h => by simp [spec_dayOf.l1] at h⟩
  | k + 1 => by
    obtain ⟨ih0, ih1⟩ := spec_dayOf.mono_l k
    refine ⟨?_, ?_⟩
    · intro y0 y1 y2 y3 y4
      unfold spec_dayOf.l0
      repeat' first
      | (with_reducible exact ih0 _ _ _ _ _)
      | (with_reducible exact ih1 _ _ _ _ _)
      | (with_reducible exact LeO.refl _)
      | (with_reducible exact LeO.none _)
      | (with_reducible refine LeO.ite ?_ ?_)
      | (with_reducible refine LeO.bind ?_ (fun _ => ?_))
      | exact ih0 _ _ _ _ _
      | exact ih1 _ _ _ _ _
      | exact LeO.none _
      | refine LeO.ite ?_ ?_
      | refine LeO.bind ?_ (fun _ => ?_)
    · intro y0 y1 y2 y3 y4
      unfold spec_dayOf.l1
      repeat' first
      | (with_reducible exact ih0 _ _ _ _ _)
      | (with_reducible exact ih1 _ _ _ _ _)
      | (with_reducible exact LeO.refl _)
      | (with_reducible exact LeO.none _)
      | (with_reducible refine LeO.ite ?_ ?_)
      | (with_reducible refine LeO.bind ?_ (fun _ => ?_))
      | exact ih0 _ _ _ _ _
      | exact ih1 _ _ _ _ _
      | exact LeO.none _
      | refine LeO.ite ?_ ?_
      | refine LeO.bind ?_ (fun _ => ?_)
theorem spec_dayOf.mono : ∀ a0 a1 a2 k, LeO (spec_dayOf.f k a0 a1 a2) (spec_dayOf.f (k + 1) a0 a1 a2) := by
  intro a0 a1 a2 k
  obtain ⟨ih0, ih1⟩ := spec_dayOf.mono_l k
  unfold spec_dayOf.f
  repeat' first
      | (with_reducible exact ih0 _ _ _ _ _)
      | (with_reducible exact ih1 _ _ _ _ _)
      | (with_reducible exact LeO.refl _)
      | (with_reducible exact LeO.none _)
      | (with_reducible refine LeO.ite ?_ ?_)
      | (with_reducible refine LeO.bind ?_ (fun _ => ?_))
      | exact ih0 _ _ _ _ _
      | exact ih1 _ _ _ _ _
      | exact LeO.none _
      | refine LeO.ite ?_ ?_
      | refine LeO.bind ?_ (fun _ => ?_)
set_option maxHeartbeats 8000000 in
set_option maxRecDepth 100000 in
theorem spec_dayOf.calls (k : Nat) (a0_0 : Int) (a0_1 : Int) (a0_2 : Int) (r : Int) (w : World) (h : spec_dayOf.f k a0_0 a0_1 a0_2 = some r) :
    Calls Tryz.prog 54 #[.agg #[.int .i64 a0_0, .int .i64 a0_1, .int .i64 a0_2]] w fun e w' => e = .returned (.int .i64 r) ∧ Below w.heap.size w w' := by
  have hu42 := Tryz.underlying42
  have HB := Aside0.mk (Below.refl w.heap.size w)
  have H : (spec_dayOf.l0 k (wrap64 (a0_2 - 1)) 1980 a0_0 a0_1 a0_2) = some r := h
  clear h
  have H' := Aside0.mk H
  clear H
  go_enter Tryz.func54, Tryz.ntmps54
  go_wp2_with (first | ((with_reducible refine gate_dst (N := 1) rfl ?_); refine box_event ?hg (N := 1) ?hd (cs := #[.int .i64 a0_0, .int .i64 a0_1, .int .i64 a0_2]) (t := 42) ?hr ?_; (case hd => rfl); (case hg => rfl); (case hr => first | (go_simp; done) | (go_simp; rfl)); intro gb175 hg w2 hbox hb; have n0_ := Aside0.mk (below_step (z6_) hb); have n1_ := Aside0.mk (hbox); have n2_ := Aside0.mk ((z2_ : w.heap.size ≤ gb175)); have n3_ := Aside0.mk ((z2_ : w.heap.size ≤ gb175)); clear HB; have HB := n0_; have BK175 := n1_; have GW175 := n2_; have GE175 := n3_; clear n0_ n1_ n2_ n3_; clear hb hbox hg; have hcz3_0 : w2.cell? ⟨gb175, 0, none⟩ = some (.int .i64 a0_0) := (blk_cell BK175.out 0).trans rfl; have hcz3_1 : w2.cell? ⟨gb175, 1, none⟩ = some (.int .i64 a0_1) := (blk_cell BK175.out 1).trans rfl; have hcz3_2 : w2.cell? ⟨gb175, 2, none⟩ = some (.int .i64 a0_2) := (blk_cell BK175.out 2).trans rfl; have hfz3_0 := blk_frozen BK175.out 0; have hfz3_1 := blk_frozen BK175.out 1; have hfz3_2 := blk_frozen BK175.out 2))
  go_loopg [3, 4] k (fun kq v3 v4 w' => ∃ (x3_1 : Int) (x4_1 : Int), v3 = .int .i64 x3_1 ∧ v4 = .int .i64 x4_1 ∧ Aside0 (spec_dayOf.l0 kq x3_1 x4_1 a0_0 a0_1 a0_2 = some r) ∧ Aside0 (kq ≤ k) ∧ Aside0 (w'.heap[gb175]? = some (.cells #[.int .i64 a0_0, .int .i64 a0_1, .int .i64 a0_2] 42 (0, 0))) ∧ Aside0 (Below w.heap.size w w'))
  case atStart => exact ⟨(wrap64 (a0_2 - 1)), (1980), (z11_), (z11_), H', ⟨Nat.le_refl _⟩, ⟨z7_⟩, ⟨z3_⟩⟩
  case round =>
    clear H'
    try clear p2
    try clear hcz3_0
    try clear hcz3_1
    try clear hcz3_2
    try clear hfz3_0
    try clear hfz3_1
    try clear hfz3_2
    obtain ⟨x3_1, x4_1, rfl, rfl, HA, HK1, BK175, HB⟩ := hrel
    cases gk with
    | zero => exact absurd HA.out (by simp [spec_dayOf.l0])
    | succ k1 =>
      have H := HA.out
      clear HA
      simp only [spec_dayOf.l0] at H
      by_cases c4 : x4_1 < a0_0
      · rw [if_pos c4] at H
        have c4b0 : decide (x4_1 < a0_0) = true := decide_eq_true c4
        clear c4
        replace H := Option.bind_eq_some_iff.mp H
        obtain ⟨t176, A50, H⟩ := H
        replace H : ((spec_toInt.f t176).bind fun t177 => (spec_dayOf.l0 k1 (wrap64 ((wrap64 (x3_1 + 365)) + t177)) (wrap64 (x4_1 + 1)) a0_0 a0_1 a0_2)) = some r := H
        have A5 := Aside0.mk A50
        clear A50
        replace H := Option.bind_eq_some_iff.mp H
        obtain ⟨t177, A60, H⟩ := H
        replace H : (spec_dayOf.l0 k1 (wrap64 ((wrap64 (x3_1 + 365)) + t177)) (wrap64 (x4_1 + 1)) a0_0 a0_1 a0_2) = some r := H
        have A6 := Aside0.mk A60
        clear A60
        have H' := Aside0.mk H
        clear H
        have hcz7_0 : wr.cell? ⟨gb175, 0, none⟩ = some (.int .i64 a0_0) := (blk_cell BK175.out 0).trans rfl
        have hcz7_1 : wr.cell? ⟨gb175, 1, none⟩ = some (.int .i64 a0_1) := (blk_cell BK175.out 1).trans rfl
        have hcz7_2 : wr.cell? ⟨gb175, 2, none⟩ = some (.int .i64 a0_2) := (blk_cell BK175.out 2).trans rfl
        have hfz7_0 := blk_frozen BK175.out 0
        have hfz7_1 := blk_frozen BK175.out 1
        have hfz7_2 := blk_frozen BK175.out 2
        go_wp2_with (first | ((with_reducible refine gate_callee (f := 61) rfl ?_); refine goesL_ (some 18) rfl rfl Tryz.func61 (by kernel_rfl) rfl #[.int .i64 x4_1] rfl (z5_) ?_; (with_reducible refine (spec_leap.calls x4_1 t176 _ A5.out).mono ?_); rintro e w' ⟨rfl, ⟨nd, rfl⟩⟩; refine ⟨_, rfl, ?_⟩) | ((with_reducible refine gate_callee (f := 60) rfl ?_); refine goesL_ (some 19) rfl rfl Tryz.func60 (by kernel_rfl) rfl #[.bool t176] rfl (z5_) ?_; (with_reducible refine (spec_toInt.calls t176 t177 _ A6.out).mono ?_); rintro e w' ⟨rfl, ⟨nd, rfl⟩⟩; refine ⟨_, rfl, ?_⟩))
        go_roundg k1
        case measure => have := HK1.out; omega
        case rel => exact ⟨(wrap64 ((wrap64 (x3_1 + 365)) + t177)), (wrap64 (x4_1 + 1)), (z11_), (z11_), H', ⟨by have := HK1.out; omega⟩, ⟨z7_⟩, ⟨z3_⟩⟩
      · rw [if_neg c4] at H
        have c4b0 : decide (x4_1 < a0_0) = false := decide_eq_false c4
        clear c4
        have H' := Aside0.mk H
        clear H
        have hcz8_0 : wr.cell? ⟨gb175, 0, none⟩ = some (.int .i64 a0_0) := (blk_cell BK175.out 0).trans rfl
        have hcz8_1 : wr.cell? ⟨gb175, 1, none⟩ = some (.int .i64 a0_1) := (blk_cell BK175.out 1).trans rfl
        have hcz8_2 : wr.cell? ⟨gb175, 2, none⟩ = some (.int .i64 a0_2) := (blk_cell BK175.out 2).trans rfl
        have hfz8_0 := blk_frozen BK175.out 0
        have hfz8_1 := blk_frozen BK175.out 1
        have hfz8_2 := blk_frozen BK175.out 2
        go_wp2
        go_loopg [3, 5] k1 (fun kq v3 v5 w' => ∃ (x3_2 : Int) (x5_2 : Int), v3 = .int .i64 x3_2 ∧ v5 = .int .i64 x5_2 ∧ Aside0 (spec_dayOf.l1 kq x3_2 x5_2 a0_0 a0_1 a0_2 = some r) ∧ Aside0 (kq ≤ k1) ∧ Aside0 (w'.heap[gb175]? = some (.cells #[.int .i64 a0_0, .int .i64 a0_1, .int .i64 a0_2] 42 (0, 0))) ∧ Aside0 (Below w.heap.size w w'))
        case atStart => exact ⟨(x3_1), (1), (z11_), (z11_), H', ⟨Nat.le_refl _⟩, ⟨z7_⟩, ⟨z3_⟩⟩
        case round =>
          clear H'
          try clear p2
          try clear c4
          try clear c4b0
          try clear c5
          try clear c6
          try clear p6
          try clear hcz3_0
          try clear hcz3_1
          try clear hcz3_2
          try clear hcz7_0
          try clear hcz7_1
          try clear hcz7_2
          try clear hcz8_0
          try clear hcz8_1
          try clear hcz8_2
          try clear hfz3_0
          try clear hfz3_1
          try clear hfz3_2
          try clear hfz7_0
          try clear hfz7_1
          try clear hfz7_2
          try clear hfz8_0
          try clear hfz8_1
          try clear hfz8_2
          try clear p2
          obtain ⟨x3_2, x5_2, rfl, rfl, HA, HK2, BK175, HB⟩ := hrel
          cases gk with
          | zero => exact absurd HA.out (by simp [spec_dayOf.l1])
          | succ k2 =>
            have H := HA.out
            clear HA
            simp only [spec_dayOf.l1] at H
            by_cases c9 : x5_2 < a0_1
            · rw [if_pos c9] at H
              have c9b0 : decide (x5_2 < a0_1) = true := decide_eq_true c9
              clear c9
              replace H := Option.bind_eq_some_iff.mp H
              obtain ⟨t178, A100, H⟩ := H
              replace H : (spec_dayOf.l1 k2 (wrap64 (x3_2 + t178)) (wrap64 (x5_2 + 1)) a0_0 a0_1 a0_2) = some r := H
              have A10 := Aside0.mk A100
              clear A100
              have H' := Aside0.mk H
              clear H
              have hcz11_0 : wr.cell? ⟨gb175, 0, none⟩ = some (.int .i64 a0_0) := (blk_cell BK175.out 0).trans rfl
              have hcz11_1 : wr.cell? ⟨gb175, 1, none⟩ = some (.int .i64 a0_1) := (blk_cell BK175.out 1).trans rfl
              have hcz11_2 : wr.cell? ⟨gb175, 2, none⟩ = some (.int .i64 a0_2) := (blk_cell BK175.out 2).trans rfl
              have hfz11_0 := blk_frozen BK175.out 0
              have hfz11_1 := blk_frozen BK175.out 1
              have hfz11_2 := blk_frozen BK175.out 2
              go_wp2_with (first | ((with_reducible refine gate_callee (f := 62) rfl ?_); refine goesL_ (some 31) rfl rfl Tryz.func62 (by kernel_rfl) rfl #[.int .i64 a0_0, .int .i64 x5_2] rfl (z5_) ?_; (with_reducible refine (spec_monthDays.calls a0_0 x5_2 t178 _ A10.out).mono ?_); rintro e w12 ⟨rfl, hb⟩; refine ⟨_, rfl, ?_⟩; have n0_ := Aside0.mk (blk_below (g := gb175) (o := .cells #[.int .i64 a0_0, .int .i64 a0_1, .int .i64 a0_2] 42 (0, 0)) (z7_) hb); have n1_ := Aside0.mk (below_step (z3_) hb); clear BK175; clear HB; have BK175 := n0_; have HB := n1_; clear n0_ n1_; (try clear hb); (try clear hb2); (try clear hk); (try clear hi)))
              go_roundg k2
              case measure => have := HK1.out; have := HK2.out; omega
              case rel => exact ⟨(wrap64 (x3_2 + t178)), (wrap64 (x5_2 + 1)), (z11_), (z11_), H', ⟨by have := HK1.out; have := HK2.out; omega⟩, ⟨z7_⟩, ⟨z3_⟩⟩
            · rw [if_neg c9] at H
              have c9b0 : decide (x5_2 < a0_1) = false := decide_eq_false c9
              clear c9
              obtain rfl := Option.some.inj H
              have hcz13_0 : wr.cell? ⟨gb175, 0, none⟩ = some (.int .i64 a0_0) := (blk_cell BK175.out 0).trans rfl
              have hcz13_1 : wr.cell? ⟨gb175, 1, none⟩ = some (.int .i64 a0_1) := (blk_cell BK175.out 1).trans rfl
              have hcz13_2 : wr.cell? ⟨gb175, 2, none⟩ = some (.int .i64 a0_2) := (blk_cell BK175.out 2).trans rfl
              have hfz13_0 := blk_frozen BK175.out 0
              have hfz13_1 := blk_frozen BK175.out 1
              have hfz13_2 := blk_frozen BK175.out 2
              go_wp2
              go_ret
              exact ⟨z9_, z3_⟩

/-! ### spec_CivilFix: function 31 -/
def spec_CivilFix.f (k : Nat) (a0_0 : Int) (a0_1 : Int) (a0_2 : Int) (a0_3 : Int) (a0_4 : Int) : Option (Int) := (spec_validFix.f a0_0 a0_1 a0_2 a0_3 a0_4).bind fun t180 => (if t180 = true then ((spec_dayOf.f k a0_0 a0_1 a0_2).bind fun t181 => (if t181 < 5 then (some (-1)) else ((spec_dayOf.f k a0_0 a0_1 a0_2).bind fun t182 => (some (wrap64 ((wrap64 ((wrap64 (t182 - 5)) * 86400)) + (mn a0_3 86399))))))) else (some (-1)))
theorem spec_CivilFix.mono : ∀ a0 a1 a2 a3 a4 k, LeO (spec_CivilFix.f k a0 a1 a2 a3 a4) (spec_CivilFix.f (k + 1) a0 a1 a2 a3 a4) := by
  intro a0 a1 a2 a3 a4 k
  unfold spec_CivilFix.f
  repeat' first
      | (with_reducible exact spec_dayOf.mono _ _ _ _)
      | (with_reducible exact LeO.refl _)
      | (with_reducible exact LeO.none _)
      | (with_reducible refine LeO.ite ?_ ?_)
      | (with_reducible refine LeO.bind ?_ (fun _ => ?_))
      | exact spec_dayOf.mono _ _ _ _
      | exact LeO.none _
      | refine LeO.ite ?_ ?_
      | refine LeO.bind ?_ (fun _ => ?_)
def spec_CivilFix.T3 : Bool × List (List Nat × List Nat) := (true, [([], []), ([0], [0]), ([1], [1]), ([2], [2]), ([3], [3]), ([], []), ([5], [5]), ([6], [6]), ([4, 7], [4, 7]), ([8, 2, 0, 1, 2, 3, 4, 5, 6, 7, 8], [8])])
def spec_CivilFix.B3 : List Nat := [0, 1, 3, 7, 15, 0, 32, 96, 255, 511]
theorem spec_CivilFix.tab3 : rtab .any (opsOf Tryz.f31 3) = spec_CivilFix.T3 := by kernel_rfl
theorem spec_CivilFix.bits3 : waitsOk spec_CivilFix.T3.2 spec_CivilFix.B3 = true := by kernel_rfl
set_option maxHeartbeats 8000000 in
set_option maxRecDepth 100000 in
theorem spec_CivilFix.calls (k : Nat) (a0_0 : Int) (a0_1 : Int) (a0_2 : Int) (a0_3 : Int) (a0_4 : Int) (r : Int) (w : World) (h : spec_CivilFix.f k a0_0 a0_1 a0_2 a0_3 a0_4 = some r) :
    Calls Tryz.prog 31 #[.agg #[.int .i64 a0_0, .int .i64 a0_1, .int .i64 a0_2, .int .i64 a0_3, .int .i64 a0_4]] w fun e w' => e = .returned (.int .i64 r) ∧ Below w.heap.size w w' := by
  have hu44 := Tryz.underlying44
  have hu42 := Tryz.underlying42
  have HB := Aside0.mk (Below.refl w.heap.size w)
  have H : ((spec_validFix.f a0_0 a0_1 a0_2 a0_3 a0_4).bind fun t180 => (if t180 = true then ((spec_dayOf.f k a0_0 a0_1 a0_2).bind fun t181 => (if t181 < 5 then (some (-1)) else ((spec_dayOf.f k a0_0 a0_1 a0_2).bind fun t182 => (some (wrap64 ((wrap64 ((wrap64 (t182 - 5)) * 86400)) + (mn a0_3 86399))))))) else (some (-1)))) = some r := h
  clear h
  replace H := Option.bind_eq_some_iff.mp H
  obtain ⟨t180, A20, H⟩ := H
  replace H : (if t180 = true then ((spec_dayOf.f k a0_0 a0_1 a0_2).bind fun t181 => (if t181 < 5 then (some (-1)) else ((spec_dayOf.f k a0_0 a0_1 a0_2).bind fun t182 => (some (wrap64 ((wrap64 ((wrap64 (t182 - 5)) * 86400)) + (mn a0_3 86399))))))) else (some (-1))) = some r := H
  have A2 := Aside0.mk A20
  clear A20
  by_cases c3 : t180 = true
  · subst c3
    have H1 : ((spec_dayOf.f k a0_0 a0_1 a0_2).bind fun t181 => (if t181 < 5 then (some (-1)) else ((spec_dayOf.f k a0_0 a0_1 a0_2).bind fun t182 => (some (wrap64 ((wrap64 ((wrap64 (t182 - 5)) * 86400)) + (mn a0_3 86399))))))) = some r := by rw [if_pos rfl] at H; exact H
    clear H
    have H := H1
    clear H1
    replace H := Option.bind_eq_some_iff.mp H
    obtain ⟨t181, A40, H⟩ := H
    replace H : (if t181 < 5 then (some (-1)) else ((spec_dayOf.f k a0_0 a0_1 a0_2).bind fun t182 => (some (wrap64 ((wrap64 ((wrap64 (t182 - 5)) * 86400)) + (mn a0_3 86399)))))) = some r := H
    have A4 := Aside0.mk A40
    clear A40
    by_cases c5 : t181 < 5
    · rw [if_pos c5] at H
      have c5b0 : decide (t181 < 5) = true := decide_eq_true c5
      clear c5
      obtain rfl := Option.some.inj H
      go_enter Tryz.func31, Tryz.ntmps31
      go_wp2_with (first | ((with_reducible refine gate_dst (N := 1) rfl ?_); refine box_event ?hg (N := 1) ?hd (cs := #[.int .i64 a0_0, .int .i64 a0_1, .int .i64 a0_2, .int .i64 a0_3, .int .i64 a0_4]) (t := 44) ?hr ?_; (case hd => rfl); (case hg => rfl); (case hr => first | (go_simp; done) | (go_simp; rfl)); intro gb179 hg w6 hbox hb; have n0_ := Aside0.mk (below_step (z6_) hb); have n1_ := Aside0.mk (hbox); have n2_ := Aside0.mk ((z2_ : w.heap.size ≤ gb179)); have n3_ := Aside0.mk ((z2_ : w.heap.size ≤ gb179)); clear HB; have HB := n0_; have BK179 := n1_; have GW179 := n2_; have GE179 := n3_; clear n0_ n1_ n2_ n3_; clear hb hbox hg; have hcz7_0 : w6.cell? ⟨gb179, 0, none⟩ = some (.int .i64 a0_0) := (blk_cell BK179.out 0).trans rfl; have hcz7_1 : w6.cell? ⟨gb179, 1, none⟩ = some (.int .i64 a0_1) := (blk_cell BK179.out 1).trans rfl; have hcz7_2 : w6.cell? ⟨gb179, 2, none⟩ = some (.int .i64 a0_2) := (blk_cell BK179.out 2).trans rfl; have hcz7_3 : w6.cell? ⟨gb179, 3, none⟩ = some (.int .i64 a0_3) := (blk_cell BK179.out 3).trans rfl; have hcz7_4 : w6.cell? ⟨gb179, 4, none⟩ = some (.int .i64 a0_4) := (blk_cell BK179.out 4).trans rfl; have hfz7_0 := blk_frozen BK179.out 0; have hfz7_1 := blk_frozen BK179.out 1; have hfz7_2 := blk_frozen BK179.out 2; have hfz7_3 := blk_frozen BK179.out 3; have hfz7_4 := blk_frozen BK179.out 4) | ((with_reducible refine gate_callee (f := 53) rfl ?_); refine goesL_ (some 4) rfl rfl Tryz.func53 (by kernel_rfl) rfl #[.agg #[.int .i64 a0_0, .int .i64 a0_1, .int .i64 a0_2, .int .i64 a0_3, .int .i64 a0_4]] rfl (z5_) ?_; (with_reducible refine (spec_validFix.calls a0_0 a0_1 a0_2 a0_3 a0_4 true _ A2.out).mono ?_); rintro e w8 ⟨rfl, hb⟩; refine ⟨_, rfl, ?_⟩; have n0_ := Aside0.mk (blk_below (g := gb179) (o := .cells #[.int .i64 a0_0, .int .i64 a0_1, .int .i64 a0_2, .int .i64 a0_3, .int .i64 a0_4] 44 (0, 0)) (z8_) hb); have n1_ := Aside0.mk (below_step (z4_) hb); clear BK179; clear HB; have BK179 := n0_; have HB := n1_; clear n0_ n1_; (try clear hb); (try clear hb2); (try clear hk); (try clear hi); have hcz9_0 : w8.cell? ⟨gb179, 0, none⟩ = some (.int .i64 a0_0) := (blk_cell BK179.out 0).trans rfl; have hcz9_1 : w8.cell? ⟨gb179, 1, none⟩ = some (.int .i64 a0_1) := (blk_cell BK179.out 1).trans rfl; have hcz9_2 : w8.cell? ⟨gb179, 2, none⟩ = some (.int .i64 a0_2) := (blk_cell BK179.out 2).trans rfl; have hcz9_3 : w8.cell? ⟨gb179, 3, none⟩ = some (.int .i64 a0_3) := (blk_cell BK179.out 3).trans rfl; have hcz9_4 : w8.cell? ⟨gb179, 4, none⟩ = some (.int .i64 a0_4) := (blk_cell BK179.out 4).trans rfl; have hfz9_0 := blk_frozen BK179.out 0; have hfz9_1 := blk_frozen BK179.out 1; have hfz9_2 := blk_frozen BK179.out 2; have hfz9_3 := blk_frozen BK179.out 3; have hfz9_4 := blk_frozen BK179.out 4) | (go_at_call 54; (with_reducible refine (spec_dayOf.calls k a0_0 a0_1 a0_2 t181 _ A4.out).mono ?_); rintro e w10 ⟨rfl, hb⟩; have n0_ := Aside0.mk (blk_below (g := gb179) (o := .cells #[.int .i64 a0_0, .int .i64 a0_1, .int .i64 a0_2, .int .i64 a0_3, .int .i64 a0_4] 44 (0, 0)) (z8_) hb); have n1_ := Aside0.mk (below_step (z4_) hb); clear BK179; clear HB; have BK179 := n0_; have HB := n1_; clear n0_ n1_; (try clear hb); (try clear hb2); (try clear hk); (try clear hi)))
      go_ret
      exact ⟨z9_, z4_⟩
    · rw [if_neg c5] at H
      have c5b0 : decide (t181 < 5) = false := decide_eq_false c5
      clear c5
      replace H := Option.bind_eq_some_iff.mp H
      obtain ⟨t182, A110, H⟩ := H
      replace H : (some (wrap64 ((wrap64 ((wrap64 (t182 - 5)) * 86400)) + (mn a0_3 86399)))) = some r := H
      have A11 := Aside0.mk A110
      clear A110
      obtain ⟨ji12, hji12⟩ : ∃ j_ : Int, (mn a0_3 86399) = j_ := ⟨_, rfl⟩
      replace H : (some (wrap64 ((wrap64 ((wrap64 (t182 - 5)) * 86400)) + (ji12)))) = some r := by first | (rw [hji12] at H; exact H) | (simp only [hji12] at H ⊢; exact H)
      (try rw [hji12] at A2)
      (try rw [hji12] at A4)
      (try rw [hji12] at A11)
      (try (have hji12h : ji12 ≤ 86399 := by (rw [← hji12]; unfold mn; (repeat' split) <;> omega)))
      (try (have hji12g : ji12 ≤ 64 := by omega))
      have hji12_ : (if 86399 < a0_3 then 86399 else a0_3) = ji12 := hji12
      obtain rfl := Option.some.inj H
      go_enter Tryz.func31, Tryz.ntmps31
      try go_wp2_with (first | ((with_reducible refine gate_dst (N := 1) rfl ?_); refine box_event ?hg (N := 1) ?hd (cs := #[.int .i64 a0_0, .int .i64 a0_1, .int .i64 a0_2, .int .i64 a0_3, .int .i64 a0_4]) (t := 44) ?hr ?_; (case hd => rfl); (case hg => rfl); (case hr => first | (go_simp; done) | (go_simp; rfl)); intro gb179 hg w13 hbox hb; have n0_ := Aside0.mk (below_step (z6_) hb); have n1_ := Aside0.mk (hbox); have n2_ := Aside0.mk ((z2_ : w.heap.size ≤ gb179)); have n3_ := Aside0.mk ((z2_ : w.heap.size ≤ gb179)); clear HB; have HB := n0_; have BK179 := n1_; have GW179 := n2_; have GE179 := n3_; clear n0_ n1_ n2_ n3_; clear hb hbox hg; have hcz14_0 : w13.cell? ⟨gb179, 0, none⟩ = some (.int .i64 a0_0) := (blk_cell BK179.out 0).trans rfl; have hcz14_1 : w13.cell? ⟨gb179, 1, none⟩ = some (.int .i64 a0_1) := (blk_cell BK179.out 1).trans rfl; have hcz14_2 : w13.cell? ⟨gb179, 2, none⟩ = some (.int .i64 a0_2) := (blk_cell BK179.out 2).trans rfl; have hcz14_3 : w13.cell? ⟨gb179, 3, none⟩ = some (.int .i64 a0_3) := (blk_cell BK179.out 3).trans rfl; have hcz14_4 : w13.cell? ⟨gb179, 4, none⟩ = some (.int .i64 a0_4) := (blk_cell BK179.out 4).trans rfl; have hfz14_0 := blk_frozen BK179.out 0; have hfz14_1 := blk_frozen BK179.out 1; have hfz14_2 := blk_frozen BK179.out 2; have hfz14_3 := blk_frozen BK179.out 3; have hfz14_4 := blk_frozen BK179.out 4) | ((with_reducible refine gate_callee (f := 53) rfl ?_); refine goesL_ (some 4) rfl rfl Tryz.func53 (by kernel_rfl) rfl #[.agg #[.int .i64 a0_0, .int .i64 a0_1, .int .i64 a0_2, .int .i64 a0_3, .int .i64 a0_4]] rfl (z5_) ?_; (with_reducible refine (spec_validFix.calls a0_0 a0_1 a0_2 a0_3 a0_4 true _ A2.out).mono ?_); rintro e w15 ⟨rfl, hb⟩; refine ⟨_, rfl, ?_⟩; have n0_ := Aside0.mk (blk_below (g := gb179) (o := .cells #[.int .i64 a0_0, .int .i64 a0_1, .int .i64 a0_2, .int .i64 a0_3, .int .i64 a0_4] 44 (0, 0)) (z8_) hb); have n1_ := Aside0.mk (below_step (z4_) hb); clear BK179; clear HB; have BK179 := n0_; have HB := n1_; clear n0_ n1_; (try clear hb); (try clear hb2); (try clear hk); (try clear hi); have hcz16_0 : w15.cell? ⟨gb179, 0, none⟩ = some (.int .i64 a0_0) := (blk_cell BK179.out 0).trans rfl; have hcz16_1 : w15.cell? ⟨gb179, 1, none⟩ = some (.int .i64 a0_1) := (blk_cell BK179.out 1).trans rfl; have hcz16_2 : w15.cell? ⟨gb179, 2, none⟩ = some (.int .i64 a0_2) := (blk_cell BK179.out 2).trans rfl; have hcz16_3 : w15.cell? ⟨gb179, 3, none⟩ = some (.int .i64 a0_3) := (blk_cell BK179.out 3).trans rfl; have hcz16_4 : w15.cell? ⟨gb179, 4, none⟩ = some (.int .i64 a0_4) := (blk_cell BK179.out 4).trans rfl; have hfz16_0 := blk_frozen BK179.out 0; have hfz16_1 := blk_frozen BK179.out 1; have hfz16_2 := blk_frozen BK179.out 2; have hfz16_3 := blk_frozen BK179.out 3; have hfz16_4 := blk_frozen BK179.out 4) | (go_at_call 54; (with_reducible refine (spec_dayOf.calls k a0_0 a0_1 a0_2 t181 _ A4.out).mono ?_); rintro e w17 ⟨rfl, hb⟩; have n0_ := Aside0.mk (blk_below (g := gb179) (o := .cells #[.int .i64 a0_0, .int .i64 a0_1, .int .i64 a0_2, .int .i64 a0_3, .int .i64 a0_4] 44 (0, 0)) (z8_) hb); have n1_ := Aside0.mk (below_step (z4_) hb); clear BK179; clear HB; have BK179 := n0_; have HB := n1_; clear n0_ n1_; (try clear hb); (try clear hb2); (try clear hk); (try clear hi)))
      have n0_ := Aside0.mk (blk_drew BK179.out)
      have n1_ := Aside0.mk (below_drew1 HB.out)
      clear BK179
      clear HB
      have BK179 := n0_
      have HB := n1_
      clear n0_ n1_
      refine start_ (n := 10) (S := fun w' => w'.cell? ⟨gb179, 0, none⟩ = some (.int .i64 a0_0) ∧ w'.cell? ⟨gb179, 1, none⟩ = some (.int .i64 a0_1) ∧ w'.cell? ⟨gb179, 2, none⟩ = some (.int .i64 a0_2) ∧ w'.cell? ⟨gb179, 3, none⟩ = some (.int .i64 a0_3) ∧ w'.cell? ⟨gb179, 4, none⟩ = some (.int .i64 a0_4)) (ds := []) #[false, false, false, false, false, false, false, false, false, false] (by kernel_rfl) rfl rfl ⟨(blk_cell BK179.out 0).trans rfl, (blk_cell BK179.out 1).trans rfl, (blk_cell BK179.out 2).trans rfl, (blk_cell BK179.out 3).trans rfl, (blk_cell BK179.out 4).trans rfl⟩ (fun hHeld => ?_); refine with_tabW spec_CivilFix.tab3 spec_CivilFix.bits3 (fun HT_ HW_ => ?_)
      generalize w17.drew = w18 at BK179 HB hHeld ⊢
      refine pure_ (i := 0) (N := some 12) (v := ?_) (a' := ?_) #[true, false, false, false, false, false, false, false, false, false] rfl rfl (any_of HT_.out (by kernel_rfl)) (fun _ _ _ h => h) (Or.inl ⟨by rfl, ?_⟩) ?_ ?_
      rotate_left
      · intro w'
        go_simp
        with_reducible rfl
      rotate_left
      · simp only [Act.put, List.setIfInBounds_toArray, List.set_cons_zero, List.set_cons_succ, i64_w, i32_w]
        rfl
      refine pure_ (i := 5) (N := some 17) (v := ?_) (a' := ?_) #[true, false, false, false, false, true, false, false, false, false] rfl rfl (any_of HT_.out (by kernel_rfl)) (fun _ _ _ h => h) (Or.inl ⟨by rfl, ?_⟩) ?_ ?_
      rotate_left
      · intro w'
        go_simp
        with_reducible rfl
      rotate_left
      · simp only [Act.put, List.setIfInBounds_toArray, List.set_cons_zero, List.set_cons_succ, i64_w, i32_w]
        rfl
      refine take_ (i := 1) (N := some 13) (v := ?_) (a' := ?_) #[true, true, false, false, false, true, false, false, false, false] rfl rfl (take_ofW HT_.out HW_.out (by kernel_rfl)) (fun _ _ _ h => h) (Or.inl ⟨by rfl, ?_⟩) hHeld ?_ ?_
      rotate_left
      · rintro w' ⟨s0, s1, s2, s3, s4⟩
        go_simp
        with_reducible rfl
      rotate_left
      · simp only [Act.put, List.setIfInBounds_toArray, List.set_cons_zero, List.set_cons_succ, i64_w, i32_w]
        rfl
      refine take_ (i := 6) (N := some 18) (v := ?_) (a' := ?_) #[true, true, false, false, false, true, true, false, false, false] rfl rfl (take_ofW HT_.out HW_.out (by kernel_rfl)) (fun _ _ _ h => h) (Or.inl ⟨by rfl, ?_⟩) hHeld ?_ ?_
      rotate_left
      · rintro w' ⟨s0, s1, s2, s3, s4⟩
        go_simp
        with_reducible rfl
      rotate_left
      · simp only [Act.put, List.setIfInBounds_toArray, List.set_cons_zero, List.set_cons_succ, i64_w, i32_w]
        rfl
      refine pure_ (i := 7) (N := some 19) (v := ?_) (a' := ?_) #[true, true, false, false, false, true, true, true, false, false] rfl rfl (any_of HT_.out (by kernel_rfl)) (fun _ _ _ h => h) (Or.inl ⟨by rfl, ?_⟩) ?_ ?_
      rotate_left
      · intro w'
        go_simp
        with_reducible rfl
      rotate_left
      · simp only [Act.put, List.setIfInBounds_toArray, List.set_cons_zero, List.set_cons_succ, i64_w, i32_w]
        rfl
      refine one_ (i := 2) (N := some 14) #[true, true, true, false, false, true, true, true, false, false] rfl rfl (one_of HT_.out (by kernel_rfl)) (by decide) (fun K hK => ?_)
      refine goes_ Tryz.func54 (by kernel_rfl) rfl #[.agg #[.int .i64 a0_0, .int .i64 a0_1, .int .i64 a0_2]] (by rfl) rfl rfl (z5_) ?_
      with_reducible refine (spec_dayOf.calls k a0_0 a0_1 a0_2 t182 _ A11.out).mono ?_
      rintro e w19 ⟨rfl, hb⟩
      refine ⟨_, rfl, ?_⟩
      have n0_ := Aside0.mk (blk_below (g := gb179) (o := .cells #[.int .i64 a0_0, .int .i64 a0_1, .int .i64 a0_2, .int .i64 a0_3, .int .i64 a0_4] 44 (0, 0)) (z8_) hb)
      have n1_ := Aside0.mk (below_step (z4_) hb)
      clear BK179
      clear HB
      have BK179 := n0_
      have HB := n1_
      clear n0_ n1_
      (try clear hb)
      (try clear hb2)
      (try clear hk)
      (try clear hi)
      refine hK.out _ _ ⟨(blk_cell BK179.out 0).trans rfl, (blk_cell BK179.out 1).trans rfl, (blk_cell BK179.out 2).trans rfl, (blk_cell BK179.out 3).trans rfl, (blk_cell BK179.out 4).trans rfl⟩ (fun hHeld => ?_)
      clear hK K
      refine norm_ (a' := ?_) ?_ ?_
      rotate_left
      · show Act.put _ (some 14) _ = _
        simp only [Act.put, List.setIfInBounds_toArray, List.set_cons_zero, List.set_cons_succ, i64_w, i32_w]
        rfl
      refine pure_ (i := 3) (N := some 15) (v := ?_) (a' := ?_) #[true, true, true, true, false, true, true, true, false, false] rfl rfl (any_of HT_.out (by kernel_rfl)) (fun _ _ _ h => h) (Or.inl ⟨by rfl, ?_⟩) ?_ ?_
      rotate_left
      · intro w'
        go_simp
        with_reducible rfl
      rotate_left
      · simp only [Act.put, List.setIfInBounds_toArray, List.set_cons_zero, List.set_cons_succ, i64_w, i32_w]
        rfl
      refine pure_ (i := 4) (N := some 16) (v := ?_) (a' := ?_) #[true, true, true, true, true, true, true, true, false, false] rfl rfl (any_of HT_.out (by kernel_rfl)) (fun _ _ _ h => h) (Or.inl ⟨by rfl, ?_⟩) ?_ ?_
      rotate_left
      · intro w'
        go_simp
        with_reducible rfl
      rotate_left
      · simp only [Act.put, List.setIfInBounds_toArray, List.set_cons_zero, List.set_cons_succ, i64_w, i32_w]
        rfl
      refine pure_ (i := 8) (N := some 20) (v := ?_) (a' := ?_) #[true, true, true, true, true, true, true, true, true, false] rfl rfl (any_of HT_.out (by kernel_rfl)) (fun _ _ _ h => h) (Or.inl ⟨by rfl, ?_⟩) ?_ ?_
      rotate_left
      · intro w'
        go_simp
        with_reducible rfl
      rotate_left
      · simp only [Act.put, List.setIfInBounds_toArray, List.set_cons_zero, List.set_cons_succ, i64_w, i32_w]
        rfl
      refine pure_ (i := 9) (N := some 2) (v := ?_) (a' := ?_) #[true, true, true, true, true, true, true, true, true, true] rfl rfl (any_of HT_.out (by kernel_rfl)) (fun _ _ _ h => h) (Or.inl ⟨by rfl, ?_⟩) ?_ ?_
      rotate_left
      · intro w'
        go_simp
        with_reducible rfl
      rotate_left
      · simp only [Act.put, List.setIfInBounds_toArray, List.set_cons_zero, List.set_cons_succ, i64_w, i32_w]
        rfl
      refine done_ (done_of HT_.out (by kernel_rfl)) ?_
      try go_wp2
      go_ret
      exact ⟨by first | rfl | (simp [errW_none, errW_some] <;> rfl) | (simp only [← hji12]; first | rfl | (simp [errW_none, errW_some] <;> rfl)) | (simp [*, errW_none, errW_some] <;> rfl), z4_⟩
  · replace c3 := Bool.eq_false_iff.mpr c3
    subst c3
    have H1 : (some (-1)) = some r := by rw [if_neg (show ¬ (false = true) by decide)] at H; exact H
    clear H
    have H := H1
    clear H1
    obtain rfl := Option.some.inj H
    go_enter Tryz.func31, Tryz.ntmps31
    go_wp2_with (first | ((with_reducible refine gate_dst (N := 1) rfl ?_); refine box_event ?hg (N := 1) ?hd (cs := #[.int .i64 a0_0, .int .i64 a0_1, .int .i64 a0_2, .int .i64 a0_3, .int .i64 a0_4]) (t := 44) ?hr ?_; (case hd => rfl); (case hg => rfl); (case hr => first | (go_simp; done) | (go_simp; rfl)); intro gb179 hg w20 hbox hb; have n0_ := Aside0.mk (below_step (z6_) hb); have n1_ := Aside0.mk (hbox); have n2_ := Aside0.mk ((z2_ : w.heap.size ≤ gb179)); have n3_ := Aside0.mk ((z2_ : w.heap.size ≤ gb179)); clear HB; have HB := n0_; have BK179 := n1_; have GW179 := n2_; have GE179 := n3_; clear n0_ n1_ n2_ n3_; clear hb hbox hg; have hcz21_0 : w20.cell? ⟨gb179, 0, none⟩ = some (.int .i64 a0_0) := (blk_cell BK179.out 0).trans rfl; have hcz21_1 : w20.cell? ⟨gb179, 1, none⟩ = some (.int .i64 a0_1) := (blk_cell BK179.out 1).trans rfl; have hcz21_2 : w20.cell? ⟨gb179, 2, none⟩ = some (.int .i64 a0_2) := (blk_cell BK179.out 2).trans rfl; have hcz21_3 : w20.cell? ⟨gb179, 3, none⟩ = some (.int .i64 a0_3) := (blk_cell BK179.out 3).trans rfl; have hcz21_4 : w20.cell? ⟨gb179, 4, none⟩ = some (.int .i64 a0_4) := (blk_cell BK179.out 4).trans rfl; have hfz21_0 := blk_frozen BK179.out 0; have hfz21_1 := blk_frozen BK179.out 1; have hfz21_2 := blk_frozen BK179.out 2; have hfz21_3 := blk_frozen BK179.out 3; have hfz21_4 := blk_frozen BK179.out 4) | ((with_reducible refine gate_callee (f := 53) rfl ?_); refine goesL_ (some 4) rfl rfl Tryz.func53 (by kernel_rfl) rfl #[.agg #[.int .i64 a0_0, .int .i64 a0_1, .int .i64 a0_2, .int .i64 a0_3, .int .i64 a0_4]] rfl (z5_) ?_; (with_reducible refine (spec_validFix.calls a0_0 a0_1 a0_2 a0_3 a0_4 false _ A2.out).mono ?_); rintro e w22 ⟨rfl, hb⟩; refine ⟨_, rfl, ?_⟩; have n0_ := Aside0.mk (blk_below (g := gb179) (o := .cells #[.int .i64 a0_0, .int .i64 a0_1, .int .i64 a0_2, .int .i64 a0_3, .int .i64 a0_4] 44 (0, 0)) (z8_) hb); have n1_ := Aside0.mk (below_step (z4_) hb); clear BK179; clear HB; have BK179 := n0_; have HB := n1_; clear n0_ n1_; (try clear hb); (try clear hb2); (try clear hk); (try clear hi)))
    go_ret
    exact ⟨z9_, z4_⟩

/-! ### spec_validBuckets: function 57 -/
def inB (x : S74) : Bool := decide (0 ≤ x.f0 ∧ x.f0 ≤ 99) && (decide (0 ≤ x.f1 ∧ x.f1 ≤ 5) && decide (0 ≤ x.f2 ∧ x.f2 ≤ 3786479999))
def goodB : Option Int → List S74 → Bool
  | _, [] => true
  | none, x :: xs => inB x && goodB (some x.f0) xs
  | some p, x :: xs => inB x && (decide (p < x.f0) && goodB (some x.f0) xs)
def okB (l : List S74) : Bool := goodB none l && decide (l.length ≤ 8)
theorem rdb_at (l : List S74) (i : Nat) (h : i < l.length) : rd_T74 l (i : Int) = l[i] := by unfold rd_T74; simp [List.getD_eq_getElem?_getD, h]
def prevB (l : List S74) (i : Nat) : Option Int := if i = 0 then none else some (rd_T74 l ((i : Int) - 1)).f0
theorem prevB_succ (l : List S74) (i : Nat) : prevB l (i + 1) = some (rd_T74 l (i : Int)).f0 := by unfold prevB; rw [if_neg (by omega)]; congr 3; omega
theorem dropB_at (l : List S74) (i : Nat) (h : i < l.length) : l.drop i = rd_T74 l (i : Int) :: l.drop (i + 1) := by
  rw [rdb_at l i h, List.drop_eq_getElem_cons h]
/-- What is still to be asked from bucket i on. -/
def stB (l : List S74) (i : Nat) : Bool := goodB (prevB l i) (l.drop i) && decide (l.length ≤ 8)
theorem stB_end (l : List S74) : stB l l.length = decide ((l.length : Int) ≤ 8) := by
  unfold stB
  rw [List.drop_length]
  have : (decide (l.length ≤ 8)) = decide ((l.length : Int) ≤ 8) := decide_eq_decide.2 (by omega)
  rw [← this]
  unfold prevB
  split <;> simp [goodB]
/-- The test on bucket i against the one ahead of it. -/
def ordB (l : List S74) (i : Nat) : Bool := i = 0 || decide ((rd_T74 l ((i : Int) - 1)).f0 < (rd_T74 l (i : Int)).f0)
theorem stB_at (l : List S74) (i : Nat) (h : i < l.length) : stB l i = (inB (rd_T74 l i) && (ordB l i && stB l (i + 1))) := by
  unfold stB ordB
  rw [dropB_at l i h, prevB_succ]
  unfold prevB
  split <;> rename_i e
  · simp [goodB, e, Bool.and_assoc]
  · simp [goodB, e, Bool.and_assoc]
theorem stB_n0 {l : List S74} {i : Nat} (h : i < l.length) (b : inB (rd_T74 l i) = false) : stB l i = false := by rw [stB_at l i h, b, Bool.false_and]
theorem stB_n1 {l : List S74} {i : Nat} (h : i < l.length) (b : ordB l i = false) : stB l i = false := by rw [stB_at l i h, b, Bool.false_and, Bool.and_false]
theorem stB_y {l : List S74} {i : Nat} (h : i < l.length) (a : inB (rd_T74 l i) = true) (b : ordB l i = true) : stB l i = stB l (i + 1) := by rw [stB_at l i h, a, b, Bool.true_and, Bool.true_and]
theorem below_cell {w W : World} (h : Below w.heap.size w W) {a : Addr} {v : Value} (c : w.cell? a = some v) : W.cell? a = some v := (h.cell (World.block_lt_of_cell? w _ c)).trans c
theorem inRange_q (a lo hi : Int) (b : Bool) (h : decide (lo ≤ a ∧ a ≤ hi) = b) (w : World) (n : Nat) : Calls Tryz.prog 37 #[.int .i64 a, .int .i64 lo, .int .i64 hi] (w.drewN n) fun e w'' => e = .returned (.bool b) ∧ ∃ m, w'' = w.drewN m := by
  refine Calls.quiet_of ((spec_inRange.calls a lo hi b _ ?_).mono fun _ _ ⟨e, ⟨m, e2⟩⟩ => ⟨e, m, e2⟩)
  unfold spec_inRange.f
  subst h
  split <;> rename_i h <;> simp <;> omega
theorem validTime_q (a : Int) (b : Bool) (h : decide (0 ≤ a ∧ a ≤ 3786479999) = b) (w : World) (n : Nat) : Calls Tryz.prog 33 #[.int .i64 a] (w.drewN n) fun e w'' => e = .returned (.bool b) ∧ ∃ m, w'' = w.drewN m := by
  refine Calls.quiet_of ((spec_validTime.calls a b _ ?_).mono fun _ _ ⟨e, ⟨m, e2⟩⟩ => ⟨e, m, e2⟩)
  unfold spec_validTime.f spec_inRange.f
  subst h
  split <;> rename_i h <;> simp <;> omega
def spec_validBuckets.f (l0 : List S74) : Option Bool := if l0.length ≤ 4000000 then some (okB l0) else none
set_option maxHeartbeats 8000000 in
set_option maxRecDepth 100000 in
theorem spec_validBuckets.calls (A0 : Option Addr) (c0 : Nat) (l0 : List (S74)) (r : Bool) (w : World) (hr0 : Kd.C k74 w A0 l0.length l0) (hc0 : l0.length ≤ c0) (h : spec_validBuckets.f l0 = some r) :
    Calls Tryz.prog 57 #[.slice A0 l0.length c0] w fun e w' => e = .returned (.bool r) ∧ Below w.heap.size w w' := by
  unfold spec_validBuckets.f at h
  by_cases hl : l0.length ≤ 4000000
  rotate_left
  · rw [if_neg hl] at h; cases h
  rw [if_pos hl] at h
  have HR := Aside0.mk hr0
  have H : Aside0 (stB l0 0 = r) := ⟨Option.some.inj h⟩
  clear h hr0 hc0
  have hu := Tryz.underlying74
  go_enter Tryz.func57, Tryz.ntmps57
  go_wp2
  go_loopw [3] (fun v7 w' => ∃ x : Int, v7 = .int .i64 x ∧ Aside0 (0 ≤ x ∧ x ≤ l0.length ∧ stB l0 x.toNat = r) ∧ Aside0 (Below w.heap.size w w')) (fun v _ => l0.length - (intOf v).toNat)
  case atStart => exact ⟨0, rfl, ⟨Int.le_refl _, by omega, H.out⟩, ⟨Below.refl _ _⟩⟩
  case round =>
    obtain ⟨x, rfl, HS, HB⟩ := hrel
    have hx0 := HS.out.1
    have hx1 := HS.out.2.1
    by_cases hlt : x < (l0.length : Int)
    · obtain ⟨ad, e, c0, c1, c2⟩ := at_T74 HR.out x hx0 hlt
      cases e
      have d0 := below_cell HB.out c0
      have d1 := below_cell HB.out c1
      have d2 := below_cell HB.out c2
      clear c0 c1 c2
      have hn : x.toNat < l0.length := by omega
      have en : ((x.toNat : Nat) : Int) = x := Int.toNat_of_nonneg hx0
      have SN0 := Aside0.mk (stB_n0 hn)
      have SN1 := Aside0.mk (stB_n1 hn)
      have SY := Aside0.mk (stB_y hn)
      rw [en] at SN0 SY
      have EN := Aside0.mk en
      clear en hn
      have HX := Aside0.mk (And.intro hx0 hlt)
      obtain ⟨j, hj⟩ : ∃ j : Int, x - 1 = j := ⟨_, rfl⟩
      have ej : IntKind.i64.wrap (x - 1) = j := (IntWalk.i64_in _ (by omega)).trans hj
      have HJ := Aside0.mk hj
      clear hj
      have hp := eq_true hx0
      have hq := eq_true hlt
      generalize hy : rd_T74 l0 x = y at *
      have HY := Aside0.mk hy
      clear hy
      by_cases q0 : decide (0 ≤ y.f0 ∧ y.f0 ≤ 99) = true
      rotate_left
      · have q0 := Aside0.mk (Bool.eq_false_iff.2 q0)
        obtain rfl : false = r := by rw [← HS.out.2.2, SN0.out (by unfold inB; simp only [q0.out, Bool.false_and])]
        go_wp2_with fail
        go_quiet ((first | (go_at_call 37; with_reducible exact inRange_q _ _ _ _ q0.out _ _) | (go_at_call 37; with_reducible exact inRange_q _ _ _ _ q1.out _ _) | (go_at_call 33; with_reducible exact validTime_q _ _ q2.out _ _)))
        go_wp2
        go_ret
        exact ⟨rfl, (z6_)⟩
      have q0 := Aside0.mk q0
      by_cases q1 : decide (0 ≤ y.f1 ∧ y.f1 ≤ 5) = true
      rotate_left
      · have q1 := Aside0.mk (Bool.eq_false_iff.2 q1)
        obtain rfl : false = r := by rw [← HS.out.2.2, SN0.out (by unfold inB; simp only [q0.out, q1.out, Bool.false_and, Bool.true_and])]
        go_wp2_with fail
        go_quiet ((first | (go_at_call 37; with_reducible exact inRange_q _ _ _ _ q0.out _ _) | (go_at_call 37; with_reducible exact inRange_q _ _ _ _ q1.out _ _) | (go_at_call 33; with_reducible exact validTime_q _ _ q2.out _ _)))
        go_wp2
        go_ret
        exact ⟨rfl, (z6_)⟩
      have q1 := Aside0.mk q1
      by_cases q2 : decide (0 ≤ y.f2 ∧ y.f2 ≤ 3786479999) = true
      rotate_left
      · have q2 := Aside0.mk (Bool.eq_false_iff.2 q2)
        obtain rfl : false = r := by rw [← HS.out.2.2, SN0.out (by unfold inB; simp only [q0.out, q1.out, q2.out, Bool.true_and])]
        go_wp2_with fail
        go_quiet ((first | (go_at_call 37; with_reducible exact inRange_q _ _ _ _ q0.out _ _) | (go_at_call 37; with_reducible exact inRange_q _ _ _ _ q1.out _ _) | (go_at_call 33; with_reducible exact validTime_q _ _ q2.out _ _)))
        go_wp2
        go_ret
        exact ⟨rfl, (z6_)⟩
      have q2 := Aside0.mk q2
      by_cases cz : 0 < x
      · have cb := decide_eq_true cz
        obtain ⟨ad', e, c0, c1, c2⟩ := at_T74 HR.out j (by have := HJ.out; omega) (by have := HJ.out; omega)
        cases e
        have f0 := below_cell HB.out c0
        clear c1 c2
        have hp' := eq_true (show 0 ≤ j by have := HJ.out; omega)
        have hq' := eq_true (show j < (l0.length : Int) by have := HJ.out; omega)
        clear c0
        have ho : ordB l0 x.toNat = decide ((rd_T74 l0 j).f0 < y.f0) := by
          unfold ordB
          rw [EN.out, HY.out, HJ.out, decide_eq_false (show ¬ x.toNat = 0 by omega), Bool.false_or]
        generalize rd_T74 l0 j = z at *
        by_cases cd : y.f0 ≤ z.f0
        · have HO := Aside0.mk (ho.trans (decide_eq_false (by omega)))
          have cdb := decide_eq_true cd
          clear ho cz cd
          obtain rfl : false = r := by rw [← HS.out.2.2, SN1.out HO.out]
          go_wp2_with fail
          go_quiet ((first | (go_at_call 37; with_reducible exact inRange_q _ _ _ _ q0.out _ _) | (go_at_call 37; with_reducible exact inRange_q _ _ _ _ q1.out _ _) | (go_at_call 33; with_reducible exact validTime_q _ _ q2.out _ _)))
          go_wp2
          go_ret
          exact ⟨rfl, (z6_)⟩
        · have HO := Aside0.mk (ho.trans (decide_eq_true (by omega)))
          have cdb := decide_eq_false cd
          clear ho cz cd
          go_wp2_with fail
          go_quiet ((first | (go_at_call 37; with_reducible exact inRange_q _ _ _ _ q0.out _ _) | (go_at_call 37; with_reducible exact inRange_q _ _ _ _ q1.out _ _) | (go_at_call 33; with_reducible exact validTime_q _ _ q2.out _ _)))
          go_wp2
          go_roundw
          case rel => exact ⟨x + 1, rfl, ⟨by have := HX.out; omega, by have := HX.out; omega, by rw [← HS.out.2.2, SY.out (by unfold inB; rw [q0.out, q1.out, q2.out]; rfl) (by exact HO.out), show (x + 1).toNat = x.toNat + 1 by have := HX.out; omega]⟩, ⟨(z6_)⟩⟩
          case measure => have := HX.out; simp [intOf]; omega
      · have cb := decide_eq_false cz
        have HO : Aside0 (ordB l0 x.toNat = true) := ⟨by unfold ordB; rw [show x.toNat = 0 by omega]; rfl⟩
        clear cz
        go_wp2_with fail
        go_quiet ((first | (go_at_call 37; with_reducible exact inRange_q _ _ _ _ q0.out _ _) | (go_at_call 37; with_reducible exact inRange_q _ _ _ _ q1.out _ _) | (go_at_call 33; with_reducible exact validTime_q _ _ q2.out _ _)))
        go_wp2
        go_roundw
        case rel => exact ⟨x + 1, rfl, ⟨by have := HX.out; omega, by have := HX.out; omega, by rw [← HS.out.2.2, SY.out (by unfold inB; rw [q0.out, q1.out, q2.out]; rfl) (HO.out), show (x + 1).toNat = x.toNat + 1 by have := HX.out; omega]⟩, ⟨(z6_)⟩⟩
        case measure => have := HX.out; simp [intOf]; omega
    · have hr := HS.out.2.2
      rw [show x.toNat = l0.length by omega, stB_end] at hr
      subst hr
      go_wp2
      go_ret
      exact ⟨rfl, HB.out⟩

/-! ### spec_tokensAt: function 84 -/
def spec_tokensAt.f (a0_0 : Int) (a0_1 : Int) (a0_2 : Int) (a1 : Int) : Option (Int) := some (mn 5 (wrap64 (a0_1 + (wrap64 ((mx 0 (wrap64 (a1 - a0_2))) / 8)))))
set_option maxHeartbeats 8000000 in
set_option maxRecDepth 100000 in
theorem spec_tokensAt.calls (a0_0 : Int) (a0_1 : Int) (a0_2 : Int) (a1 : Int) (r : Int) (w : World) (h : spec_tokensAt.f a0_0 a0_1 a0_2 a1 = some r) :
    Calls Tryz.prog 84 #[.agg #[.int .i64 a0_0, .int .i64 a0_1, .int .i64 a0_2], .int .i64 a1] w fun e w' => e = .returned (.int .i64 r) ∧ Below w.heap.size w w' := by
  have hu74 := Tryz.underlying74
  have HB := Aside0.mk (Below.refl w.heap.size w)
  have H : (some (mn 5 (wrap64 (a0_1 + (wrap64 ((mx 0 (wrap64 (a1 - a0_2))) / 8)))))) = some r := h
  clear h
  obtain ⟨ji3, hji3⟩ : ∃ j_ : Int, (mx 0 (wrap64 (a1 - a0_2))) = j_ := ⟨_, rfl⟩
  replace H : (some (mn 5 (wrap64 (a0_1 + (wrap64 ((ji3) / 8)))))) = some r := by first | (rw [hji3] at H; exact H) | (simp only [hji3] at H ⊢; exact H)
  (try (have hji3l : 0 ≤ ji3 := by (rw [← hji3]; unfold mx; (repeat' split) <;> omega)))
  (try (have hji3m : 0 ≤ ji3 := by omega))
  have hji3_ : (if 0 < (wrap64 (a1 - a0_2)) then (wrap64 (a1 - a0_2)) else 0) = ji3 := hji3
  obtain ⟨ji4, hji4⟩ : ∃ j_ : Int, (mn 5 (wrap64 (a0_1 + (wrap64 ((ji3) / 8))))) = j_ := ⟨_, rfl⟩
  replace H : (some ji4) = some r := by first | (rw [hji4] at H; exact H) | (simp only [hji4] at H ⊢; exact H)
  have hji4_ : (if (wrap64 (a0_1 + (wrap64 ((ji3) / 8)))) < 5 then (wrap64 (a0_1 + (wrap64 ((ji3) / 8)))) else 5) = ji4 := hji4
  obtain rfl := Option.some.inj H
  rw [← Int.tdiv_eq_ediv_of_nonneg (b := 8) hji3m] at hji4 hji4_
  go_enter Tryz.func84, Tryz.ntmps84
  go_wp2_with (first | ((with_reducible refine gate_dst (N := 2) rfl ?_); refine box_event ?hg (N := 2) ?hd (cs := #[.int .i64 a0_0, .int .i64 a0_1, .int .i64 a0_2]) (t := 74) ?hr ?_; (case hd => rfl); (case hg => rfl); (case hr => first | (go_simp; done) | (go_simp; rfl)); intro gb183 hg w5 hbox hb; have n0_ := Aside0.mk (below_step (z6_) hb); have n1_ := Aside0.mk (hbox); have n2_ := Aside0.mk ((z2_ : w.heap.size ≤ gb183)); have n3_ := Aside0.mk ((z2_ : w.heap.size ≤ gb183)); clear HB; have HB := n0_; have BK183 := n1_; have GW183 := n2_; have GE183 := n3_; clear n0_ n1_ n2_ n3_; clear hb hbox hg; have hcz6_0 : w5.cell? ⟨gb183, 0, none⟩ = some (.int .i64 a0_0) := (blk_cell BK183.out 0).trans rfl; have hcz6_1 : w5.cell? ⟨gb183, 1, none⟩ = some (.int .i64 a0_1) := (blk_cell BK183.out 1).trans rfl; have hcz6_2 : w5.cell? ⟨gb183, 2, none⟩ = some (.int .i64 a0_2) := (blk_cell BK183.out 2).trans rfl; have hfz6_0 := blk_frozen BK183.out 0; have hfz6_1 := blk_frozen BK183.out 1; have hfz6_2 := blk_frozen BK183.out 2))
  go_ret
  exact ⟨by first | rfl | (simp [errW_none, errW_some] <;> rfl) | (simp only [← hji3, ← hji4]; first | rfl | (simp [errW_none, errW_some] <;> rfl)) | (simp [*, errW_none, errW_some] <;> rfl), by repeat (first | (with_reducible first | exact HB.out | apply below_alloc | apply pw_below_drewN | apply below_drew1 | refine below_set ?_ GE183.out) | exact HB.out)⟩

/-! ### spec_TokensAt: function 55 -/
mutual
def spec_TokensAt.j0 : Nat → List (S74) → Int → Int → Bool → Option (Int)
  | 0, _, _, _, _ => none
  | k + 1, x0, x1, x2, x15 => if x15 = true then (some (-1)) else (spec_TokensAt.l0 k x0 x1 x2 0)
def spec_TokensAt.l0 : Nat → List (S74) → Int → Int → Int → Option (Int)
  | 0, _, _, _, _ => none
  | k + 1, x0, x1, x2, x7 => if x7 < (x0.length : Int) then (if 0 ≤ x7 then (if ((rd_T74 x0 x7).f0) = x1 then ((spec_tokensAt.f ((rd_T74 x0 x7).f0) ((rd_T74 x0 x7).f1) ((rd_T74 x0 x7).f2) x2).bind fun t188 => (some t188)) else (spec_TokensAt.l0 k x0 x1 x2 (wrap64 (x7 + 1)))) else (none)) else (some 5)
end
def spec_TokensAt.f (k : Nat) (l0 : List (S74)) (a1 : Int) (a2 : Int) : Option (Int) := (spec_validBuckets.f l0).bind fun t184 => (if t184 = true then ((spec_validTime.f a2).bind fun t185 => (spec_TokensAt.j0 k l0 a1 a2 (!t185))) else (spec_TokensAt.j0 k l0 a1 a2 true))
theorem spec_TokensAt.mono_l : ∀ k, (∀ y0 y1 y2 y3, LeO (spec_TokensAt.j0 k y0 y1 y2 y3) (spec_TokensAt.j0 (k + 1) y0 y1 y2 y3)) ∧ (∀ y0 y1 y2 y3, LeO (spec_TokensAt.l0 k y0 y1 y2 y3) (spec_TokensAt.l0 (k + 1) y0 y1 y2 y3))
  | 0 => ⟨fun _ _ _ _ r h => by simp [spec_TokensAt.j0] at h, fun _ _ _ _ r h => by simp [spec_TokensAt.l0] at h⟩
  | k + 1 => by
    obtain ⟨ih0, ih1⟩ := spec_TokensAt.mono_l k
    refine ⟨?_, ?_⟩
    · intro y0 y1 y2 y3
      unfold spec_TokensAt.j0
      repeat' first
      | (with_reducible exact ih0 _ _ _ _)
      | (with_reducible exact ih1 _ _ _ _)
      | (with_reducible exact LeO.refl _)
      | (with_reducible exact LeO.none _)
      | (with_reducible refine LeO.ite ?_ ?_)
      | (with_reducible refine LeO.bind ?_ (fun _ => ?_))
      | exact ih0 _ _ _ _
      | exact ih1 _ _ _ _
      | exact LeO.none _
      | refine LeO.ite ?_ ?_
      | refine LeO.bind ?_ (fun _ => ?_)
    · intro y0 y1 y2 y3
      unfold spec_TokensAt.l0
      repeat' first
      | (with_reducible exact ih0 _ _ _ _)
      | (with_reducible exact ih1 _ _ _ _)
      | (with_reducible exact LeO.refl _)
      | (with_reducible exact LeO.none _)
      | (with_reducible refine LeO.ite ?_ ?_)
      | (with_reducible refine LeO.bind ?_ (fun _ => ?_))
      | exact ih0 _ _ _ _
      | exact ih1 _ _ _ _
      | exact LeO.none _
      | refine LeO.ite ?_ ?_
      | refine LeO.bind ?_ (fun _ => ?_)
theorem spec_TokensAt.mono : ∀ a0 a1 a2 k, LeO (spec_TokensAt.f k a0 a1 a2) (spec_TokensAt.f (k + 1) a0 a1 a2) := by
  intro a0 a1 a2 k
  obtain ⟨ih0, ih1⟩ := spec_TokensAt.mono_l k
  unfold spec_TokensAt.f
  repeat' first
      | (with_reducible exact ih0 _ _ _ _)
      | (with_reducible exact ih1 _ _ _ _)
      | (with_reducible exact LeO.refl _)
      | (with_reducible exact LeO.none _)
      | (with_reducible refine LeO.ite ?_ ?_)
      | (with_reducible refine LeO.bind ?_ (fun _ => ?_))
      | exact ih0 _ _ _ _
      | exact ih1 _ _ _ _
      | exact LeO.none _
      | refine LeO.ite ?_ ?_
      | refine LeO.bind ?_ (fun _ => ?_)
set_option maxHeartbeats 8000000 in
set_option maxRecDepth 100000 in
theorem spec_TokensAt.calls (k : Nat) (A0 : Option Addr) (c0 : Nat) (l0 : List (S74)) (a1 : Int) (a2 : Int) (r : Int) (w : World) (hr0 : Kd.C k74 w A0 l0.length l0) (hc0 : l0.length ≤ c0) (h : spec_TokensAt.f k l0 a1 a2 = some r) :
    Calls Tryz.prog 55 #[.slice A0 l0.length c0, .int .i64 a1, .int .i64 a2] w fun e w' => e = .returned (.int .i64 r) ∧ Below w.heap.size w w' := by
  have hu74 := Tryz.underlying74
  have HR0 := Aside0.mk hr0
  have HC0 := Aside0.mk hc0
  clear hr0 hc0
  have HB := Aside0.mk (Below.refl w.heap.size w)
  have H : ((spec_validBuckets.f l0).bind fun t184 => (if t184 = true then ((spec_validTime.f a2).bind fun t185 => (spec_TokensAt.j0 k l0 a1 a2 (!t185))) else (spec_TokensAt.j0 k l0 a1 a2 true))) = some r := h
  clear h
  have HC4 := Aside0.mk H
  clear H
  go_enter Tryz.func55, Tryz.ntmps55
  go_upto_region 1 with (fail)
  go_cut [15] (fun v15 wc => ∃ (kq : Nat) (x15_3 : Bool), v15 = .bool x15_3 ∧ Aside0 (spec_TokensAt.j0 kq l0 a1 a2 x15_3 = some r) ∧ Aside0 (kq ≤ k) ∧ Aside0 (Below w.heap.size w wc))
  case first =>
    have H := HC4.out
    clear HC4
    replace H := Option.bind_eq_some_iff.mp H
    obtain ⟨t184, A50, H⟩ := H
    replace H : (if t184 = true then ((spec_validTime.f a2).bind fun t185 => (spec_TokensAt.j0 k l0 a1 a2 (!t185))) else (spec_TokensAt.j0 k l0 a1 a2 true)) = some r := H
    have A5 := Aside0.mk A50
    clear A50
    by_cases c6 : t184 = true
    · subst c6
      have H1 : ((spec_validTime.f a2).bind fun t185 => (spec_TokensAt.j0 k l0 a1 a2 (!t185))) = some r := by rw [if_pos rfl] at H; exact H
      clear H
      have H := H1
      clear H1
      replace H := Option.bind_eq_some_iff.mp H
      obtain ⟨t185, A70, H⟩ := H
      replace H : (spec_TokensAt.j0 k l0 a1 a2 (!t185)) = some r := H
      have A7 := Aside0.mk A70
      clear A70
      have H' := Aside0.mk H
      clear H
      go_wp2_with (first | ((with_reducible refine gate_callee (f := 57) rfl ?_); refine goesL_ (some 9) rfl rfl Tryz.func57 (by kernel_rfl) rfl #[.slice A0 l0.length c0] rfl (z5_) ?_; (with_reducible refine (spec_validBuckets.calls _ _ l0 true _ ?side1 ?side2 A5.out).mono ?_); (case side1 => exact z1_); (case side2 => exact HC0.out); rintro e w8 ⟨rfl, hb⟩; refine ⟨_, rfl, ?_⟩; have n0_ := Aside0.mk (below_step (z6_) hb); clear HB; have HB := n0_; clear n0_; (try clear hb); (try clear hb2); (try clear hk); (try clear hi)) | (go_at_call 33; (with_reducible refine (spec_validTime.calls a2 t185 _ A7.out).mono ?_); rintro e w' ⟨rfl, ⟨nd, rfl⟩⟩))
      go_meet
      case rel => exact ⟨_, (!t185), (z11_), H', ⟨by first | omega | exact Nat.le_refl _⟩, ⟨z6_⟩⟩
    · replace c6 := Bool.eq_false_iff.mpr c6
      subst c6
      have H1 : (spec_TokensAt.j0 k l0 a1 a2 true) = some r := by rw [if_neg (show ¬ (false = true) by decide)] at H; exact H
      clear H
      have H := H1
      clear H1
      have H' := Aside0.mk H
      clear H
      go_wp2_with (first | ((with_reducible refine gate_callee (f := 57) rfl ?_); refine goesL_ (some 9) rfl rfl Tryz.func57 (by kernel_rfl) rfl #[.slice A0 l0.length c0] rfl (z5_) ?_; (with_reducible refine (spec_validBuckets.calls _ _ l0 false _ ?side1 ?side2 A5.out).mono ?_); (case side1 => exact z1_); (case side2 => exact HC0.out); rintro e w9 ⟨rfl, hb⟩; refine ⟨_, rfl, ?_⟩; have n0_ := Aside0.mk (below_step (z6_) hb); clear HB; have HB := n0_; clear n0_; (try clear hb); (try clear hb2); (try clear hk); (try clear hi)))
      go_meet
      case rel => exact ⟨_, (true), (z11_), H', ⟨by first | omega | exact Nat.le_refl _⟩, ⟨z6_⟩⟩
  case rest =>
    clear HC4
    try clear p2
    try clear c5
    try clear c6
    obtain ⟨kq, x15_3, rfl, HA, HJ3, HB⟩ := hcut
    cases kq with
    | zero => exact absurd HA.out (by simp [spec_TokensAt.j0])
    | succ kj3 =>
      have H := HA.out
      clear HA
      simp only [spec_TokensAt.j0] at H
      by_cases c10 : x15_3 = true
      · subst c10
        have H1 : (some (-1)) = some r := by rw [if_pos rfl] at H; exact H
        clear H
        have H := H1
        clear H1
        obtain rfl := Option.some.inj H
        go_wp2
        go_ret
        exact ⟨z9_, z6_⟩
      · replace c10 := Bool.eq_false_iff.mpr c10
        subst c10
        have H1 : (spec_TokensAt.l0 kj3 l0 a1 a2 0) = some r := by rw [if_neg (show ¬ (false = true) by decide)] at H; exact H
        clear H
        have H := H1
        clear H1
        have H' := Aside0.mk H
        clear H
        go_wp2
        go_loopg [7] kj3 (fun kq v7 w' => ∃ (x7_2 : Int), v7 = .int .i64 x7_2 ∧ Aside0 (spec_TokensAt.l0 kq l0 a1 a2 x7_2 = some r) ∧ Aside0 (kq ≤ kj3) ∧ Aside0 (Below w.heap.size w w'))
        case atStart => exact ⟨(0), (z11_), H', ⟨Nat.le_refl _⟩, ⟨z6_⟩⟩
        case round =>
          clear H'
          try clear c1
          try clear p2
          try clear c5
          try clear c6
          try clear c10
          try clear p2
          obtain ⟨x7_2, rfl, HA, HK2, HB⟩ := hrel
          cases gk with
          | zero => exact absurd HA.out (by simp [spec_TokensAt.l0])
          | succ k2 =>
            have H := HA.out
            clear HA
            simp only [spec_TokensAt.l0] at H
            by_cases c11 : x7_2 < (l0.length : Int)
            · rw [if_pos c11] at H
              have c11b0 : decide (x7_2 < (l0.length : Int)) = true := decide_eq_true c11
              clear c11
              by_cases c12 : 0 ≤ x7_2
              · rw [if_pos c12] at H
                have c12b0 : decide (0 ≤ x7_2) = true := decide_eq_true c12
                clear c12
                by_cases c13 : ((rd_T74 l0 x7_2).f0) = a1
                · rw [if_pos c13] at H
                  have c13b0 : (((rd_T74 l0 x7_2).f0) == a1) = true := beq_iff_eq.mpr c13
                  have c13b1 : (((rd_T74 l0 x7_2).f0) != a1) = false := bne_eq_false_iff_eq.mpr c13
                  clear c13
                  replace H := Option.bind_eq_some_iff.mp H
                  obtain ⟨t188, A140, H⟩ := H
                  replace H : (some t188) = some r := H
                  have A14 := Aside0.mk A140
                  clear A140
                  obtain rfl := Option.some.inj H
                  have p186 : 0 ≤ (x7_2 : Int) := of_decide_eq_true (z10_)
                  have q186 : x7_2 < (l0.length : Int) := of_decide_eq_true (z10_)
                  obtain ⟨ad186, e186, hx186_0, hx186_1, hx186_2⟩ := at_T74 HR0.out x7_2 p186 q186
                  cases e186
                  replace hx186_0 := (HB.out.cell (World.block_lt_of_cell? w _ hx186_0)).trans hx186_0
                  replace hx186_1 := (HB.out.cell (World.block_lt_of_cell? w _ hx186_1)).trans hx186_1
                  replace hx186_2 := (HB.out.cell (World.block_lt_of_cell? w _ hx186_2)).trans hx186_2
                  replace p186 := eq_true p186
                  replace q186 := eq_true q186
                  have p187 : 0 ≤ (x7_2 : Int) := of_decide_eq_true (z10_)
                  have q187 : x7_2 < (l0.length : Int) := of_decide_eq_true (z10_)
                  obtain ⟨ad187, e187, hx187_0, hx187_1, hx187_2⟩ := at_T74 HR0.out x7_2 p187 q187
                  obtain rfl : ad186 = ad187 := (by injection e187)
                  replace hx187_0 := (HB.out.cell (World.block_lt_of_cell? w _ hx187_0)).trans hx187_0
                  replace hx187_1 := (HB.out.cell (World.block_lt_of_cell? w _ hx187_1)).trans hx187_1
                  replace hx187_2 := (HB.out.cell (World.block_lt_of_cell? w _ hx187_2)).trans hx187_2
                  replace p187 := eq_true p187
                  replace q187 := eq_true q187
                  go_wp2_with (first | ((with_reducible refine gate_callee (f := 84) rfl ?_); refine goesL_ (some 34) rfl rfl Tryz.func84 (by kernel_rfl) rfl #[.agg #[.int .i64 ((rd_T74 l0 x7_2).f0), .int .i64 ((rd_T74 l0 x7_2).f1), .int .i64 ((rd_T74 l0 x7_2).f2)], .int .i64 a2] rfl (z5_) ?_; (with_reducible refine (spec_tokensAt.calls ((rd_T74 l0 x7_2).f0) ((rd_T74 l0 x7_2).f1) ((rd_T74 l0 x7_2).f2) a2 t188 _ A14.out).mono ?_); rintro e w15 ⟨rfl, hb⟩; refine ⟨_, rfl, ?_⟩; have n0_ := Aside0.mk (below_step (z6_) hb); clear HB; have HB := n0_; clear n0_; (try clear hb); (try clear hb2); (try clear hk); (try clear hi)))
                  go_ret
                  exact ⟨z9_, z6_⟩
                · rw [if_neg c13] at H
                  have c13b0 : (((rd_T74 l0 x7_2).f0) == a1) = false := beq_eq_false_iff_ne.mpr c13
                  have c13b1 : (((rd_T74 l0 x7_2).f0) != a1) = true := bne_iff_ne.mpr c13
                  have H' := Aside0.mk H
                  clear H
                  have p186 : 0 ≤ (x7_2 : Int) := of_decide_eq_true (z10_)
                  have q186 : x7_2 < (l0.length : Int) := of_decide_eq_true (z10_)
                  obtain ⟨ad186, e186, hx186_0, hx186_1, hx186_2⟩ := at_T74 HR0.out x7_2 p186 q186
                  cases e186
                  replace hx186_0 := (HB.out.cell (World.block_lt_of_cell? w _ hx186_0)).trans hx186_0
                  replace hx186_1 := (HB.out.cell (World.block_lt_of_cell? w _ hx186_1)).trans hx186_1
                  replace hx186_2 := (HB.out.cell (World.block_lt_of_cell? w _ hx186_2)).trans hx186_2
                  replace p186 := eq_true p186
                  replace q186 := eq_true q186
                  go_wp2
                  go_roundg k2
                  case measure => have := HJ3.out; have := HK2.out; omega
                  case rel => exact ⟨(wrap64 (x7_2 + 1)), (z11_), H', ⟨by have := HJ3.out; have := HK2.out; omega⟩, ⟨z6_⟩⟩
              · rw [if_neg c12] at H
                exact absurd H (by simp)
            · rw [if_neg c11] at H
              have c11b0 : decide (x7_2 < (l0.length : Int)) = false := decide_eq_false c11
              clear c11
              obtain rfl := Option.some.inj H
              go_wp2
              go_ret
              exact ⟨z9_, z6_⟩

end Go.Proofs.YtdggcfpimjdckaaGreatDoor.PFnExactRunSession
