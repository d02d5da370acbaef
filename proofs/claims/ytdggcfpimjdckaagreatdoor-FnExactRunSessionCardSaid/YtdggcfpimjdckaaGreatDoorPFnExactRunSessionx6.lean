-- Out of a print of the walks, turned by a program of this session; Lean checks it.
import Derived.Test.YtdggcfpimjdckaaGreatDoorPFnExactRunSessionx0
import Derived.Test.YtdggcfpimjdckaaGreatDoorPFnExactRunSessionx1
import Derived.Test.YtdggcfpimjdckaaGreatDoorPFnExactRunSessionx5
namespace Go.Proofs.YtdggcfpimjdckaaGreatDoor.PFnExactRunSession
open Go.RowKit Go.Proofs.YtdggcfpimjdckaaGreatDoorW.PrintWords Go.Proofs.YtdggcfpimjdckaaGreatDoorW.PrintLast Go.Proofs.YtdggcfpimjdckaaGreatDoorW.PrintMore
attribute [local go_sem] max2_int min2_int max_two min_two max_three min_three max_four min_four   -- for this text's walks alone
set_option linter.unusedVariables false
set_option linter.unusedSimpArgs false

private theorem z1_ {p : Prop} (h : p := by repeat (first | exact (Kd.C_below HR0.out HB.out) | (with_reducible refine Kd.C_alloc ?_ _) | (with_reducible refine Kd.C_drewN ?_ _) | (with_reducible refine Kd.C_drew ?_))) : p := h
private theorem z2_ {p : Prop} (h : p := by repeat (first | exact (Kd.R_reads' HO_9.out).2.2 | (with_reducible refine Kd.C_alloc ?_ _) | (with_reducible refine Kd.C_drewN ?_ _) | (with_reducible refine Kd.C_drew ?_))) : p := h
private theorem z3_ {p : Prop} (h : p := by first | exact Kd.R_nil _ _ _ _ _ | exact Kd.N_nil _ _ _ _ _ | exact Kd.V_nil _ _ _ _ _ | exact Kd.Q_nil _ _ _ _ _ | exact Kd.S_nil _ _ _ _ _) : p := h
private theorem z4_ {p : Prop} (h : p := by (try simp only [List.map_toArray, List.map_cons, List.map_nil]); first | done | rfl | (simp only [List.length_drop, List.length_take]; rfl)) : p := h
private theorem z5_ {p : Prop} (h : p := by repeat (first | (with_reducible first | exact HB.out | apply below_alloc | apply pw_below_drewN | apply below_drew1) | exact HB.out)) : p := h
private theorem z6_ {p : Prop} (h : p := by (with_reducible repeat (first | apply Kd.R_alloc | apply Kd.R_drewN | apply Kd.R_drew)); exact HO193.out) : p := h
private theorem z7_ {p : Prop} (h : p := by (with_reducible repeat (first | apply Kd.R_alloc | apply Kd.R_drewN | apply Kd.R_drew)); exact HO_9.out) : p := h
private theorem z8_ {p : Prop} (h : p := by (with_reducible repeat (first | apply Kd.R_alloc | apply Kd.R_drewN | apply Kd.R_drew)); exact HO_3.out) : p := h
private theorem z9_ {p : Prop} (h : p := by first | rfl | (simp [errW_none, errW_some] <;> rfl) | (simp [*, errW_none, errW_some] <;> rfl)) : p := h
private theorem z10_ {p : Prop} (h : p := by repeat (first | exact Drawn0.refl _ | apply Drawn0.step)) : p := h
private theorem z11_ {p : Prop} (h : p := by have := HJ4.out; have := HK2.out; have := HK3.out; omega) : p := h
private theorem z12_ {p : Prop} (h : p := by first | (with_reducible assumption) | assumption) : p := h
private theorem z13_ {p : Prop} (h : p := by first | rfl | (simp; done) | (simp [*]; done)) : p := h
/-! ### spec_inTime: function 56 -/
def spec_inTime.l0 : Nat → List (S74) → Int → Int → Int → Option (Bool)
  | 0, _, _, _, _ => none
  | k + 1, x0, x1, x2, x7 => if x7 < (x0.length : Int) then (if 0 ≤ x7 then (if ((rd_T74 x0 x7).f0) = x1 then (if x2 < ((rd_T74 x0 x7).f2) then (some false) else (spec_inTime.l0 k x0 x1 x2 (wrap64 (x7 + 1)))) else (spec_inTime.l0 k x0 x1 x2 (wrap64 (x7 + 1)))) else (none)) else (some true)
def spec_inTime.f (k : Nat) (l0 : List (S74)) (a1 : Int) (a2 : Int) : Option (Bool) := spec_inTime.l0 k l0 a1 a2 0
theorem spec_inTime.mono_l : ∀ k, (∀ y0 y1 y2 y3, LeO (spec_inTime.l0 k y0 y1 y2 y3) (spec_inTime.l0 (k + 1) y0 y1 y2 y3))
  | 0 => fun _ _ _ _ r h => by simp [spec_inTime.l0] at h
  | k + 1 => by
    have ih0 := spec_inTime.mono_l k
    · intro y0 y1 y2 y3
      unfold spec_inTime.l0
      repeat' first
      | (with_reducible exact ih0 _ _ _ _)
      | (with_reducible exact LeO.refl _)
      | (with_reducible exact LeO.none _)
      | (with_reducible refine LeO.ite ?_ ?_)
      | (with_reducible refine LeO.bind ?_ (fun _ => ?_))
      | exact ih0 _ _ _ _
      | exact LeO.none _
      | refine LeO.ite ?_ ?_
      | refine LeO.bind ?_ (fun _ => ?_)
theorem spec_inTime.mono : ∀ a0 a1 a2 k, LeO (spec_inTime.f k a0 a1 a2) (spec_inTime.f (k + 1) a0 a1 a2) := by
  intro a0 a1 a2 k
  have ih0 := spec_inTime.mono_l k
  unfold spec_inTime.f
  repeat' first
      | (with_reducible exact ih0 _ _ _ _)
      | (with_reducible exact LeO.refl _)
      | (with_reducible exact LeO.none _)
      | (with_reducible refine LeO.ite ?_ ?_)
      | (with_reducible refine LeO.bind ?_ (fun _ => ?_))
      | exact ih0 _ _ _ _
      | exact LeO.none _
      | refine LeO.ite ?_ ?_
      | refine LeO.bind ?_ (fun _ => ?_)
set_option maxHeartbeats 8000000 in
set_option maxRecDepth 100000 in
theorem spec_inTime.calls (k : Nat) (A0 : Option Addr) (c0 : Nat) (l0 : List (S74)) (a1 : Int) (a2 : Int) (r : Bool) (w : World) (hr0 : Kd.C k74 w A0 l0.length l0) (hc0 : l0.length ≤ c0) (h : spec_inTime.f k l0 a1 a2 = some r) :
    Calls Tryz.prog 56 #[.slice A0 l0.length c0, .int .i64 a1, .int .i64 a2] w fun e w' => e = .returned (.bool r) ∧ Drawn0 w w' := by
  have HR0 := Aside0.mk hr0
  have HC0 := Aside0.mk hc0
  clear hr0 hc0
  have H : (spec_inTime.l0 k l0 a1 a2 0) = some r := h
  clear h
  have H' := Aside0.mk H
  clear H
  go_enter Tryz.func56, Tryz.ntmps56
  go_wp2
  go_loopg [7] k (fun kq v7 w' => ∃ (x7_1 : Int), v7 = .int .i64 x7_1 ∧ Aside0 (spec_inTime.l0 kq l0 a1 a2 x7_1 = some r) ∧ Aside0 (kq ≤ k) ∧ Drawn0 w w')
  case atStart => exact ⟨(0), (z13_), H', ⟨Nat.le_refl _⟩, z10_⟩
  case round =>
    clear H'
    try clear p2
    obtain ⟨x7_1, rfl, HA, HK1, ⟨m1, rfl⟩⟩ := hrel
    cases gk with
    | zero => exact absurd HA.out (by simp [spec_inTime.l0])
    | succ k1 =>
      have H := HA.out
      clear HA
      simp only [spec_inTime.l0] at H
      by_cases c4 : x7_1 < (l0.length : Int)
      · rw [if_pos c4] at H
        have c4b0 : decide (x7_1 < (l0.length : Int)) = true := decide_eq_true c4
        clear c4
        by_cases c5 : 0 ≤ x7_1
        · rw [if_pos c5] at H
          have c5b0 : decide (0 ≤ x7_1) = true := decide_eq_true c5
          clear c5
          by_cases c6 : ((rd_T74 l0 x7_1).f0) = a1
          · rw [if_pos c6] at H
            have c6b0 : (((rd_T74 l0 x7_1).f0) == a1) = true := beq_iff_eq.mpr c6
            have c6b1 : (((rd_T74 l0 x7_1).f0) != a1) = false := bne_eq_false_iff_eq.mpr c6
            clear c6
            by_cases c7 : a2 < ((rd_T74 l0 x7_1).f2)
            · rw [if_pos c7] at H
              have c7b0 : decide (a2 < ((rd_T74 l0 x7_1).f2)) = true := decide_eq_true c7
              clear c7
              obtain rfl := Option.some.inj H
              have p189 : 0 ≤ (x7_1 : Int) := of_decide_eq_true (z12_)
              have q189 : x7_1 < (l0.length : Int) := of_decide_eq_true (z12_)
              obtain ⟨ad189, e189, hx189_0, hx189_1, hx189_2⟩ := at_T74 HR0.out x7_1 p189 q189
              cases e189
              replace p189 := eq_true p189
              replace q189 := eq_true q189
              have p190 : 0 ≤ (x7_1 : Int) := of_decide_eq_true (z12_)
              have q190 : x7_1 < (l0.length : Int) := of_decide_eq_true (z12_)
              obtain ⟨ad190, e190, hx190_0, hx190_1, hx190_2⟩ := at_T74 HR0.out x7_1 p190 q190
              obtain rfl : ad189 = ad190 := (by injection e190)
              replace p190 := eq_true p190
              replace q190 := eq_true q190
              go_wp2
              go_ret
              exact ⟨z13_, z10_⟩
            · rw [if_neg c7] at H
              have c7b0 : decide (a2 < ((rd_T74 l0 x7_1).f2)) = false := decide_eq_false c7
              clear c7
              have H' := Aside0.mk H
              clear H
              have p189 : 0 ≤ (x7_1 : Int) := of_decide_eq_true (z12_)
              have q189 : x7_1 < (l0.length : Int) := of_decide_eq_true (z12_)
              obtain ⟨ad189, e189, hx189_0, hx189_1, hx189_2⟩ := at_T74 HR0.out x7_1 p189 q189
              cases e189
              replace p189 := eq_true p189
              replace q189 := eq_true q189
              have p190 : 0 ≤ (x7_1 : Int) := of_decide_eq_true (z12_)
              have q190 : x7_1 < (l0.length : Int) := of_decide_eq_true (z12_)
              obtain ⟨ad190, e190, hx190_0, hx190_1, hx190_2⟩ := at_T74 HR0.out x7_1 p190 q190
              obtain rfl : ad189 = ad190 := (by injection e190)
              replace p190 := eq_true p190
              replace q190 := eq_true q190
              go_wp2
              go_roundg k1
              case measure => have := HK1.out; omega
              case rel => exact ⟨(wrap64 (x7_1 + 1)), (z13_), H', ⟨by have := HK1.out; omega⟩, z10_⟩
          · rw [if_neg c6] at H
            have c6b0 : (((rd_T74 l0 x7_1).f0) == a1) = false := beq_eq_false_iff_ne.mpr c6
            have c6b1 : (((rd_T74 l0 x7_1).f0) != a1) = true := bne_iff_ne.mpr c6
            have H' := Aside0.mk H
            clear H
            have p189 : 0 ≤ (x7_1 : Int) := of_decide_eq_true (z12_)
            have q189 : x7_1 < (l0.length : Int) := of_decide_eq_true (z12_)
            obtain ⟨ad189, e189, hx189_0, hx189_1, hx189_2⟩ := at_T74 HR0.out x7_1 p189 q189
            cases e189
            replace p189 := eq_true p189
            replace q189 := eq_true q189
            go_wp2
            go_roundg k1
            case measure => have := HK1.out; omega
            case rel => exact ⟨(wrap64 (x7_1 + 1)), (z13_), H', ⟨by have := HK1.out; omega⟩, z10_⟩
        · rw [if_neg c5] at H
          exact absurd H (by simp)
      · rw [if_neg c4] at H
        have c4b0 : decide (x7_1 < (l0.length : Int)) = false := decide_eq_false c4
        clear c4
        obtain rfl := Option.some.inj H
        go_wp2
        go_ret
        exact ⟨z13_, z10_⟩

/-! ### spec_TakeToken: function 35 -/
mutual
def spec_TakeToken.j0 : Nat → List (S74) → Int → Int → List (S74) → Int → Bool → Option ((List (S74)) × Bool × Bool)
  | 0, _, _, _, _, _, _ => none
  | k + 1, x0, x1, x2, x9, x10, x24 => if x24 = true then (some (([] : List (S74)), false, false)) else ((spec_inTime.f k x0 x1 x2).bind fun t196 => (if t196 = true then (if x10 = 0 then (if x9.length + x0.length < 5864062014805 then (some ((x9 ++ x0), false, true)) else (none)) else (spec_TakeToken.l0 k x0 x1 x2 x9 x10 0)) else (some (([] : List (S74)), false, false))))
def spec_TakeToken.l0 : Nat → List (S74) → Int → Int → List (S74) → Int → Int → Option ((List (S74)) × Bool × Bool)
  | 0, _, _, _, _, _, _ => none
  | k + 1, x0, x1, x2, x9, x10, x11 => if x11 < (x0.length : Int) then (if 0 ≤ x11 then (if ((rd_T74 x0 x11).f0) < x1 then (if x9.length < 5864062014805 then (spec_TakeToken.l0 k x0 x1 x2 (x9 ++ [(⟨(rd_T74 x0 x11).f0, (rd_T74 x0 x11).f1, (rd_T74 x0 x11).f2⟩ : S74)]) x10 (wrap64 (x11 + 1))) else (none)) else (spec_TakeToken.l0 k x0 x1 x2 x9 x10 (wrap64 (x11 + 1)))) else (none)) else (if x9.length < 5864062014805 then (spec_TakeToken.l1 k x0 x1 (x9 ++ [(⟨x1, wrap64 (x10 - 1), x2⟩ : S74)]) 0) else (none))
def spec_TakeToken.l1 : Nat → List (S74) → Int → List (S74) → Int → Option ((List (S74)) × Bool × Bool)
  | 0, _, _, _, _ => none
  | k + 1, x0, x1, x9, x12 => if x12 < (x0.length : Int) then (if 0 ≤ x12 then (if ((rd_T74 x0 x12).f0) > x1 then (if x9.length < 5864062014805 then (spec_TakeToken.l1 k x0 x1 (x9 ++ [(⟨(rd_T74 x0 x12).f0, (rd_T74 x0 x12).f1, (rd_T74 x0 x12).f2⟩ : S74)]) (wrap64 (x12 + 1))) else (none)) else (spec_TakeToken.l1 k x0 x1 x9 (wrap64 (x12 + 1)))) else (none)) else ((spec_validBuckets.f x9).bind fun t213 => (if t213 = true then (some (x9, true, true)) else (some (([] : List (S74)), false, false))))
end
def spec_TakeToken.f (k : Nat) (l0 : List (S74)) (a1 : Int) (a2 : Int) : Option ((List (S74)) × Bool × Bool) := (some (([] : List (S74)) : List (S74))).bind fun y191 => ((spec_TokensAt.f k l0 a1 a2).bind fun t194 => (if t194 < 0 then (spec_TakeToken.j0 k l0 a1 a2 y191 t194 true) else ((spec_inRange.f a1 0 99).bind fun t195 => (spec_TakeToken.j0 k l0 a1 a2 y191 t194 (!t195)))))
theorem spec_TakeToken.mono_l : ∀ k, (∀ y0 y1 y2 y3 y4 y5, LeO (spec_TakeToken.j0 k y0 y1 y2 y3 y4 y5) (spec_TakeToken.j0 (k + 1) y0 y1 y2 y3 y4 y5)) ∧ (∀ y0 y1 y2 y3 y4 y5, LeO (spec_TakeToken.l0 k y0 y1 y2 y3 y4 y5) (spec_TakeToken.l0 (k + 1) y0 y1 y2 y3 y4 y5)) ∧ (∀ y0 y1 y2 y3, LeO (spec_TakeToken.l1 k y0 y1 y2 y3) (spec_TakeToken.l1 (k + 1) y0 y1 y2 y3))
  | 0 => ⟨fun _ _ _ _ _ _ r h => by simp [spec_TakeToken.j0] at h, fun _ _ _ _ _ _ r h => by simp [spec_TakeToken.l0] at h, fun _ _ _ _ r h => by simp [spec_TakeToken.l1] at h⟩
  | k + 1 => by
    obtain ⟨ih0, ih1, ih2⟩ := spec_TakeToken.mono_l k
    refine ⟨?_, ?_, ?_⟩
    · intro y0 y1 y2 y3 y4 y5
      unfold spec_TakeToken.j0
      repeat' first
      | (with_reducible exact ih0 _ _ _ _ _ _)
      | (with_reducible exact ih1 _ _ _ _ _ _)
      | (with_reducible exact ih2 _ _ _ _)
      | (with_reducible exact spec_TokensAt.mono _ _ _ _)
      | (with_reducible exact spec_inTime.mono _ _ _ _)
      | (with_reducible exact LeO.refl _)
      | (with_reducible exact LeO.none _)
      | (with_reducible refine LeO.ite ?_ ?_)
      | (with_reducible refine LeO.bind ?_ (fun _ => ?_))
      | exact ih0 _ _ _ _ _ _
      | exact ih1 _ _ _ _ _ _
      | exact ih2 _ _ _ _
      | exact spec_TokensAt.mono _ _ _ _
      | exact spec_inTime.mono _ _ _ _
      | exact LeO.none _
      | refine LeO.ite ?_ ?_
      | refine LeO.bind ?_ (fun _ => ?_)
    · intro y0 y1 y2 y3 y4 y5
      unfold spec_TakeToken.l0
      repeat' first
      | (with_reducible exact ih0 _ _ _ _ _ _)
      | (with_reducible exact ih1 _ _ _ _ _ _)
      | (with_reducible exact ih2 _ _ _ _)
      | (with_reducible exact spec_TokensAt.mono _ _ _ _)
      | (with_reducible exact spec_inTime.mono _ _ _ _)
      | (with_reducible exact LeO.refl _)
      | (with_reducible exact LeO.none _)
      | (with_reducible refine LeO.ite ?_ ?_)
      | (with_reducible refine LeO.bind ?_ (fun _ => ?_))
      | exact ih0 _ _ _ _ _ _
      | exact ih1 _ _ _ _ _ _
      | exact ih2 _ _ _ _
      | exact spec_TokensAt.mono _ _ _ _
      | exact spec_inTime.mono _ _ _ _
      | exact LeO.none _
      | refine LeO.ite ?_ ?_
      | refine LeO.bind ?_ (fun _ => ?_)
    · intro y0 y1 y2 y3
      unfold spec_TakeToken.l1
      repeat' first
      | (with_reducible exact ih0 _ _ _ _ _ _)
      | (with_reducible exact ih1 _ _ _ _ _ _)
      | (with_reducible exact ih2 _ _ _ _)
      | (with_reducible exact spec_TokensAt.mono _ _ _ _)
      | (with_reducible exact spec_inTime.mono _ _ _ _)
      | (with_reducible exact LeO.refl _)
      | (with_reducible exact LeO.none _)
      | (with_reducible refine LeO.ite ?_ ?_)
      | (with_reducible refine LeO.bind ?_ (fun _ => ?_))
      | exact ih0 _ _ _ _ _ _
      | exact ih1 _ _ _ _ _ _
      | exact ih2 _ _ _ _
      | exact spec_TokensAt.mono _ _ _ _
      | exact spec_inTime.mono _ _ _ _
      | exact LeO.none _
      | refine LeO.ite ?_ ?_
      | refine LeO.bind ?_ (fun _ => ?_)
theorem spec_TakeToken.mono : ∀ a0 a1 a2 k, LeO (spec_TakeToken.f k a0 a1 a2) (spec_TakeToken.f (k + 1) a0 a1 a2) := by
  intro a0 a1 a2 k
  obtain ⟨ih0, ih1, ih2⟩ := spec_TakeToken.mono_l k
  unfold spec_TakeToken.f
  repeat' first
      | (with_reducible exact ih0 _ _ _ _ _ _)
      | (with_reducible exact ih1 _ _ _ _ _ _)
      | (with_reducible exact ih2 _ _ _ _)
      | (with_reducible exact spec_TokensAt.mono _ _ _ _)
      | (with_reducible exact spec_inTime.mono _ _ _ _)
      | (with_reducible exact LeO.refl _)
      | (with_reducible exact LeO.none _)
      | (with_reducible refine LeO.ite ?_ ?_)
      | (with_reducible refine LeO.bind ?_ (fun _ => ?_))
      | exact ih0 _ _ _ _ _ _
      | exact ih1 _ _ _ _ _ _
      | exact ih2 _ _ _ _
      | exact spec_TokensAt.mono _ _ _ _
      | exact spec_inTime.mono _ _ _ _
      | exact LeO.none _
      | refine LeO.ite ?_ ?_
      | refine LeO.bind ?_ (fun _ => ?_)
set_option maxHeartbeats 8000000 in
set_option maxRecDepth 100000 in
theorem spec_TakeToken.calls (k : Nat) (A0 : Option Addr) (c0 : Nat) (l0 : List (S74)) (a1 : Int) (a2 : Int) (r1 : List (S74)) (r2 : Bool) (r3 : Bool) (w : World) (hr0 : Kd.C k74 w A0 l0.length l0) (hc0 : l0.length ≤ c0) (h : spec_TakeToken.f k l0 a1 a2 = some (r1, r2, r3)) :
    Calls Tryz.prog 35 #[.slice A0 l0.length c0, .int .i64 a1, .int .i64 a2] w fun e w' => ∃ v0_ : Value, e = .returned (.tuple #[v0_, .bool r2, .bool r3]) ∧ Kd.R k74 74 w' w.heap.size (fun _ => True) v0_ r1 ∧ Below w.heap.size w w' := by
  have hu74 := Tryz.underlying74
  have HR0 := Aside0.mk hr0
  have HC0 := Aside0.mk hc0
  clear hr0 hc0
  have HB := Aside0.mk (Below.refl w.heap.size w)
  have H : ((some (([] : List (S74)) : List (S74))).bind fun y191 => ((spec_TokensAt.f k l0 a1 a2).bind fun t194 => (if t194 < 0 then (spec_TakeToken.j0 k l0 a1 a2 y191 t194 true) else ((spec_inRange.f a1 0 99).bind fun t195 => (spec_TakeToken.j0 k l0 a1 a2 y191 t194 (!t195)))))) = some (r1, r2, r3) := h
  clear h
  obtain ⟨y191, hy191⟩ : ∃ y_ : List (S74), y_ = (([] : List (S74))) := ⟨_, rfl⟩
  replace H : ((spec_TokensAt.f k l0 a1 a2).bind fun t194 => (if t194 < 0 then (spec_TakeToken.j0 k l0 a1 a2 y191 t194 true) else ((spec_inRange.f a1 0 99).bind fun t195 => (spec_TakeToken.j0 k l0 a1 a2 y191 t194 (!t195))))) = some (r1, r2, r3) := by first | (rw [hy191]; with_reducible exact H) | (have H2_ := (Option.bind_some _ _).symm.trans H; rw [hy191]; with_reducible exact H2_) | (have H2_ := (Option.bind_some _ _).symm.trans H; with_reducible exact H2_) | with_reducible exact H | (rw [hy191]; exact H) | exact H
  have Ny191 := Aside0.mk hy191
  clear hy191
  replace H := Option.bind_eq_some_iff.mp H
  obtain ⟨t194, A40, H⟩ := H
  replace H : (if t194 < 0 then (spec_TakeToken.j0 k l0 a1 a2 y191 t194 true) else ((spec_inRange.f a1 0 99).bind fun t195 => (spec_TakeToken.j0 k l0 a1 a2 y191 t194 (!t195)))) = some (r1, r2, r3) := H
  have A4 := Aside0.mk A40
  clear A40
  have HC5 := Aside0.mk H
  clear H
  go_enter Tryz.func35, Tryz.ntmps35
  go_upto_region 3 with (first | ((with_reducible refine gate_dst (N := 13) rfl ?_); refine Kd.R_lit k74 _ 74 ?hg (N := 13) ?hd (xs := ([] : List (S74))) (inner := []) (ok := fun _ => True) (okp := fun _ => True) ?hr ?hp (fun _ hk => hk) trivial (Below.refl _ _) (Nat.le_refl _) (by simp) ?_; (case hd => rfl); (case hg => rfl); (case hr => first | (go_simp; done) | (go_simp; rfl)); (case hp => exact (Reps.none _ _)); intro v192 w6 ho7 hb hg_ hnew_; clear hg_ hnew_; (first | rw [← Ny191.out] at ho7 | (simp only [Int.reduceToNat] at ho7; rw [← Ny191.out] at ho7)); have n0_ := Aside0.mk (Kd.R_lower ho7 (below_size (z5_))); have n1_ := Aside0.mk (below_step (z5_) hb); clear HB; have HO193 := n0_; have HB := n1_; clear n0_ n1_; clear hb ho7) | ((with_reducible refine gate_callee (f := 55) rfl ?_); refine goesL_ (some 17) rfl rfl Tryz.func55 (by kernel_rfl) rfl #[.slice A0 l0.length c0, .int .i64 a1, .int .i64 a2] rfl (z4_) ?_; (with_reducible refine (spec_TokensAt.calls k _ _ l0 a1 a2 t194 _ ?side1 ?side2 A4.out).mono ?_); (case side1 => exact z1_); (case side2 => exact HC0.out); rintro e w8 ⟨rfl, hb⟩; refine ⟨_, rfl, ?_⟩; have n0_ := Aside0.mk (Kd.R_below (z6_) hb); have n1_ := Aside0.mk (below_step (z5_) hb); clear HO193; clear HB; have HO193 := n0_; have HB := n1_; clear n0_ n1_; (try clear hb); (try clear hb2); (try clear hk); (try clear hi)))
  (try simp only [Act.put, List.setIfInBounds_toArray, List.set_cons_zero, List.set_cons_succ])
  go_cut [24] (fun v24 wc => ∃ (kq : Nat) (x24_4 : Bool), v24 = .bool x24_4 ∧ Aside0 (spec_TakeToken.j0 kq l0 a1 a2 y191 t194 x24_4 = some (r1, r2, r3)) ∧ Aside0 (kq ≤ k) ∧ Aside0 (Kd.R k74 74 wc w.heap.size (fun _ => True) v192 y191) ∧ Aside0 (Below w.heap.size w wc))
  case first =>
    have H := HC5.out
    clear HC5
    by_cases c9 : t194 < 0
    · rw [if_pos c9] at H
      have c9b0 : decide (t194 < 0) = true := decide_eq_true c9
      clear c9
      (first | rw [c9b0] | (simp only [i64_w, i32_w]; rw [c9b0]) | skip)
      have H' := Aside0.mk H
      clear H
      go_wp2
      go_meet
      case rel => exact ⟨_, (true), (z13_), H', ⟨by first | omega | exact Nat.le_refl _⟩, ⟨z6_⟩, ⟨z5_⟩⟩
    · rw [if_neg c9] at H
      have c9b0 : decide (t194 < 0) = false := decide_eq_false c9
      clear c9
      (first | rw [c9b0] | (simp only [i64_w, i32_w]; rw [c9b0]) | skip)
      replace H := Option.bind_eq_some_iff.mp H
      obtain ⟨t195, A100, H⟩ := H
      replace H : (spec_TakeToken.j0 k l0 a1 a2 y191 t194 (!t195)) = some (r1, r2, r3) := H
      have A10 := Aside0.mk A100
      clear A100
      have H' := Aside0.mk H
      clear H
      go_wp2_with (first | (go_at_call 37; (with_reducible refine (spec_inRange.calls a1 0 99 t195 _ A10.out).mono ?_); rintro e w' ⟨rfl, ⟨nd, rfl⟩⟩))
      go_meet
      case rel => exact ⟨_, (!t195), (z13_), H', ⟨by first | omega | exact Nat.le_refl _⟩, ⟨z6_⟩, ⟨z5_⟩⟩
  case rest =>
    clear HC5
    try clear p2
    try clear c3
    try clear c5
    try clear c9
    try clear c9b0
    obtain ⟨kq, x24_4, rfl, HA, HJ4, HO_9, HB⟩ := hcut
    cases kq with
    | zero => exact absurd HA.out (by simp [spec_TakeToken.j0])
    | succ kj4 =>
      have H := HA.out
      clear HA
      simp only [spec_TakeToken.j0] at H
      by_cases c11 : x24_4 = true
      · subst c11
        have H1 : (some (([] : List (S74)), false, false)) = some (r1, r2, r3) := by rw [if_pos rfl] at H; exact H
        clear H
        have H := H1
        clear H1
        simp only [Option.some.injEq, Prod.mk.injEq] at H
        obtain ⟨rfl, rfl, rfl⟩ := H
        go_wp2
        go_ret3
        exact ⟨_, z9_, z3_, z5_⟩
      · replace c11 := Bool.eq_false_iff.mpr c11
        subst c11
        have H1 : ((spec_inTime.f kj4 l0 a1 a2).bind fun t196 => (if t196 = true then (if t194 = 0 then (if y191.length + l0.length < 5864062014805 then (some ((y191 ++ l0), false, true)) else (none)) else (spec_TakeToken.l0 kj4 l0 a1 a2 y191 t194 0)) else (some (([] : List (S74)), false, false)))) = some (r1, r2, r3) := by rw [if_neg (show ¬ (false = true) by decide)] at H; exact H
        clear H
        have H := H1
        clear H1
        replace H := Option.bind_eq_some_iff.mp H
        obtain ⟨t196, A120, H⟩ := H
        replace H : (if t196 = true then (if t194 = 0 then (if y191.length + l0.length < 5864062014805 then (some ((y191 ++ l0), false, true)) else (none)) else (spec_TakeToken.l0 kj4 l0 a1 a2 y191 t194 0)) else (some (([] : List (S74)), false, false))) = some (r1, r2, r3) := H
        have A12 := Aside0.mk A120
        clear A120
        by_cases c13 : t196 = true
        · subst c13
          have H1 : (if t194 = 0 then (if y191.length + l0.length < 5864062014805 then (some ((y191 ++ l0), false, true)) else (none)) else (spec_TakeToken.l0 kj4 l0 a1 a2 y191 t194 0)) = some (r1, r2, r3) := by rw [if_pos rfl] at H; exact H
          clear H
          have H := H1
          clear H1
          by_cases c14 : t194 = 0
          · rw [if_pos c14] at H
            have c14b0 : (t194 == 0) = true := beq_iff_eq.mpr c14
            have c14b1 : (t194 != 0) = false := bne_eq_false_iff_eq.mpr c14
            clear c14
            by_cases c15 : y191.length + l0.length < 5864062014805
            · rw [if_pos c15] at H
              have LMc15 := Aside0.mk c15
              clear c15
              obtain ⟨y197, hy197⟩ : ∃ y_ : List (S74), y_ = (y191 ++ l0) := ⟨_, rfl⟩
              replace H : (some (y197, false, true)) = some (r1, r2, r3) := by first | (rw [hy197]; with_reducible exact H) | (have H2_ := (Option.bind_some _ _).symm.trans H; rw [hy197]; with_reducible exact H2_) | (have H2_ := (Option.bind_some _ _).symm.trans H; with_reducible exact H2_) | with_reducible exact H | (rw [hy197]; exact H) | exact H
              have Ny197 := Aside0.mk hy197
              clear hy197
              simp only [Option.some.injEq, Prod.mk.injEq] at H
              obtain ⟨rfl, rfl, rfl⟩ := H
              go_wp2_with (first | ((with_reducible refine gate_callee (f := 56) rfl ?_); refine goesL_ (some 28) rfl rfl Tryz.func56 (by kernel_rfl) rfl #[.slice A0 l0.length c0, .int .i64 a1, .int .i64 a2] rfl (z4_) ?_; (with_reducible refine (spec_inTime.calls kj4 _ _ l0 a1 a2 true _ ?side1 ?side2 A12.out).mono ?_); (case side1 => exact z1_); (case side2 => exact HC0.out); rintro e w' ⟨rfl, ⟨nd, rfl⟩⟩; refine ⟨_, rfl, ?_⟩) | ((with_reducible refine gate_builtin (b := .append) (xs := #[.tmp 32, .tmp 33]) rfl ?_); at_builtin; refine Kd.R_append_rows k74 (w0 := w) w.heap.size rfl (.tmp 32) (.tmp 33) 31 74 (.agg #[(.int .i64 0), (.int .i64 0), (.int .i64 0)]) 24 rfl Tryz.underlying31 info74 rfl (by decide) (by omega) v192 y191 l0 _ _ _ (fun _ => True) (fun _ => False) rfl rfl ?aO ?aR (fun _ _ h => h) (fun _ h => h.elim) ?aF ?aB ?aS ?aL ?_; (case aR => repeat (first | exact (Kd.C_below HR0.out (z5_)) | (with_reducible refine Kd.C_alloc ?_ _) | (with_reducible refine Kd.C_drewN ?_ _) | (with_reducible refine Kd.C_drew ?_))); (case aB => exact (z5_)); (case aF => exact (fun _ _ => trivial)); (case aO => exact (z7_)); (case aS => exact (below_size (z5_))); (case aL => have := LMc15.out; omega); intro v198 w16 ho hb hg hat; rw [← Ny197.out] at ho; have n0_ := Aside0.mk (hb); have n1_ := Aside0.mk (ho); clear HB; clear HO_9; have HB := n0_; have HO199 := n1_; clear n0_ n1_; clear ho hb hg hat))
              go_ret3
              exact ⟨_, z9_, by (with_reducible repeat (first | apply Kd.R_alloc | apply Kd.R_drewN | apply Kd.R_drew)); exact HO199.out, z5_⟩
            · rw [if_neg c15] at H
              exact absurd H (by simp)
          · rw [if_neg c14] at H
            have c14b0 : (t194 == 0) = false := beq_eq_false_iff_ne.mpr c14
            have c14b1 : (t194 != 0) = true := bne_iff_ne.mpr c14
            have H' := Aside0.mk H
            clear H
            go_wp2_with (first | ((with_reducible refine gate_callee (f := 56) rfl ?_); refine goesL_ (some 28) rfl rfl Tryz.func56 (by kernel_rfl) rfl #[.slice A0 l0.length c0, .int .i64 a1, .int .i64 a2] rfl (z4_) ?_; (with_reducible refine (spec_inTime.calls kj4 _ _ l0 a1 a2 true _ ?side1 ?side2 A12.out).mono ?_); (case side1 => exact z1_); (case side2 => exact HC0.out); rintro e w' ⟨rfl, ⟨nd, rfl⟩⟩; refine ⟨_, rfl, ?_⟩))
            go_loopg [9, 11] kj4 (fun kq v9 v11 w' => ∃ (x9_2 : List (S74)) (x11_2 : Int), v11 = .int .i64 x11_2 ∧ Aside0 (spec_TakeToken.l0 kq l0 a1 a2 x9_2 t194 x11_2 = some (r1, r2, r3)) ∧ Aside0 (kq ≤ kj4) ∧ Aside0 (Kd.R k74 74 w' w.heap.size (fun _ => True) v9 x9_2) ∧ Aside0 (Below w.heap.size w w'))
            case atStart => exact ⟨(y191), (0), (z13_), H', ⟨Nat.le_refl _⟩, ⟨z7_⟩, ⟨z5_⟩⟩
            case round =>
              clear H'
              try clear c1
              try clear p2
              try clear c3
              try clear c5
              try clear c9
              try clear c9b0
              try clear c11
              try clear c13
              try clear c14
              try clear c14b0
              try clear c14b1
              try clear c15
              try clear p2
              obtain ⟨x9_2, x11_2, rfl, HA, HK2, HO_9, HB⟩ := hrel
              cases gk with
              | zero => exact absurd HA.out (by simp [spec_TakeToken.l0])
              | succ k2 =>
                have H := HA.out
                clear HA
                simp only [spec_TakeToken.l0] at H
                by_cases c17 : x11_2 < (l0.length : Int)
                · rw [if_pos c17] at H
                  have c17b0 : decide (x11_2 < (l0.length : Int)) = true := decide_eq_true c17
                  clear c17
                  by_cases c18 : 0 ≤ x11_2
                  · rw [if_pos c18] at H
                    have c18b0 : decide (0 ≤ x11_2) = true := decide_eq_true c18
                    clear c18
                    by_cases c19 : ((rd_T74 l0 x11_2).f0) < a1
                    · rw [if_pos c19] at H
                      have c19b0 : decide (((rd_T74 l0 x11_2).f0) < a1) = true := decide_eq_true c19
                      clear c19
                      by_cases c20 : x9_2.length < 5864062014805
                      · rw [if_pos c20] at H
                        have LMc20 := Aside0.mk c20
                        clear c20
                        obtain ⟨y202, hy202⟩ : ∃ y_ : List (S74), y_ = (x9_2 ++ [(⟨(rd_T74 l0 x11_2).f0, (rd_T74 l0 x11_2).f1, (rd_T74 l0 x11_2).f2⟩ : S74)]) := ⟨_, rfl⟩
                        replace H : (spec_TakeToken.l0 k2 l0 a1 a2 y202 t194 (wrap64 (x11_2 + 1))) = some (r1, r2, r3) := by first | (rw [hy202]; with_reducible exact H) | (have H2_ := (Option.bind_some _ _).symm.trans H; rw [hy202]; with_reducible exact H2_) | (have H2_ := (Option.bind_some _ _).symm.trans H; with_reducible exact H2_) | with_reducible exact H | (rw [hy202]; exact H) | exact H
                        have Ny202 := Aside0.mk hy202
                        clear hy202
                        have H' := Aside0.mk H
                        clear H
                        have p200 : 0 ≤ (x11_2 : Int) := of_decide_eq_true (z12_)
                        have q200 : x11_2 < (l0.length : Int) := of_decide_eq_true (z12_)
                        obtain ⟨ad200, e200, hx200_0, hx200_1, hx200_2⟩ := at_T74 HR0.out x11_2 p200 q200
                        cases e200
                        replace hx200_0 := (HB.out.cell (World.block_lt_of_cell? w _ hx200_0)).trans hx200_0
                        replace hx200_1 := (HB.out.cell (World.block_lt_of_cell? w _ hx200_1)).trans hx200_1
                        replace hx200_2 := (HB.out.cell (World.block_lt_of_cell? w _ hx200_2)).trans hx200_2
                        replace p200 := eq_true p200
                        replace q200 := eq_true q200
                        have p201 : 0 ≤ (x11_2 : Int) := of_decide_eq_true (z12_)
                        have q201 : x11_2 < (l0.length : Int) := of_decide_eq_true (z12_)
                        obtain ⟨ad201, e201, hx201_0, hx201_1, hx201_2⟩ := at_T74 HR0.out x11_2 p201 q201
                        obtain rfl : ad200 = ad201 := (by injection e201)
                        replace hx201_0 := (HB.out.cell (World.block_lt_of_cell? w _ hx201_0)).trans hx201_0
                        replace hx201_1 := (HB.out.cell (World.block_lt_of_cell? w _ hx201_1)).trans hx201_1
                        replace hx201_2 := (HB.out.cell (World.block_lt_of_cell? w _ hx201_2)).trans hx201_2
                        replace p201 := eq_true p201
                        replace q201 := eq_true q201
                        go_wp2_with (first | ((with_reducible refine gate_builtin (b := .append) (xs := #[.tmp 48, .tmp 53]) rfl ?_); at_builtin; refine Kd.R_append k74 (w0 := w) w.heap.size rfl (.tmp 48) (.tmp 53) 31 74 (.agg #[(.int .i64 0), (.int .i64 0), (.int .i64 0)]) 24 rfl Tryz.underlying31 info74 rfl (by decide) (by omega) u9 x9_2 (⟨(rd_T74 l0 x11_2).f0, (rd_T74 l0 x11_2).f1, (rd_T74 l0 x11_2).f2⟩ : S74) [.int .i64 ((rd_T74 l0 x11_2).f0), .int .i64 ((rd_T74 l0 x11_2).f1), .int .i64 ((rd_T74 l0 x11_2).f2)] (fun _ => True) (fun _ => False) rfl rfl ?aP (fun _ hk => hk.elim) ?aF ?aO ?aB ?aS ?aL ?_; (case aP => exact k74_mkM _ _ _ (⟨(rd_T74 l0 x11_2).f0, (rd_T74 l0 x11_2).f1, (rd_T74 l0 x11_2).f2⟩ : S74)); (case aB => exact (z5_)); (case aF => exact (fun _ _ => trivial)); (case aO => exact (z7_)); (case aS => exact (below_size (z5_))); (case aL => have := LMc20.out; omega); intro v203 w21 ho hb hg hat; rw [← Ny202.out] at ho; have n0_ := Aside0.mk (hb); have n1_ := Aside0.mk (ho); clear HB; clear HO_9; have HB := n0_; have HO204 := n1_; clear n0_ n1_; clear ho hb hg hat))
                        go_roundg k2
                        case measure => have := HJ4.out; have := HK2.out; omega
                        case rel => exact ⟨(y202), (wrap64 (x11_2 + 1)), (z13_), H', ⟨by have := HJ4.out; have := HK2.out; omega⟩, ⟨by (with_reducible repeat (first | apply Kd.R_alloc | apply Kd.R_drewN | apply Kd.R_drew)); exact HO204.out⟩, ⟨z5_⟩⟩
                      · rw [if_neg c20] at H
                        exact absurd H (by simp)
                    · rw [if_neg c19] at H
                      have c19b0 : decide (((rd_T74 l0 x11_2).f0) < a1) = false := decide_eq_false c19
                      clear c19
                      have H' := Aside0.mk H
                      clear H
                      have p200 : 0 ≤ (x11_2 : Int) := of_decide_eq_true (z12_)
                      have q200 : x11_2 < (l0.length : Int) := of_decide_eq_true (z12_)
                      obtain ⟨ad200, e200, hx200_0, hx200_1, hx200_2⟩ := at_T74 HR0.out x11_2 p200 q200
                      cases e200
                      replace hx200_0 := (HB.out.cell (World.block_lt_of_cell? w _ hx200_0)).trans hx200_0
                      replace hx200_1 := (HB.out.cell (World.block_lt_of_cell? w _ hx200_1)).trans hx200_1
                      replace hx200_2 := (HB.out.cell (World.block_lt_of_cell? w _ hx200_2)).trans hx200_2
                      replace p200 := eq_true p200
                      replace q200 := eq_true q200
                      go_wp2
                      go_roundg k2
                      case measure => have := HJ4.out; have := HK2.out; omega
                      case rel => exact ⟨(x9_2), (wrap64 (x11_2 + 1)), (z13_), H', ⟨by have := HJ4.out; have := HK2.out; omega⟩, ⟨z7_⟩, ⟨z5_⟩⟩
                  · rw [if_neg c18] at H
                    exact absurd H (by simp)
                · rw [if_neg c17] at H
                  have c17b0 : decide (x11_2 < (l0.length : Int)) = false := decide_eq_false c17
                  clear c17
                  by_cases c22 : x9_2.length < 5864062014805
                  · rw [if_pos c22] at H
                    have LMc22 := Aside0.mk c22
                    clear c22
                    obtain ⟨y205, hy205⟩ : ∃ y_ : List (S74), y_ = (x9_2 ++ [(⟨a1, wrap64 (t194 - 1), a2⟩ : S74)]) := ⟨_, rfl⟩
                    replace H : (spec_TakeToken.l1 k2 l0 a1 y205 0) = some (r1, r2, r3) := by first | (rw [hy205]; with_reducible exact H) | (have H2_ := (Option.bind_some _ _).symm.trans H; rw [hy205]; with_reducible exact H2_) | (have H2_ := (Option.bind_some _ _).symm.trans H; with_reducible exact H2_) | with_reducible exact H | (rw [hy205]; exact H) | exact H
                    have Ny205 := Aside0.mk hy205
                    clear hy205
                    have H' := Aside0.mk H
                    clear H
                    go_wp2_with (first | ((with_reducible refine gate_builtin (b := .append) (xs := #[.tmp 55, .tmp 61]) rfl ?_); at_builtin; refine Kd.R_append k74 (w0 := w) w.heap.size rfl (.tmp 55) (.tmp 61) 31 74 (.agg #[(.int .i64 0), (.int .i64 0), (.int .i64 0)]) 24 rfl Tryz.underlying31 info74 rfl (by decide) (by omega) u9 x9_2 (⟨a1, wrap64 (t194 - 1), a2⟩ : S74) [.int .i64 a1, .int .i64 (wrap64 (t194 - 1)), .int .i64 a2] (fun _ => True) (fun _ => False) rfl rfl ?aP (fun _ hk => hk.elim) ?aF ?aO ?aB ?aS ?aL ?_; (case aP => exact k74_mkM _ _ _ (⟨a1, wrap64 (t194 - 1), a2⟩ : S74)); (case aB => exact (z5_)); (case aF => exact (fun _ _ => trivial)); (case aO => exact (z7_)); (case aS => exact (below_size (z5_))); (case aL => have := LMc22.out; omega); intro v206 w23 ho hb hg hat; rw [← Ny205.out] at ho; have n0_ := Aside0.mk (hb); have n1_ := Aside0.mk (ho); clear HB; clear HO_9; have HB := n0_; have HO207 := n1_; clear n0_ n1_; clear ho hb hg hat))
                    go_loopg [9, 12] k2 (fun kq v9 v12 w' => ∃ (x9_3 : List (S74)) (x12_3 : Int), v12 = .int .i64 x12_3 ∧ Aside0 (spec_TakeToken.l1 kq l0 a1 x9_3 x12_3 = some (r1, r2, r3)) ∧ Aside0 (kq ≤ k2) ∧ Aside0 (Kd.R k74 74 w' w.heap.size (fun _ => True) v9 x9_3) ∧ Aside0 (Below w.heap.size w w'))
                    case atStart => exact ⟨(y205), (0), (z13_), H', ⟨Nat.le_refl _⟩, ⟨by (with_reducible repeat (first | apply Kd.R_alloc | apply Kd.R_drewN | apply Kd.R_drew)); exact HO207.out⟩, ⟨z5_⟩⟩
                    case round =>
                      clear H'
                      try clear c1
                      try clear c2
                      try clear p2
                      try clear q2
                      try clear hx2
                      try clear c3
                      try clear c5
                      try clear p6
                      try clear c9
                      try clear c9b0
                      try clear c11
                      try clear c13
                      try clear c14
                      try clear c14b0
                      try clear c14b1
                      try clear c15
                      try clear c17
                      try clear c17b0
                      try clear c18
                      try clear c18b0
                      try clear c19
                      try clear c19b0
                      try clear c20
                      try clear p20
                      try clear q20
                      try clear hx20
                      try clear c22
                      try clear hx200_0
                      try clear hx200_1
                      try clear hx200_2
                      try clear hx201_0
                      try clear hx201_1
                      try clear hx201_2
                      try clear p2
                      try clear p200
                      try clear p201
                      try clear q200
                      try clear q201
                      obtain ⟨x9_3, x12_3, rfl, HA, HK3, HO_9, HB⟩ := hrel
                      cases gk with
                      | zero => exact absurd HA.out (by simp [spec_TakeToken.l1])
                      | succ k3 =>
                        have H := HA.out
                        clear HA
                        simp only [spec_TakeToken.l1] at H
                        by_cases c24 : x12_3 < (l0.length : Int)
                        · rw [if_pos c24] at H
                          have c24b0 : decide (x12_3 < (l0.length : Int)) = true := decide_eq_true c24
                          clear c24
                          by_cases c25 : 0 ≤ x12_3
                          · rw [if_pos c25] at H
                            have c25b0 : decide (0 ≤ x12_3) = true := decide_eq_true c25
                            clear c25
                            by_cases c26 : ((rd_T74 l0 x12_3).f0) > a1
                            · rw [if_pos c26] at H
                              have c26b0 : decide (a1 < ((rd_T74 l0 x12_3).f0)) = true := decide_eq_true c26
                              clear c26
                              by_cases c27 : x9_3.length < 5864062014805
                              · rw [if_pos c27] at H
                                have LMc27 := Aside0.mk c27
                                clear c27
                                obtain ⟨y210, hy210⟩ : ∃ y_ : List (S74), y_ = (x9_3 ++ [(⟨(rd_T74 l0 x12_3).f0, (rd_T74 l0 x12_3).f1, (rd_T74 l0 x12_3).f2⟩ : S74)]) := ⟨_, rfl⟩
                                replace H : (spec_TakeToken.l1 k3 l0 a1 y210 (wrap64 (x12_3 + 1))) = some (r1, r2, r3) := by first | (rw [hy210]; with_reducible exact H) | (have H2_ := (Option.bind_some _ _).symm.trans H; rw [hy210]; with_reducible exact H2_) | (have H2_ := (Option.bind_some _ _).symm.trans H; with_reducible exact H2_) | with_reducible exact H | (rw [hy210]; exact H) | exact H
                                have Ny210 := Aside0.mk hy210
                                clear hy210
                                have H' := Aside0.mk H
                                clear H
                                have p208 : 0 ≤ (x12_3 : Int) := of_decide_eq_true (z12_)
                                have q208 : x12_3 < (l0.length : Int) := of_decide_eq_true (z12_)
                                obtain ⟨ad208, e208, hx208_0, hx208_1, hx208_2⟩ := at_T74 HR0.out x12_3 p208 q208
                                cases e208
                                replace hx208_0 := (HB.out.cell (World.block_lt_of_cell? w _ hx208_0)).trans hx208_0
                                replace hx208_1 := (HB.out.cell (World.block_lt_of_cell? w _ hx208_1)).trans hx208_1
                                replace hx208_2 := (HB.out.cell (World.block_lt_of_cell? w _ hx208_2)).trans hx208_2
                                replace p208 := eq_true p208
                                replace q208 := eq_true q208
                                have p209 : 0 ≤ (x12_3 : Int) := of_decide_eq_true (z12_)
                                have q209 : x12_3 < (l0.length : Int) := of_decide_eq_true (z12_)
                                obtain ⟨ad209, e209, hx209_0, hx209_1, hx209_2⟩ := at_T74 HR0.out x12_3 p209 q209
                                obtain rfl : ad208 = ad209 := (by injection e209)
                                replace hx209_0 := (HB.out.cell (World.block_lt_of_cell? w _ hx209_0)).trans hx209_0
                                replace hx209_1 := (HB.out.cell (World.block_lt_of_cell? w _ hx209_1)).trans hx209_1
                                replace hx209_2 := (HB.out.cell (World.block_lt_of_cell? w _ hx209_2)).trans hx209_2
                                replace p209 := eq_true p209
                                replace q209 := eq_true q209
                                go_wp2_with (first | ((with_reducible refine gate_builtin (b := .append) (xs := #[.tmp 76, .tmp 81]) rfl ?_); at_builtin; refine Kd.R_append k74 (w0 := w) w.heap.size rfl (.tmp 76) (.tmp 81) 31 74 (.agg #[(.int .i64 0), (.int .i64 0), (.int .i64 0)]) 24 rfl Tryz.underlying31 info74 rfl (by decide) (by omega) u9 x9_3 (⟨(rd_T74 l0 x12_3).f0, (rd_T74 l0 x12_3).f1, (rd_T74 l0 x12_3).f2⟩ : S74) [.int .i64 ((rd_T74 l0 x12_3).f0), .int .i64 ((rd_T74 l0 x12_3).f1), .int .i64 ((rd_T74 l0 x12_3).f2)] (fun _ => True) (fun _ => False) rfl rfl ?aP (fun _ hk => hk.elim) ?aF ?aO ?aB ?aS ?aL ?_; (case aP => exact k74_mkM _ _ _ (⟨(rd_T74 l0 x12_3).f0, (rd_T74 l0 x12_3).f1, (rd_T74 l0 x12_3).f2⟩ : S74)); (case aB => exact (z5_)); (case aF => exact (fun _ _ => trivial)); (case aO => exact (z7_)); (case aS => exact (below_size (z5_))); (case aL => have := LMc27.out; omega); intro v211 w28 ho hb hg hat; rw [← Ny210.out] at ho; have n0_ := Aside0.mk (hb); have n1_ := Aside0.mk (ho); clear HB; clear HO_9; have HB := n0_; have HO212 := n1_; clear n0_ n1_; clear ho hb hg hat))
                                go_roundg k3
                                case measure => have := HJ4.out; have := HK2.out; have := HK3.out; omega
                                case rel => exact ⟨(y210), (wrap64 (x12_3 + 1)), (z13_), H', ⟨z11_⟩, ⟨by (with_reducible repeat (first | apply Kd.R_alloc | apply Kd.R_drewN | apply Kd.R_drew)); exact HO212.out⟩, ⟨z5_⟩⟩
                              · rw [if_neg c27] at H
                                exact absurd H (by simp)
                            · rw [if_neg c26] at H
                              have c26b0 : decide (a1 < ((rd_T74 l0 x12_3).f0)) = false := decide_eq_false c26
                              clear c26
                              have H' := Aside0.mk H
                              clear H
                              have p208 : 0 ≤ (x12_3 : Int) := of_decide_eq_true (z12_)
                              have q208 : x12_3 < (l0.length : Int) := of_decide_eq_true (z12_)
                              obtain ⟨ad208, e208, hx208_0, hx208_1, hx208_2⟩ := at_T74 HR0.out x12_3 p208 q208
                              cases e208
                              replace hx208_0 := (HB.out.cell (World.block_lt_of_cell? w _ hx208_0)).trans hx208_0
                              replace hx208_1 := (HB.out.cell (World.block_lt_of_cell? w _ hx208_1)).trans hx208_1
                              replace hx208_2 := (HB.out.cell (World.block_lt_of_cell? w _ hx208_2)).trans hx208_2
                              replace p208 := eq_true p208
                              replace q208 := eq_true q208
                              go_wp2
                              go_roundg k3
                              case measure => have := HJ4.out; have := HK2.out; have := HK3.out; omega
                              case rel => exact ⟨(x9_3), (wrap64 (x12_3 + 1)), (z13_), H', ⟨z11_⟩, ⟨z7_⟩, ⟨z5_⟩⟩
                          · rw [if_neg c25] at H
                            exact absurd H (by simp)
                        · rw [if_neg c24] at H
                          have c24b0 : decide (x12_3 < (l0.length : Int)) = false := decide_eq_false c24
                          clear c24
                          replace H := Option.bind_eq_some_iff.mp H
                          obtain ⟨t213, A290, H⟩ := H
                          replace H : (if t213 = true then (some (x9_3, true, true)) else (some (([] : List (S74)), false, false))) = some (r1, r2, r3) := H
                          have A29 := Aside0.mk A290
                          clear A290
                          by_cases c30 : t213 = true
                          · subst c30
                            have H1 : (some (x9_3, true, true)) = some (r1, r2, r3) := by rw [if_pos rfl] at H; exact H
                            clear H
                            have H := H1
                            clear H1
                            simp only [Option.some.injEq, Prod.mk.injEq] at H
                            obtain ⟨rfl, rfl, rfl⟩ := H
                            obtain ⟨Ao31, co31, eo31⟩ := Kd.R_slice HO_9.out
                            subst eo31
                            go_wp2_with (first | ((with_reducible refine gate_callee (f := 57) rfl ?_); refine goesL_ (some 84) rfl rfl Tryz.func57 (by kernel_rfl) rfl #[.slice Ao31 x9_3.length co31] rfl (z4_) ?_; (with_reducible refine (spec_validBuckets.calls _ _ x9_3 true _ ?side1 ?side2 A29.out).mono ?_); (case side1 => exact z2_); (case side2 => exact (Kd.R_reads' HO_9.out).2.1); rintro e w32 ⟨rfl, hb⟩; refine ⟨_, rfl, ?_⟩; have n0_ := Aside0.mk (Kd.R_below (z7_) hb); have n1_ := Aside0.mk (below_step (z5_) hb); clear HO_9; clear HB; have HO_9 := n0_; have HB := n1_; clear n0_ n1_; (try clear hb); (try clear hb2); (try clear hk); (try clear hi)))
                            go_ret3
                            exact ⟨_, z9_, z7_, z5_⟩
                          · replace c30 := Bool.eq_false_iff.mpr c30
                            subst c30
                            have H1 : (some (([] : List (S74)), false, false)) = some (r1, r2, r3) := by rw [if_neg (show ¬ (false = true) by decide)] at H; exact H
                            clear H
                            have H := H1
                            clear H1
                            simp only [Option.some.injEq, Prod.mk.injEq] at H
                            obtain ⟨rfl, rfl, rfl⟩ := H
                            obtain ⟨Ao33, co33, eo33⟩ := Kd.R_slice HO_9.out
                            subst eo33
                            go_wp2_with (first | ((with_reducible refine gate_callee (f := 57) rfl ?_); refine goesL_ (some 84) rfl rfl Tryz.func57 (by kernel_rfl) rfl #[.slice Ao33 x9_3.length co33] rfl (z4_) ?_; (with_reducible refine (spec_validBuckets.calls _ _ x9_3 false _ ?side1 ?side2 A29.out).mono ?_); (case side1 => exact z2_); (case side2 => exact (Kd.R_reads' HO_9.out).2.1); rintro e w34 ⟨rfl, hb⟩; refine ⟨_, rfl, ?_⟩; have n0_ := Aside0.mk (Kd.R_below (z7_) hb); have n1_ := Aside0.mk (below_step (z5_) hb); clear HO_9; clear HB; have HO_9 := n0_; have HB := n1_; clear n0_ n1_; (try clear hb); (try clear hb2); (try clear hk); (try clear hi)))
                            go_ret3
                            exact ⟨_, z9_, z3_, z5_⟩
                  · rw [if_neg c22] at H
                    exact absurd H (by simp)
        · replace c13 := Bool.eq_false_iff.mpr c13
          subst c13
          have H1 : (some (([] : List (S74)), false, false)) = some (r1, r2, r3) := by rw [if_neg (show ¬ (false = true) by decide)] at H; exact H
          clear H
          have H := H1
          clear H1
          simp only [Option.some.injEq, Prod.mk.injEq] at H
          obtain ⟨rfl, rfl, rfl⟩ := H
          go_wp2_with (first | ((with_reducible refine gate_callee (f := 56) rfl ?_); refine goesL_ (some 28) rfl rfl Tryz.func56 (by kernel_rfl) rfl #[.slice A0 l0.length c0, .int .i64 a1, .int .i64 a2] rfl (z4_) ?_; (with_reducible refine (spec_inTime.calls kj4 _ _ l0 a1 a2 false _ ?side1 ?side2 A12.out).mono ?_); (case side1 => exact z1_); (case side2 => exact HC0.out); rintro e w' ⟨rfl, ⟨nd, rfl⟩⟩; refine ⟨_, rfl, ?_⟩))
          go_ret3
          exact ⟨_, z9_, z3_, z5_⟩

/-! ### laws_toStringS: function 6 -/
def laws_toStringS.l0 : Nat → List ByteArray → List ByteArray → Int → Option (List ByteArray)
  | 0, _, _, _ => none
  | k + 1, x0, x3, x4 => if x4 < (x0.length : Int) then (if 0 ≤ x4 then (if x4 < (x3.length : Int) then (laws_toStringS.l0 k x0 (x3.set (x4 : Int).toNat (rdOf ByteArray.empty x0 x4)) (wrap64 (x4 + 1))) else (none)) else (none)) else (some x3)
def laws_toStringS.f (k : Nat) (l0 : List ByteArray) : Option (List ByteArray) := if 0 ≤ (l0.length : Int) then (if ((l0.length : Int) : Int).toNat ≤ 17592186044416 then (laws_toStringS.l0 k l0 (List.replicate ((l0.length : Int) : Int).toNat (⟨#[]⟩ : ByteArray)) 0) else (none)) else (none)
theorem laws_toStringS.mono_l : ∀ k, (∀ y0 y1 y2, LeO (laws_toStringS.l0 k y0 y1 y2) (laws_toStringS.l0 (k + 1) y0 y1 y2))
  | 0 => fun _ _ _ r h => by simp [laws_toStringS.l0] at h
  | k + 1 => by
    have ih0 := laws_toStringS.mono_l k
    · intro y0 y1 y2
      unfold laws_toStringS.l0
      repeat' first
      | (with_reducible exact ih0 _ _ _)
      | (with_reducible exact LeO.refl _)
      | (with_reducible exact LeO.none _)
      | (with_reducible refine LeO.ite ?_ ?_)
      | (with_reducible refine LeO.bind ?_ (fun _ => ?_))
      | exact ih0 _ _ _
      | exact LeO.none _
      | refine LeO.ite ?_ ?_
      | refine LeO.bind ?_ (fun _ => ?_)
theorem laws_toStringS.mono : ∀ a0 k, LeO (laws_toStringS.f k a0) (laws_toStringS.f (k + 1) a0) := by
  intro a0 k
  have ih0 := laws_toStringS.mono_l k
  unfold laws_toStringS.f
  repeat' first
      | (with_reducible exact ih0 _ _ _)
      | (with_reducible exact LeO.refl _)
      | (with_reducible exact LeO.none _)
      | (with_reducible refine LeO.ite ?_ ?_)
      | (with_reducible refine LeO.bind ?_ (fun _ => ?_))
      | exact ih0 _ _ _
      | exact LeO.none _
      | refine LeO.ite ?_ ?_
      | refine LeO.bind ?_ (fun _ => ?_)
set_option maxHeartbeats 8000000 in
set_option maxRecDepth 100000 in
theorem laws_toStringS.calls (k : Nat) (A0 : Option Addr) (c0 : Nat) (l0 : List ByteArray) (r : List ByteArray) (w : World) (hr0 : Kd.C Kd.string w A0 l0.length l0) (hc0 : l0.length ≤ c0) (h : laws_toStringS.f k l0 = some r) :
    Calls Tryz.prog 6 #[.slice A0 l0.length c0] w fun e w' => ∃ v0_ : Value, e = .returned (v0_) ∧ Kd.R Kd.string 9 w' w.heap.size (fun _ => True) v0_ r ∧ Below w.heap.size w w' := by
  have HR0 := Aside0.mk hr0
  have HC0 := Aside0.mk hc0
  clear hr0 hc0
  have HB := Aside0.mk (Below.refl w.heap.size w)
  have H : (if 0 ≤ (l0.length : Int) then (if ((l0.length : Int) : Int).toNat ≤ 17592186044416 then (laws_toStringS.l0 k l0 (List.replicate ((l0.length : Int) : Int).toNat (⟨#[]⟩ : ByteArray)) 0) else (none)) else (none)) = some r := h
  clear h
  by_cases c2 : 0 ≤ (l0.length : Int)
  · rw [if_pos c2] at H
    have c2b0 := eq_true c2
    have c2b1 : decide (0 ≤ (l0.length : Int)) = true := decide_eq_true c2
    clear c2
    by_cases c3 : ((l0.length : Int) : Int).toNat ≤ 17592186044416
    · rw [if_pos c3] at H
      have c3b0 := eq_true c3
      have c3b1 : decide (((l0.length : Int) : Int).toNat ≤ 17592186044416) = true := decide_eq_true c3
      clear c3
      obtain ⟨y214, hy214⟩ : ∃ y_ : List ByteArray, y_ = (List.replicate ((l0.length : Int) : Int).toNat (⟨#[]⟩ : ByteArray)) := ⟨_, rfl⟩
      replace H : (laws_toStringS.l0 k l0 y214 0) = some r := by first | (rw [hy214]; with_reducible exact H) | (have H2_ := (Option.bind_some _ _).symm.trans H; rw [hy214]; with_reducible exact H2_) | (have H2_ := (Option.bind_some _ _).symm.trans H; with_reducible exact H2_) | with_reducible exact H | (rw [hy214]; exact H) | exact H
      have Ny214 := Aside0.mk hy214
      clear hy214
      have H' := Aside0.mk H
      clear H
      go_enter Tryz.func6, Tryz.ntmps6
      go_wp2_with (first | ((with_reducible refine gate_dst (N := 7) rfl ?_); refine Kd.R_make Kd.string _ 9 rfl (N := 7) rfl 22 _ _ rfl (l0.length : Int) rfl rfl Tryz.underlying22 (.string ⟨#[]⟩) 16 info9 rfl (by decide) (by omega) (⟨#[]⟩ : ByteArray) (ok := fun _ => True) (okp := fun _ => True) rfl (fun _ hk => hk) trivial (of_decide_eq_true (z12_)) (Nat.le_trans (Nat.mul_le_mul_right _ (of_decide_eq_true (z12_) : (l0.length : Int).toNat ≤ 17592186044416)) (by omega)) (Below.refl _ _) (Nat.le_refl _) ?_; intro v215 w4 ho5 hb hg_ hnew_; clear hg_ hnew_; (first | rw [← Ny214.out] at ho5 | (simp only [Int.reduceToNat] at ho5; rw [← Ny214.out] at ho5)); have n0_ := Aside0.mk (Kd.R_lower ho5 (below_size (z5_))); have n1_ := Aside0.mk (below_step (z5_) hb); clear HB; have HO216 := n0_; have HB := n1_; clear n0_ n1_; clear hb ho5))
      go_loopg [4] k (fun kq v4 w' => ∃ (x3_1 : List ByteArray) (x4_1 : Int), v4 = .int .i64 x4_1 ∧ Aside0 (laws_toStringS.l0 kq l0 x3_1 x4_1 = some r) ∧ Aside0 (kq ≤ k) ∧ Aside0 (Kd.R Kd.string 9 w' w.heap.size (fun _ => True) v215 x3_1) ∧ Aside0 (Below w.heap.size w w'))
      case atStart => exact ⟨(y214), (0), (z13_), H', ⟨Nat.le_refl _⟩, ⟨by (with_reducible repeat (first | apply Kd.R_alloc | apply Kd.R_drewN | apply Kd.R_drew)); exact HO216.out⟩, ⟨z5_⟩⟩
      case round =>
        clear H'
        try clear c2
        try clear c2b0
        try clear c2b1
        try clear p2
        try clear c3
        try clear c3b0
        try clear c3b1
        obtain ⟨x3_1, x4_1, rfl, HA, HK1, HO_3, HB⟩ := hrel
        cases gk with
        | zero => exact absurd HA.out (by simp [laws_toStringS.l0])
        | succ k1 =>
          have H := HA.out
          clear HA
          simp only [laws_toStringS.l0] at H
          by_cases c6 : x4_1 < (l0.length : Int)
          · rw [if_pos c6] at H
            have c6b0 : decide (x4_1 < (l0.length : Int)) = true := decide_eq_true c6
            clear c6
            by_cases c7 : 0 ≤ x4_1
            · rw [if_pos c7] at H
              have c7b0 : decide (0 ≤ x4_1) = true := decide_eq_true c7
              clear c7
              by_cases c8 : x4_1 < (x3_1.length : Int)
              · rw [if_pos c8] at H
                have c8b0 : decide (x4_1 < (x3_1.length : Int)) = true := decide_eq_true c8
                clear c8
                obtain ⟨y218, hy218⟩ : ∃ y_ : List ByteArray, y_ = (x3_1.set (x4_1 : Int).toNat (rdOf ByteArray.empty l0 x4_1)) := ⟨_, rfl⟩
                replace H : (laws_toStringS.l0 k1 l0 y218 (wrap64 (x4_1 + 1))) = some r := by first | (rw [hy218]; with_reducible exact H) | (have H2_ := (Option.bind_some _ _).symm.trans H; rw [hy218]; with_reducible exact H2_) | (have H2_ := (Option.bind_some _ _).symm.trans H; with_reducible exact H2_) | with_reducible exact H | (rw [hy218]; exact H) | exact H
                have Ny218 := Aside0.mk hy218
                clear hy218
                have H' := Aside0.mk H
                clear H
                have p217 : 0 ≤ (x4_1 : Int) := of_decide_eq_true (z12_)
                have q217 : x4_1 < (l0.length : Int) := of_decide_eq_true (z12_)
                obtain ⟨ad217, e217, hx217_0⟩ := Kd.at_string HR0.out x4_1 p217 q217
                cases e217
                replace hx217_0 := (HB.out.cell (World.block_lt_of_cell? w _ hx217_0)).trans hx217_0
                replace p217 := eq_true p217
                replace q217 := eq_true q217
                have p9 : 0 ≤ (x4_1 : Int) := of_decide_eq_true (z12_)
                have q9 : (x4_1 : Int) < ((x3_1.length : Int) : Int) := of_decide_eq_true (z12_)
                obtain ⟨go9, co9, eo9, gb9, gl9, cl9, HG9⟩ := Kd.R_form HO_3.out (by omega)
                (first | cases eo9 | (injection eo9 with ea_ en_ ec_; (first | subst ea_ | (injection ea_ with ea_; subst ea_)); subst ec_; clear en_))
                have GB9 := Aside0.mk gb9
                have GG9 := Aside0.mk HG9
                clear gb9 gl9 HG9
                obtain ⟨hx9_0, hf9_0⟩ := Kd.R_celln (⟨#[]⟩ : ByteArray) HO_3.out (x4_1 : Int) p9 q9
                replace p9 := eq_true p9
                replace q9 := eq_true q9
                have HP10 := Kd.R_putg HO_3.out (x4_1 : Int) (rdOf ByteArray.empty l0 x4_1)
                go_wp2_with (first | ((with_reducible refine gate_store (t := 9) (p := 20) rfl ?_); refine store_event (t := 9) (p := 20) (v := ?vo_w11) (w1 := (wr.setCell ⟨go9, (x4_1 : Int).toNat, none⟩ (.string (rdOf ByteArray.empty l0 x4_1)))) ?hg ?ho ?hn ?hr ?_; (case ho => rfl); (case hg => rfl); (case hn => rfl); (case hr => first | (go_simp; done) | (go_simp; rfl)); intro w11 hw; have hg : wr.grownBy w11 (some go9) := (by rw [hw]; exact HP10.2); have hp_ : Kd.R Kd.string 9 w11 w.heap.size (fun _ => True) (.slice (some ⟨go9, 0, none⟩) x3_1.length co9) y218 := (by rw [hw, Ny218.out]; exact HP10.1); clear HP10; have n0_ := Aside0.mk (hp_); have n1_ := Aside0.mk ((by rw [hw]; exact below_set (HB.out) GB9.out : Below w.heap.size w w11)); clear HO_3; clear HB; have HO_3 := n0_; have HB := n1_; clear n0_ n1_; clear hg hw hp_))
                go_roundg k1
                case measure => have := HK1.out; omega
                case rel => exact ⟨(y218), (wrap64 (x4_1 + 1)), (z13_), H', ⟨by have := HK1.out; omega⟩, ⟨z8_⟩, ⟨z5_⟩⟩
              · rw [if_neg c8] at H
                exact absurd H (by simp)
            · rw [if_neg c7] at H
              exact absurd H (by simp)
          · rw [if_neg c6] at H
            have c6b0 : decide (x4_1 < (l0.length : Int)) = false := decide_eq_false c6
            clear c6
            obtain rfl := Option.some.inj H
            go_wp2
            go_ret
            exact ⟨_, z9_, z8_, z5_⟩
    · rw [if_neg c3] at H
      exact absurd H (by simp)
  · rw [if_neg c2] at H
    exact absurd H (by simp)

/-! ### stringslite_HasPrefix: function 39 -/
def stringslite_HasPrefix.f (a0 : ByteArray) (a1 : ByteArray) : Option (Bool) := if (a0.size : Int) ≥ (a1.size : Int) then (if 0 ≤ (a1.size : Int) then (if (a1.size : Int) ≤ (a0.size : Int) then (some ((a0.extract 0 ((a1.size : Int) : Int).toNat).toList == a1.toList)) else (none)) else (none)) else (some false)
set_option maxHeartbeats 8000000 in
set_option maxRecDepth 100000 in
theorem stringslite_HasPrefix.calls (a0 : ByteArray) (a1 : ByteArray) (r : Bool) (w : World) (h : stringslite_HasPrefix.f a0 a1 = some r) :
    Calls Tryz.prog 39 #[.string a0, .string a1] w fun e w' => e = .returned (.bool r) ∧ Drawn0 w w' := by
  have H : (if (a0.size : Int) ≥ (a1.size : Int) then (if 0 ≤ (a1.size : Int) then (if (a1.size : Int) ≤ (a0.size : Int) then (some ((a0.extract 0 ((a1.size : Int) : Int).toNat).toList == a1.toList)) else (none)) else (none)) else (some false)) = some r := h
  clear h
  by_cases c3 : (a0.size : Int) ≥ (a1.size : Int)
  · rw [if_pos c3] at H
    have c3b0 : decide ((a1.size : Int) ≤ (a0.size : Int)) = true := decide_eq_true c3
    have c3b1 : decide (a1.size ≤ a0.size) = true := decide_eq_true (Int.ofNat_le.mp c3)
    clear c3
    by_cases c4 : 0 ≤ (a1.size : Int)
    · rw [if_pos c4] at H
      have c4b0 := eq_true c4
      have c4b1 : decide (0 ≤ (a1.size : Int)) = true := decide_eq_true c4
      clear c4
      by_cases c5 : (a1.size : Int) ≤ (a0.size : Int)
      · rw [if_pos c5] at H
        have c5b0 := eq_true c5
        have c5b1 : decide ((a1.size : Int) ≤ (a0.size : Int)) = true := decide_eq_true c5
        clear c5
        obtain rfl := Option.some.inj H
        go_enter Tryz.func39, Tryz.ntmps39
        go_wp2
        go_ret
        exact ⟨z13_, z10_⟩
      · rw [if_neg c5] at H
        exact absurd H (by simp)
    · rw [if_neg c4] at H
      exact absurd H (by simp)
  · rw [if_neg c3] at H
    have c3b0 : decide ((a1.size : Int) ≤ (a0.size : Int)) = false := decide_eq_false c3
    have c3b1 : decide (a1.size ≤ a0.size) = false := decide_eq_false (fun h => c3 (Int.ofNat_le.mpr h))
    clear c3
    obtain rfl := Option.some.inj H
    go_enter Tryz.func39, Tryz.ntmps39
    go_wp2
    go_ret
    exact ⟨z13_, z10_⟩

/-! ### strings_HasPrefix: function 20 -/
def strings_HasPrefix.f (a0 : ByteArray) (a1 : ByteArray) : Option (Bool) := (stringslite_HasPrefix.f a0 a1).bind fun t219 => (some t219)
set_option maxHeartbeats 8000000 in
set_option maxRecDepth 100000 in
theorem strings_HasPrefix.calls (a0 : ByteArray) (a1 : ByteArray) (r : Bool) (w : World) (h : strings_HasPrefix.f a0 a1 = some r) :
    Calls Tryz.prog 20 #[.string a0, .string a1] w fun e w' => e = .returned (.bool r) ∧ Drawn0 w w' := by
  have H : ((stringslite_HasPrefix.f a0 a1).bind fun t219 => (some t219)) = some r := h
  clear h
  replace H := Option.bind_eq_some_iff.mp H
  obtain ⟨t219, A30, H⟩ := H
  replace H : (some t219) = some r := H
  have A3 := Aside0.mk A30
  clear A30
  obtain rfl := Option.some.inj H
  go_enter Tryz.func20, Tryz.ntmps20
  go_wp2_with (first | ((with_reducible refine gate_callee (f := 39) rfl ?_); refine goesL_ (some 7) rfl rfl Tryz.func39 (by kernel_rfl) rfl #[.string a0, .string a1] rfl (z4_) ?_; (with_reducible refine (stringslite_HasPrefix.calls a0 a1 t219 _ A3.out).mono ?_); rintro e w' ⟨rfl, ⟨nd, rfl⟩⟩; refine ⟨_, rfl, ?_⟩))
  go_ret
  exact ⟨z13_, z10_⟩

/-! ### strconv_Itoa: function 26 -/
def strconv_Itoa.f (a0 : Int) : Option (ByteArray) := if -9223372036854775808 ≤ a0 ∧ a0 ≤ 9223372036854775807 then (some ⟨(Lib.itoa a0).toArray⟩) else none
theorem strconv_Itoa.calls (a0 : Int) (r : ByteArray) (w : World) (htb_ : Tc w) (h : strconv_Itoa.f a0 = some r) :
    Calls Tryz.prog 26 #[.int .i64 a0] w fun e w' => e = .returned (.string r) ∧ Below w.heap.size w w' := by
  unfold strconv_Itoa.f at h
  by_cases hb : -9223372036854775808 ≤ a0 ∧ a0 ≤ 9223372036854775807
  · rw [if_pos hb] at h
    obtain rfl := Option.some.inj h
    refine (Tryz.strconv_Itoa a0 hb.1 hb.2 w htb_.1).mono (fun e w' he => ?_)
    obtain ⟨he, k, os, rfl⟩ := he
    exact ⟨he, Lib.below_grow w.heap.size w (Nat.le_refl _) k os⟩
  · rw [if_neg hb] at h; cases h

/-! ### impl_within: function 49 -/
def impl_within.f (a0 : Int) (a1 : Int) (a2 : Int) : Option (Bool) := if a0 ≥ a1 then (some (decide (a0 ≤ a2))) else (some false)
set_option maxHeartbeats 8000000 in
set_option maxRecDepth 100000 in
theorem impl_within.calls (a0 : Int) (a1 : Int) (a2 : Int) (r : Bool) (w : World) (h : impl_within.f a0 a1 a2 = some r) :
    Calls Tryz.prog 49 #[.int .i64 a0, .int .i64 a1, .int .i64 a2] w fun e w' => e = .returned (.bool r) ∧ Drawn0 w w' := by
  have H : (if a0 ≥ a1 then (some (decide (a0 ≤ a2))) else (some false)) = some r := h
  clear h
  by_cases c4 : a0 ≥ a1
  · rw [if_pos c4] at H
    have c4b0 : decide (a1 ≤ a0) = true := decide_eq_true c4
    clear c4
    obtain rfl := Option.some.inj H
    go_enter Tryz.func49, Tryz.ntmps49
    go_wp2
    go_ret
    exact ⟨z13_, z10_⟩
  · rw [if_neg c4] at H
    have c4b0 : decide (a1 ≤ a0) = false := decide_eq_false c4
    clear c4
    obtain rfl := Option.some.inj H
    go_enter Tryz.func49, Tryz.ntmps49
    go_wp2
    go_ret
    exact ⟨z13_, z10_⟩

/-! ### impl_isTime: function 48 -/
def impl_isTime.f (a0 : Int) : Option (Bool) := (impl_within.f a0 0 3786479999).bind fun t220 => (some t220)
set_option maxHeartbeats 8000000 in
set_option maxRecDepth 100000 in
theorem impl_isTime.calls (a0 : Int) (r : Bool) (w : World) (h : impl_isTime.f a0 = some r) :
    Calls Tryz.prog 48 #[.int .i64 a0] w fun e w' => e = .returned (.bool r) ∧ Drawn0 w w' := by
  have H : ((impl_within.f a0 0 3786479999).bind fun t220 => (some t220)) = some r := h
  clear h
  replace H := Option.bind_eq_some_iff.mp H
  obtain ⟨t220, A20, H⟩ := H
  replace H : (some t220) = some r := H
  have A2 := Aside0.mk A20
  clear A20
  obtain rfl := Option.some.inj H
  go_enter Tryz.func48, Tryz.ntmps48
  go_wp2_with (first | ((with_reducible refine gate_callee (f := 49) rfl ?_); refine goesL_ (some 4) rfl rfl Tryz.func49 (by kernel_rfl) rfl #[.int .i64 a0, .int .i64 0, .int .i64 3786479999] rfl (z4_) ?_; (with_reducible refine (impl_within.calls a0 0 3786479999 t220 _ A2.out).mono ?_); rintro e w' ⟨rfl, ⟨nd, rfl⟩⟩; refine ⟨_, rfl, ?_⟩))
  go_ret
  exact ⟨z13_, z10_⟩

end Go.Proofs.YtdggcfpimjdckaaGreatDoor.PFnExactRunSession
