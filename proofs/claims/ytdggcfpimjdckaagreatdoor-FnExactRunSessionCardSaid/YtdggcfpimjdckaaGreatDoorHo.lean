/- The states of the session: ErrorAt, LevelAt, SeenAgain of both sides for a state in its ranges; the ranges are the premise VS. -/
import Derived.Test.YtdggcfpimjdckaaGreatDoorPFnExactRunSessionx1
import Derived.Test.YtdggcfpimjdckaaGreatDoorPFnExactRunSessionx6
import Derived.IntWalk
namespace Go.Proofs.YtdggcfpimjdckaaGreatDoor.PFnExactRunSession
open Go.RowKit Go.Proofs.YtdggcfpimjdckaaGreatDoorW.PrintWords Go.Proofs.YtdggcfpimjdckaaGreatDoorW.PrintLast Go.Proofs.YtdggcfpimjdckaaGreatDoorW.PrintMore
attribute [local go_sem] max2_int min2_int max_two min_two max_three min_three max_four min_four   -- for this text's walks alone
set_option linter.unusedVariables false
set_option linter.unusedSimpArgs false
/-- A state of the session's own: in its ranges, seen at sn, asked at t. -/
structure VS (e wa sn t : Int) : Prop where
  e0 : 0 ≤ e
  e1 : e ≤ 1000000
  w0 : 0 ≤ wa
  w1 : wa ≤ 1000
  s0 : 0 ≤ sn
  s1 : sn ≤ t
  t1 : t ≤ 3786479999
/-- The greatest error at t. -/
def errV (e wa sn t : Int) : Int := if 1000000 < e + wa * (t - sn) then 1000000 else e + wa * (t - sn)
/-- How good it is at t. -/
def levV (e wa sn t : Int) : Int := if t ≤ sn + 60 ∧ errV e wa sn t ≤ 1000 then 2 else if errV e wa sn t ≤ 100000 then 1 else 0
/-- The error once it is seen again. -/
def seenV (n : Int) : Int := if n < 100 then n else 100
theorem mulV {e wa sn t : Int} (h : VS e wa sn t) : 0 ≤ wa * (t - sn) ∧ wa * (t - sn) ≤ 1000 * 3786479999 := by
  obtain ⟨_, _, h1, h2, h3, h4, h5⟩ := h
  exact ⟨Int.mul_nonneg h1 (by omega), Int.le_trans (Int.mul_le_mul_of_nonneg_right h2 (by omega)) (by omega)⟩
theorem errV_range {e wa sn t : Int} (h : VS e wa sn t) : 0 ≤ errV e wa sn t ∧ errV e wa sn t ≤ 1000000 := by
  have := mulV h
  have := h.e0
  unfold errV
  split <;> omega
theorem cells3 {w W : World} {a b c : Value} {t : TypeId} (hb : Below (w.alloc (.cells #[a, b, c] t)).heap.size (w.alloc (.cells #[a, b, c] t)) W) : W.cell? ⟨w.heap.size, 0, none⟩ = some a ∧ W.cell? ⟨w.heap.size, 1, none⟩ = some b ∧ W.cell? ⟨w.heap.size, 2, none⟩ = some c :=
  have B := blk_below (heap_alloc_new w (.cells #[a, b, c] t)) hb
  ⟨(blk_cell B 0).trans rfl, (blk_cell B 1).trans rfl, (blk_cell B 2).trans rfl⟩
theorem cells33 {w W : World} {a b c x y z : Value} {t u : TypeId} (hb : Below ((w.alloc (.cells #[a, b, c] t)).alloc (.cells #[x, y, z] u)).heap.size ((w.alloc (.cells #[a, b, c] t)).alloc (.cells #[x, y, z] u)) W) : W.cell? ⟨w.heap.size, 0, none⟩ = some a ∧ W.cell? ⟨w.heap.size, 1, none⟩ = some b ∧ W.cell? ⟨w.heap.size, 2, none⟩ = some c ∧ W.heap[w.heap.size + 1]? = some (.cells #[x, y, z] u (0, 0)) :=
  have B := blk_below (blk_alloc (heap_alloc_new w (.cells #[a, b, c] t)) _) hb
  have C := blk_below (heap_alloc_new (w.alloc (.cells #[a, b, c] t)) (.cells #[x, y, z] u)) hb
  ⟨(blk_cell B 0).trans rfl, (blk_cell B 1).trans rfl, (blk_cell B 2).trans rfl, by simpa using C⟩
theorem impl_in (a lo hi : Int) (h : lo ≤ a ∧ a ≤ hi) (w : World) : Calls Tryz.prog 49 #[.int .i64 a, .int .i64 lo, .int .i64 hi] w fun e w'' => e = .returned (.bool true) ∧ ∃ m, w'' = w.drewN m :=
  (impl_within.calls a lo hi true _ (by unfold impl_within.f; rw [if_pos h.1, decide_eq_true h.2])).mono fun _ _ ⟨e, ⟨m, e2⟩⟩ => ⟨e, m, e2⟩
theorem impl_time (a : Int) (h : 0 ≤ a ∧ a ≤ 3786479999) (w : World) : Calls Tryz.prog 48 #[.int .i64 a] w fun e w'' => e = .returned (.bool true) ∧ ∃ m, w'' = w.drewN m :=
  (impl_isTime.calls a true _ (by unfold impl_isTime.f impl_within.f; rw [if_pos h.1, decide_eq_true h.2]; rfl)).mono fun _ _ ⟨e, ⟨m, e2⟩⟩ => ⟨e, m, e2⟩
theorem impl_VS (e wa sn t : Int) (h : VS e wa sn t) (w : World) :
    Calls Tryz.prog 77 #[.agg #[.int .i64 e, .int .i64 wa, .int .i64 sn]] w fun x w' => x = .returned (.bool true) ∧ Below w.heap.size w w' := by
  have hu := Tryz.underlying30
  have H := Aside0.mk h
  go_enter Tryz.func77, Tryz.ntmps77
  go_wp2_with (first | (go_at_call 49; (with_reducible refine (impl_in e 0 1000000 ⟨H.out.e0, H.out.e1⟩ _).mono ?_); rintro _ _ ⟨rfl, nd, rfl⟩) | (go_at_call 49; (with_reducible refine (impl_in wa 0 1000 ⟨H.out.w0, H.out.w1⟩ _).mono ?_); rintro _ _ ⟨rfl, nd, rfl⟩) | (go_at_call 48; (with_reducible refine (impl_time sn ⟨H.out.s0, Int.le_trans H.out.s1 H.out.t1⟩ _).mono ?_); rintro _ _ ⟨rfl, nd, rfl⟩))
  go_ret
  exact ⟨rfl, (by repeat (first | (with_reducible first | exact Below.refl _ _ | assumption | apply below_alloc | apply pw_below_drewN | apply below_drew1) | (refine below_step ?_ (by assumption))))⟩
set_option maxRecDepth 100000 in
theorem impl_EA (e wa sn t : Int) (h : VS e wa sn t) (w : World) :
    Calls Tryz.prog 46 #[.agg #[.int .i64 e, .int .i64 wa, .int .i64 sn], .int .i64 t] w fun x w' => x = .returned (.int .i64 (errV e wa sn t)) ∧ Below w.heap.size w w' := by
  have H := Aside0.mk h
  have h1 : IntKind.i64.wrap (t - sn) = t - sn := IntWalk.i64_in _ (by have := h.s0; have := h.s1; have := h.t1; omega)
  have h0 := mulV h
  have h2 : IntKind.i64.wrap (wa * (t - sn)) = wa * (t - sn) := IntWalk.i64_in _ (by omega)
  have h3 : IntKind.i64.wrap (e + wa * (t - sn)) = e + wa * (t - sn) := IntWalk.i64_in _ (by have := h.e0; have := h.e1; omega)
  clear h0
  unfold errV
  by_cases hm : 1000000 < e + wa * (t - sn)
  all_goals
    first | rw [if_pos hm] | rw [if_neg hm]
    have hu := Tryz.underlying30
    go_enter Tryz.func46, Tryz.ntmps46
    go_wp2_with (first | (go_at_call 77; (with_reducible refine (impl_VS e wa sn t H.out _).mono ?_); rintro _ _ ⟨rfl, hb⟩; obtain ⟨q0, q1, q2⟩ := cells3 hb) | (go_at_call 49; (with_reducible refine (impl_in t sn 3786479999 ⟨H.out.s1, H.out.t1⟩ _).mono ?_); rintro _ _ ⟨rfl, nd, rfl⟩))
    go_ret
    exact ⟨rfl, (by repeat (first | (with_reducible first | exact Below.refl _ _ | assumption | apply below_alloc | apply pw_below_drewN | apply below_drew1) | (refine below_step ?_ (by assumption))))⟩
set_option maxRecDepth 100000 in
theorem impl_LA (e wa sn t : Int) (h : VS e wa sn t) (w : World) :
    Calls Tryz.prog 27 #[.agg #[.int .i64 e, .int .i64 wa, .int .i64 sn], .int .i64 t] w fun x w' => x = .returned (.int .i64 (levV e wa sn t)) ∧ Below w.heap.size w w' := by
  have H := Aside0.mk h
  have hr := errV_range h
  have hp : IntKind.i64.wrap (sn + 60) = sn + 60 := IntWalk.i64_in _ (by have := h.s0; have := h.s1; have := h.t1; omega)
  have hq : IntKind.i64.wrap (t - sn) = t - sn := IntWalk.i64_in _ (by have := h.s0; have := h.s1; have := h.t1; omega)
  have HE := Aside0.mk (impl_EA e wa sn t h)
  clear h
  unfold levV
  generalize errV e wa sn t = n at *
  have b0 : decide (n < 0) = false := decide_eq_false (by omega)
  by_cases c1 : t ≤ sn + 60 <;> by_cases c2 : n ≤ 1000 <;> by_cases c3 : n ≤ 100000
  all_goals try (exfalso; omega; done)
  all_goals
    first | rw [if_pos (by omega)] | rw [if_neg (by omega), if_pos (by omega)] | rw [if_neg (by omega), if_neg (by omega)]
    try have d1 : decide (t ≤ sn + 60) = true := decide_eq_true c1
    try have d1 : decide (t ≤ sn + 60) = false := decide_eq_false c1
    try have d2 : decide (n ≤ 1000) = true := decide_eq_true c2
    try have d2 : decide (n ≤ 1000) = false := decide_eq_false c2
    try have d3 : decide (n ≤ 100000) = true := decide_eq_true c3
    try have d3 : decide (n ≤ 100000) = false := decide_eq_false c3
    clear c1 c2 c3 hr
    have hu := Tryz.underlying30
    go_enter Tryz.func27, Tryz.ntmps27
    go_wp2_with (go_at_call 46; (with_reducible refine (HE.out _).mono ?_); rintro _ _ ⟨rfl, hb⟩; obtain ⟨q0, q1, q2⟩ := cells3 hb)
    go_ret
    exact ⟨rfl, (by repeat (first | (with_reducible first | exact Below.refl _ _ | assumption | apply below_alloc | apply pw_below_drewN | apply below_drew1) | (refine below_step ?_ (by assumption))))⟩
set_option maxRecDepth 100000 in
theorem impl_SA (e wa sn t : Int) (h : VS e wa sn t) (w : World) :
    Calls Tryz.prog 42 #[.agg #[.int .i64 e, .int .i64 wa, .int .i64 sn], .int .i64 t, .int .i64 100] w fun x w' => x = .returned (.tuple #[.agg #[.int .i64 (seenV (errV e wa sn t)), .int .i64 wa, .int .i64 t], .bool true]) ∧ Below w.heap.size w w' := by
  have hr := errV_range h
  have HE := Aside0.mk (impl_EA e wa sn t h)
  clear h
  generalize errV e wa sn t = n at *
  have b0 : decide (n < 0) = false := decide_eq_false (by omega)
  obtain ⟨x, hx⟩ : ∃ x, seenV n = x := ⟨_, rfl⟩
  rw [hx]
  unfold seenV at hx
  by_cases hm : n < 100
  · obtain rfl : n = x := by split at hx <;> omega
    clear hx hr
    have hu := Tryz.underlying30
    go_enter Tryz.func42, Tryz.ntmps42
    go_wp2_with (first | (go_at_call 46; (with_reducible refine (HE.out _).mono ?_); rintro _ _ ⟨rfl, hb⟩; obtain ⟨q0, q1, q2, f0⟩ := cells33 hb; have g0 := (blk_cell f0 0).trans rfl; have g1 := (blk_cell f0 1).trans rfl; have g2 := (blk_cell f0 2).trans rfl; have j0 := blk_frozen f0 0; have j1 := blk_frozen f0 1; have j2 := blk_frozen f0 2; have FB := Aside0.mk f0; clear f0) | (go_at_call 49; (with_reducible refine (impl_in 100 0 1000000 (by decide) _).mono ?_); rintro _ _ ⟨rfl, nd, rfl⟩))
    refine bodyPost_ret (results_ct rfl _ _ (w.heap.size + 1) 30 #[.int .i64 n, .int .i64 wa, .int .i64 t] (0, 0) _ rfl (by refine blk_put (cs := #[.int .i64 n, .int .i64 wa, .int .i64 0]) ?_ 2 _ rfl; refine blk_put (cs := #[.int .i64 n, .int .i64 0, .int .i64 0]) ?_ 1 _ rfl; refine blk_put (cs := #[.int .i64 0, .int .i64 0, .int .i64 0]) ?_ 0 _ rfl; exact blk_drewN FB.out _) Tryz.underlying30 rfl (by kernel_rfl)) rfl ?_
    exact ⟨rfl, (by repeat (first | (with_reducible first | exact Below.refl _ _ | assumption | apply below_alloc | apply pw_below_drewN | apply below_drew1 | refine below_set ?_ (Nat.le_succ _)) | (refine below_step ?_ (by assumption))))⟩
  · obtain rfl : x = 100 := by split at hx <;> omega
    clear hx hr
    have hu := Tryz.underlying30
    go_enter Tryz.func42, Tryz.ntmps42
    go_wp2_with (first | (go_at_call 46; (with_reducible refine (HE.out _).mono ?_); rintro _ _ ⟨rfl, hb⟩; obtain ⟨q0, q1, q2, f0⟩ := cells33 hb; have g0 := (blk_cell f0 0).trans rfl; have g1 := (blk_cell f0 1).trans rfl; have g2 := (blk_cell f0 2).trans rfl; have j0 := blk_frozen f0 0; have j1 := blk_frozen f0 1; have j2 := blk_frozen f0 2; have FB := Aside0.mk f0; clear f0) | (go_at_call 49; (with_reducible refine (impl_in 100 0 1000000 (by decide) _).mono ?_); rintro _ _ ⟨rfl, nd, rfl⟩))
    refine bodyPost_ret (results_ct rfl _ _ (w.heap.size + 1) 30 #[.int .i64 100, .int .i64 wa, .int .i64 t] (0, 0) _ rfl (by refine blk_put (cs := #[.int .i64 100, .int .i64 wa, .int .i64 0]) ?_ 2 _ rfl; refine blk_put (cs := #[.int .i64 100, .int .i64 0, .int .i64 0]) ?_ 1 _ rfl; refine blk_put (cs := #[.int .i64 0, .int .i64 0, .int .i64 0]) ?_ 0 _ rfl; exact blk_drewN FB.out _) Tryz.underlying30 rfl (by kernel_rfl)) rfl ?_
    exact ⟨rfl, (by repeat (first | (with_reducible first | exact Below.refl _ _ | assumption | apply below_alloc | apply pw_below_drewN | apply below_drew1 | refine below_set ?_ (Nat.le_succ _)) | (refine below_step ?_ (by assumption))))⟩
theorem spec_in (a lo hi : Int) (h : lo ≤ a ∧ a ≤ hi) (w : World) : Calls Tryz.prog 37 #[.int .i64 a, .int .i64 lo, .int .i64 hi] w fun e w'' => e = .returned (.bool true) ∧ ∃ m, w'' = w.drewN m :=
  (spec_inRange.calls a lo hi true _ (by unfold spec_inRange.f; rw [if_pos h.1, decide_eq_true h.2])).mono fun _ _ ⟨e, ⟨m, e2⟩⟩ => ⟨e, m, e2⟩
theorem spec_VS (e wa sn t : Int) (h : VS e wa sn t) (w : World) :
    Calls Tryz.prog 58 #[.agg #[.int .i64 e, .int .i64 wa, .int .i64 sn]] w fun x w' => x = .returned (.bool true) ∧ Below w.heap.size w w' := by
  have hu := Tryz.underlying30
  have H := Aside0.mk h
  go_enter Tryz.func58, Tryz.ntmps58
  go_wp2_with (first | (go_at_call 37; (with_reducible refine (spec_in e 0 1000000 ⟨H.out.e0, H.out.e1⟩ _).mono ?_); rintro _ _ ⟨rfl, nd, rfl⟩) | (go_at_call 37; (with_reducible refine (spec_in wa 0 1000 ⟨H.out.w0, H.out.w1⟩ _).mono ?_); rintro _ _ ⟨rfl, nd, rfl⟩) | (go_at_call 37; (with_reducible refine (spec_in sn 0 3786479999 ⟨H.out.s0, Int.le_trans H.out.s1 H.out.t1⟩ _).mono ?_); rintro _ _ ⟨rfl, nd, rfl⟩))
  go_ret
  exact ⟨rfl, (by repeat (first | (with_reducible first | exact Below.refl _ _ | assumption | apply below_alloc | apply pw_below_drewN | apply below_drew1) | (refine below_step ?_ (by assumption))))⟩
set_option maxRecDepth 100000 in
theorem spec_ea (e wa sn t : Int) (h : VS e wa sn t) (w : World) :
    Calls Tryz.prog 59 #[.agg #[.int .i64 e, .int .i64 wa, .int .i64 sn], .int .i64 t] w fun x w' => x = .returned (.int .i64 (errV e wa sn t)) ∧ Below w.heap.size w w' := by
  have h1 : IntKind.i64.wrap (t - sn) = t - sn := IntWalk.i64_in _ (by have := h.s0; have := h.s1; have := h.t1; omega)
  have h0 := mulV h
  have h2 : IntKind.i64.wrap (wa * (t - sn)) = wa * (t - sn) := IntWalk.i64_in _ (by omega)
  have h3 : IntKind.i64.wrap (e + wa * (t - sn)) = e + wa * (t - sn) := IntWalk.i64_in _ (by have := h.e0; have := h.e1; omega)
  clear h0
  by_cases hm : e + wa * (t - sn) < 1000000
  · rw [show errV e wa sn t = e + wa * (t - sn) by unfold errV; rw [if_neg (by omega)]]
    have hu := Tryz.underlying30
    go_enter Tryz.func59, Tryz.ntmps59
    go_wp2
    go_ret
    exact ⟨rfl, (by repeat (first | (with_reducible first | exact Below.refl _ _ | assumption | apply below_alloc | apply pw_below_drewN | apply below_drew1) | (refine below_step ?_ (by assumption))))⟩
  · rw [show errV e wa sn t = 1000000 by unfold errV; split <;> omega]
    have hu := Tryz.underlying30
    go_enter Tryz.func59, Tryz.ntmps59
    go_wp2
    go_ret
    exact ⟨rfl, (by repeat (first | (with_reducible first | exact Below.refl _ _ | assumption | apply below_alloc | apply pw_below_drewN | apply below_drew1) | (refine below_step ?_ (by assumption))))⟩
set_option maxRecDepth 100000 in
theorem spec_EA (e wa sn t : Int) (h : VS e wa sn t) (w : World) :
    Calls Tryz.prog 36 #[.agg #[.int .i64 e, .int .i64 wa, .int .i64 sn], .int .i64 t] w fun x w' => x = .returned (.int .i64 (errV e wa sn t)) ∧ Below w.heap.size w w' := by
  have H := Aside0.mk h
  all_goals
    have hu := Tryz.underlying30
    go_enter Tryz.func36, Tryz.ntmps36
    go_wp2_with (first | (go_at_call 58; (with_reducible refine (spec_VS e wa sn t H.out _).mono ?_); rintro _ _ ⟨rfl, hb⟩; obtain ⟨q0, q1, q2⟩ := cells3 hb) | (go_at_call 37; (with_reducible refine (spec_in t sn 3786479999 ⟨H.out.s1, H.out.t1⟩ _).mono ?_); rintro _ _ ⟨rfl, nd, rfl⟩) | (go_at_call 59; (with_reducible refine (spec_ea e wa sn t H.out _).mono ?_); rintro _ _ ⟨rfl, hb2⟩))
    go_ret
    exact ⟨rfl, (by repeat (first | (with_reducible first | exact Below.refl _ _ | assumption | apply below_alloc | apply pw_below_drewN | apply below_drew1) | (refine below_step ?_ (by assumption))))⟩
set_option maxRecDepth 100000 in
theorem spec_LA (e wa sn t : Int) (h : VS e wa sn t) (w : World) :
    Calls Tryz.prog 17 #[.agg #[.int .i64 e, .int .i64 wa, .int .i64 sn], .int .i64 t] w fun x w' => x = .returned (.int .i64 (levV e wa sn t)) ∧ Below w.heap.size w w' := by
  have H := Aside0.mk h
  have hr := errV_range h
  have hp : IntKind.i64.wrap (sn + 60) = sn + 60 := IntWalk.i64_in _ (by have := h.s0; have := h.s1; have := h.t1; omega)
  have hq : IntKind.i64.wrap (t - sn) = t - sn := IntWalk.i64_in _ (by have := h.s0; have := h.s1; have := h.t1; omega)
  have HE := Aside0.mk (spec_EA e wa sn t h)
  clear h
  unfold levV
  generalize errV e wa sn t = n at *
  have b0 : decide (n < 0) = false := decide_eq_false (by omega)
  by_cases c1 : t - sn ≤ 60 <;> by_cases c2 : n ≤ 1000 <;> by_cases c3 : n ≤ 100000
  all_goals try (exfalso; omega; done)
  all_goals
    first | rw [if_pos (by omega)] | rw [if_neg (by omega), if_pos (by omega)] | rw [if_neg (by omega), if_neg (by omega)]
    try have d1 : decide (t - sn ≤ 60) = true := decide_eq_true c1
    try have d1 : decide (t - sn ≤ 60) = false := decide_eq_false c1
    try have d2 : decide (n ≤ 1000) = true := decide_eq_true c2
    try have d2 : decide (n ≤ 1000) = false := decide_eq_false c2
    try have d3 : decide (n ≤ 100000) = true := decide_eq_true c3
    try have d3 : decide (n ≤ 100000) = false := decide_eq_false c3
    clear c1 c2 c3 hr
    have hu := Tryz.underlying30
    go_enter Tryz.func17, Tryz.ntmps17
    go_wp2_with (go_at_call 36; (with_reducible refine (HE.out _).mono ?_); rintro _ _ ⟨rfl, hb⟩; obtain ⟨q0, q1, q2⟩ := cells3 hb)
    go_ret
    exact ⟨rfl, (by repeat (first | (with_reducible first | exact Below.refl _ _ | assumption | apply below_alloc | apply pw_below_drewN | apply below_drew1) | (refine below_step ?_ (by assumption))))⟩
set_option maxRecDepth 100000 in
theorem spec_SA (e wa sn t : Int) (h : VS e wa sn t) (w : World) :
    Calls Tryz.prog 32 #[.agg #[.int .i64 e, .int .i64 wa, .int .i64 sn], .int .i64 t, .int .i64 100] w fun x w' => x = .returned (.tuple #[.agg #[.int .i64 (seenV (errV e wa sn t)), .int .i64 wa, .int .i64 t], .bool true]) ∧ Below w.heap.size w w' := by
  have hr := errV_range h
  have HE := Aside0.mk (spec_EA e wa sn t h)
  clear h
  generalize errV e wa sn t = n at *
  have b0 : decide (n < 0) = false := decide_eq_false (by omega)
  obtain ⟨x, hx⟩ : ∃ x, seenV n = x := ⟨_, rfl⟩
  rw [hx]
  unfold seenV at hx
  by_cases hm : 100 < n
  · obtain rfl : x = 100 := by split at hx <;> omega
    clear hx hr
    have hu := Tryz.underlying30
    go_enter Tryz.func32, Tryz.ntmps32
    go_wp2_with (first | (go_at_call 36; (with_reducible refine (HE.out _).mono ?_); rintro _ _ ⟨rfl, hb⟩; obtain ⟨q0, q1, q2, f0⟩ := cells33 hb; have g0 := (blk_cell f0 0).trans rfl; have g1 := (blk_cell f0 1).trans rfl; have g2 := (blk_cell f0 2).trans rfl; have j0 := blk_frozen f0 0; have j1 := blk_frozen f0 1; have j2 := blk_frozen f0 2; have FB := Aside0.mk f0; clear f0) | (go_at_call 37; (with_reducible refine (spec_in 100 0 1000000 (by decide) _).mono ?_); rintro _ _ ⟨rfl, nd, rfl⟩))
    refine bodyPost_ret (results_ct rfl _ _ (w.heap.size + 1) 30 #[.int .i64 100, .int .i64 wa, .int .i64 t] (0, 0) _ rfl (by refine blk_put (cs := #[.int .i64 100, .int .i64 wa, .int .i64 0]) ?_ 2 _ rfl; refine blk_put (cs := #[.int .i64 100, .int .i64 0, .int .i64 0]) ?_ 1 _ rfl; refine blk_put (cs := #[.int .i64 0, .int .i64 0, .int .i64 0]) ?_ 0 _ rfl; exact blk_drewN FB.out _) Tryz.underlying30 rfl (by kernel_rfl)) rfl ?_
    exact ⟨rfl, (by repeat (first | (with_reducible first | exact Below.refl _ _ | assumption | apply below_alloc | apply pw_below_drewN | apply below_drew1 | refine below_set ?_ (Nat.le_succ _)) | (refine below_step ?_ (by assumption))))⟩
  · obtain rfl : n = x := by split at hx <;> omega
    clear hx hr
    have hu := Tryz.underlying30
    go_enter Tryz.func32, Tryz.ntmps32
    go_wp2_with (first | (go_at_call 36; (with_reducible refine (HE.out _).mono ?_); rintro _ _ ⟨rfl, hb⟩; obtain ⟨q0, q1, q2, f0⟩ := cells33 hb; have g0 := (blk_cell f0 0).trans rfl; have g1 := (blk_cell f0 1).trans rfl; have g2 := (blk_cell f0 2).trans rfl; have j0 := blk_frozen f0 0; have j1 := blk_frozen f0 1; have j2 := blk_frozen f0 2; have FB := Aside0.mk f0; clear f0) | (go_at_call 37; (with_reducible refine (spec_in 100 0 1000000 (by decide) _).mono ?_); rintro _ _ ⟨rfl, nd, rfl⟩))
    refine bodyPost_ret (results_ct rfl _ _ (w.heap.size + 1) 30 #[.int .i64 n, .int .i64 wa, .int .i64 t] (0, 0) _ rfl (by refine blk_put (cs := #[.int .i64 n, .int .i64 wa, .int .i64 0]) ?_ 2 _ rfl; refine blk_put (cs := #[.int .i64 n, .int .i64 0, .int .i64 0]) ?_ 1 _ rfl; refine blk_put (cs := #[.int .i64 0, .int .i64 0, .int .i64 0]) ?_ 0 _ rfl; exact blk_drewN FB.out _) Tryz.underlying30 rfl (by kernel_rfl)) rfl ?_
    exact ⟨rfl, (by repeat (first | (with_reducible first | exact Below.refl _ _ | assumption | apply below_alloc | apply pw_below_drewN | apply below_drew1 | refine below_set ?_ (Nat.le_succ _)) | (refine below_step ?_ (by assumption))))⟩
end Go.Proofs.YtdggcfpimjdckaaGreatDoor.PFnExactRunSession
