-- Out of a print of the walks, turned by a program of this session; Lean checks it.
import Derived.Test.YtdggcfpimjdckaaGreatDoorPFnExactRunSessionx0
import Derived.Test.YtdggcfpimjdckaaGreatDoorPFnExactRunSessionx6
import Derived.Test.YtdggcfpimjdckaaGreatDoorPFnExactRunSessionx7
import Derived.Test.YtdggcfpimjdckaaGreatDoorPFnExactRunSessionx8
namespace Go.Proofs.YtdggcfpimjdckaaGreatDoor.PFnExactRunSession
open Go.RowKit Go.Proofs.YtdggcfpimjdckaaGreatDoorW.PrintWords Go.Proofs.YtdggcfpimjdckaaGreatDoorW.PrintLast Go.Proofs.YtdggcfpimjdckaaGreatDoorW.PrintMore
attribute [local go_sem] max2_int min2_int max_two min_two max_three min_three max_four min_four   -- for this text's walks alone
set_option linter.unusedVariables false
set_option linter.unusedSimpArgs false

private theorem z1_ {p : Prop} (h : p := by rw [hg]; exact (below_size (by repeat (first | (with_reducible first | exact HB.out | apply below_alloc | apply pw_below_drewN | apply below_drew1) | exact HB.out)))) : p := h
private theorem z2_ {p : Prop} (h : p := by repeat (first | (with_reducible first | exact HB.out | apply below_alloc | apply pw_below_drewN | apply below_drew1 | refine below_set ?_ GE250.out) | exact HB.out)) : p := h
private theorem z3_ {p : Prop} (h : p := by (try simp only [List.map_toArray, List.map_cons, List.map_nil]); first | done | rfl | (simp only [List.length_drop, List.length_take]; rfl)) : p := h
private theorem z4_ {p : Prop} (h : p := by repeat (first | (with_reducible first | exact HB.out | apply below_alloc | apply pw_below_drewN | apply below_drew1) | exact HB.out)) : p := h
private theorem z5_ {p : Prop} (h : p := by (with_reducible repeat (first | refine blk_drewN ?_ _ | refine blk_drew ?_ | refine blk_alloc ?_ _)); exact BK250.out) : p := h
private theorem z6_ {p : Prop} (h : p := by first | rfl | (simp [errW_none, errW_some] <;> rfl) | (simp [*, errW_none, errW_some] <;> rfl)) : p := h
/-! ### impl_FormatFix: function 64 -/
def impl_FormatFix.j0 : Nat → ByteArray → Int → Int → Int → Int → Int → Option (ByteArray)
  | 0, _, _, _, _, _, _ => none
  | k + 1, x3, x251000, x251001, x251002, x251003, x251004 => if 4 + x3.size ≤ 9223372036854775807 then (if ((⟨#[70, 73, 88, 44]⟩ : ByteArray) ++ x3).size + 1 ≤ 9223372036854775807 then ((impl_twoDigits.f x251002).bind fun t255 => (if (((⟨#[70, 73, 88, 44]⟩ : ByteArray) ++ x3) ++ (⟨#[44]⟩ : ByteArray)).size + t255.size ≤ 9223372036854775807 then (if ((((⟨#[70, 73, 88, 44]⟩ : ByteArray) ++ x3) ++ (⟨#[44]⟩ : ByteArray)) ++ t255).size + 1 ≤ 9223372036854775807 then ((impl_twoDigits.f x251001).bind fun t256 => (if (((((⟨#[70, 73, 88, 44]⟩ : ByteArray) ++ x3) ++ (⟨#[44]⟩ : ByteArray)) ++ t255) ++ (⟨#[44]⟩ : ByteArray)).size + t256.size ≤ 9223372036854775807 then (if ((((((⟨#[70, 73, 88, 44]⟩ : ByteArray) ++ x3) ++ (⟨#[44]⟩ : ByteArray)) ++ t255) ++ (⟨#[44]⟩ : ByteArray)) ++ t256).size + 1 ≤ 9223372036854775807 then ((strconv_Itoa.f x251000).bind fun t257 => (if (((((((⟨#[70, 73, 88, 44]⟩ : ByteArray) ++ x3) ++ (⟨#[44]⟩ : ByteArray)) ++ t255) ++ (⟨#[44]⟩ : ByteArray)) ++ t256) ++ (⟨#[44]⟩ : ByteArray)).size + t257.size ≤ 9223372036854775807 then (if ((((((((⟨#[70, 73, 88, 44]⟩ : ByteArray) ++ x3) ++ (⟨#[44]⟩ : ByteArray)) ++ t255) ++ (⟨#[44]⟩ : ByteArray)) ++ t256) ++ (⟨#[44]⟩ : ByteArray)) ++ t257).size + 1 ≤ 9223372036854775807 then ((strconv_Itoa.f x251004).bind fun t258 => (if (((((((((⟨#[70, 73, 88, 44]⟩ : ByteArray) ++ x3) ++ (⟨#[44]⟩ : ByteArray)) ++ t255) ++ (⟨#[44]⟩ : ByteArray)) ++ t256) ++ (⟨#[44]⟩ : ByteArray)) ++ t257) ++ (⟨#[44]⟩ : ByteArray)).size + t258.size ≤ 9223372036854775807 then ((impl_FrameBody.f k ((((((((((⟨#[70, 73, 88, 44]⟩ : ByteArray) ++ x3) ++ (⟨#[44]⟩ : ByteArray)) ++ t255) ++ (⟨#[44]⟩ : ByteArray)) ++ t256) ++ (⟨#[44]⟩ : ByteArray)) ++ t257) ++ (⟨#[44]⟩ : ByteArray)) ++ t258)).bind fun t259 => (some t259)) else (none))) else (none)) else (none))) else (none)) else (none))) else (none)) else (none))) else (none)) else (none)
def impl_FormatFix.f (k : Nat) (a0_0 : Int) (a0_1 : Int) (a0_2 : Int) (a0_3 : Int) (a0_4 : Int) : Option (ByteArray) := (impl_ValidFix.f k a0_0 a0_1 a0_2 a0_3 a0_4).bind fun t251 => (if t251 = true then (if a0_3 < 86400 then ((impl_twoDigits.f (wrap64 (Int.tdiv a0_3 3600))).bind fun t252 => ((impl_twoDigits.f (Int.tmod (wrap64 (Int.tdiv a0_3 60)) 60)).bind fun t253 => (if t252.size + t253.size ≤ 9223372036854775807 then ((impl_twoDigits.f (Int.tmod a0_3 60)).bind fun t254 => (if (t252 ++ t253).size + t254.size ≤ 9223372036854775807 then (impl_FormatFix.j0 k ((t252 ++ t253) ++ t254) a0_0 a0_1 a0_2 a0_3 a0_4) else (none))) else (none)))) else (impl_FormatFix.j0 k (⟨#[50, 51, 53, 57, 54, 48]⟩ : ByteArray) a0_0 a0_1 a0_2 a0_3 a0_4)) else (some (⟨#[]⟩ : ByteArray)))
theorem impl_FormatFix.mono_l : ∀ k, (∀ y0 y1 y2 y3 y4 y5, LeO (impl_FormatFix.j0 k y0 y1 y2 y3 y4 y5) (impl_FormatFix.j0 (k + 1) y0 y1 y2 y3 y4 y5))
  | 0 => fun _ _ _ _ _ _ r h => by simp [impl_FormatFix.j0] at h
  | k + 1 => by
    have ih0 := impl_FormatFix.mono_l k
    · intro y0 y1 y2 y3 y4 y5
      unfold impl_FormatFix.j0
      repeat' first
      | (with_reducible exact ih0 _ _ _ _ _ _)
      | (with_reducible exact impl_FrameBody.mono _ _)
      | (with_reducible exact impl_ValidFix.mono _ _ _ _ _ _)
      | (with_reducible exact LeO.refl _)
      | (with_reducible exact LeO.none _)
      | (with_reducible refine LeO.ite ?_ ?_)
      | (with_reducible refine LeO.bind ?_ (fun _ => ?_))
      | exact ih0 _ _ _ _ _ _
      | exact impl_FrameBody.mono _ _
      | exact impl_ValidFix.mono _ _ _ _ _ _
      | exact LeO.none _
      | refine LeO.ite ?_ ?_
      | refine LeO.bind ?_ (fun _ => ?_)
theorem impl_FormatFix.mono : ∀ a0 a1 a2 a3 a4 k, LeO (impl_FormatFix.f k a0 a1 a2 a3 a4) (impl_FormatFix.f (k + 1) a0 a1 a2 a3 a4) := by
  intro a0 a1 a2 a3 a4 k
  have ih0 := impl_FormatFix.mono_l k
  unfold impl_FormatFix.f
  repeat' first
      | (with_reducible exact ih0 _ _ _ _ _ _)
      | (with_reducible exact impl_FrameBody.mono _ _)
      | (with_reducible exact impl_ValidFix.mono _ _ _ _ _ _)
      | (with_reducible exact LeO.refl _)
      | (with_reducible exact LeO.none _)
      | (with_reducible refine LeO.ite ?_ ?_)
      | (with_reducible refine LeO.bind ?_ (fun _ => ?_))
      | exact ih0 _ _ _ _ _ _
      | exact impl_FrameBody.mono _ _
      | exact impl_ValidFix.mono _ _ _ _ _ _
      | exact LeO.none _
      | refine LeO.ite ?_ ?_
      | refine LeO.bind ?_ (fun _ => ?_)
def impl_FormatFix.T5 : Bool × List (List Nat × List Nat) := (true, [([], []), ([0], [0]), ([1], [1]), ([2], [2]), ([], []), ([4], [4]), ([5], [5]), ([6], [6]), ([7, 3], [7]), ([3, 8], [3, 8]), ([], []), ([10], [10]), ([11], [11]), ([12, 8], [12]), ([9, 13], [9, 13]), ([14, 13, 0, 1, 2, 3, 4, 5, 6, 7, 8, 9, 10, 11, 12, 13, 14], [14])])
def impl_FormatFix.B5 : List Nat := [0, 1, 3, 7, 0, 16, 48, 112, 255, 511, 0, 1024, 3072, 7679, 16383, 32767]
theorem impl_FormatFix.tab5 : rtab .any (opsOf Tryz.f64 5) = impl_FormatFix.T5 := by kernel_rfl
theorem impl_FormatFix.bits5 : waitsOk impl_FormatFix.T5.2 impl_FormatFix.B5 = true := by kernel_rfl
def impl_FormatFix.T6 : Bool × List (List Nat × List Nat) := (true, [([], []), ([0], [0]), ([1], [1]), ([], []), ([3], [3]), ([4], [4]), ([5], [5]), ([2, 6], [2, 6]), ([7], [7]), ([], []), ([9], [9]), ([10], [10]), ([11, 6], [11]), ([8, 12], [8, 12]), ([13], [13]), ([], []), ([15], [15]), ([16], [16]), ([17, 12], [17]), ([14, 18], [14, 18]), ([19], [19]), ([], []), ([21], [21]), ([22, 18], [22]), ([20, 23], [20, 23]), ([24, 23], [24]), ([25, 25, 0, 1, 2, 3, 4, 5, 6, 7, 8, 9, 10, 11, 12, 13, 14, 15, 16, 17, 18, 19, 20, 21, 22, 23, 24, 25], [25])])
def impl_FormatFix.B6 : List Nat := [0, 1, 3, 0, 8, 24, 56, 127, 255, 0, 512, 1536, 3704, 8191, 16383, 0, 32768, 98304, 237176, 524287, 1048575, 0, 2097152, 6790776, 16777215, 33554431, 67108863]
theorem impl_FormatFix.tab6 : rtab .any (opsOf Tryz.f64 6) = impl_FormatFix.T6 := by kernel_rfl
theorem impl_FormatFix.bits6 : waitsOk impl_FormatFix.T6.2 impl_FormatFix.B6 = true := by kernel_rfl
set_option maxHeartbeats 8000000 in
set_option maxRecDepth 100000 in
theorem impl_FormatFix.calls (k : Nat) (a0_0 : Int) (a0_1 : Int) (a0_2 : Int) (a0_3 : Int) (a0_4 : Int) (r : ByteArray) (w : World) (htb_ : Tc w) (h : impl_FormatFix.f k a0_0 a0_1 a0_2 a0_3 a0_4 = some r) :
    Calls Tryz.prog 64 #[.agg #[.int .i64 a0_0, .int .i64 a0_1, .int .i64 a0_2, .int .i64 a0_3, .int .i64 a0_4]] w fun e w' => e = .returned (.string r) ∧ Below w.heap.size w w' := by
  have hu44 := Tryz.underlying44
  have HB := Aside0.mk (Below.refl w.heap.size w)
  have HTB := Aside0.mk htb_
  clear htb_
  have H : ((impl_ValidFix.f k a0_0 a0_1 a0_2 a0_3 a0_4).bind fun t251 => (if t251 = true then (if a0_3 < 86400 then ((impl_twoDigits.f (wrap64 (Int.tdiv a0_3 3600))).bind fun t252 => ((impl_twoDigits.f (Int.tmod (wrap64 (Int.tdiv a0_3 60)) 60)).bind fun t253 => (if t252.size + t253.size ≤ 9223372036854775807 then ((impl_twoDigits.f (Int.tmod a0_3 60)).bind fun t254 => (if (t252 ++ t253).size + t254.size ≤ 9223372036854775807 then (impl_FormatFix.j0 k ((t252 ++ t253) ++ t254) a0_0 a0_1 a0_2 a0_3 a0_4) else (none))) else (none)))) else (impl_FormatFix.j0 k (⟨#[50, 51, 53, 57, 54, 48]⟩ : ByteArray) a0_0 a0_1 a0_2 a0_3 a0_4)) else (some (⟨#[]⟩ : ByteArray)))) = some r := h
  clear h
  replace H := Option.bind_eq_some_iff.mp H
  obtain ⟨t251, A20, H⟩ := H
  replace H : (if t251 = true then (if a0_3 < 86400 then ((impl_twoDigits.f (wrap64 (Int.tdiv a0_3 3600))).bind fun t252 => ((impl_twoDigits.f (Int.tmod (wrap64 (Int.tdiv a0_3 60)) 60)).bind fun t253 => (if t252.size + t253.size ≤ 9223372036854775807 then ((impl_twoDigits.f (Int.tmod a0_3 60)).bind fun t254 => (if (t252 ++ t253).size + t254.size ≤ 9223372036854775807 then (impl_FormatFix.j0 k ((t252 ++ t253) ++ t254) a0_0 a0_1 a0_2 a0_3 a0_4) else (none))) else (none)))) else (impl_FormatFix.j0 k (⟨#[50, 51, 53, 57, 54, 48]⟩ : ByteArray) a0_0 a0_1 a0_2 a0_3 a0_4)) else (some (⟨#[]⟩ : ByteArray))) = some r := H
  have A2 := Aside0.mk A20
  clear A20
  by_cases c3 : t251 = true
  · subst c3
    have H1 : (if a0_3 < 86400 then ((impl_twoDigits.f (wrap64 (Int.tdiv a0_3 3600))).bind fun t252 => ((impl_twoDigits.f (Int.tmod (wrap64 (Int.tdiv a0_3 60)) 60)).bind fun t253 => (if t252.size + t253.size ≤ 9223372036854775807 then ((impl_twoDigits.f (Int.tmod a0_3 60)).bind fun t254 => (if (t252 ++ t253).size + t254.size ≤ 9223372036854775807 then (impl_FormatFix.j0 k ((t252 ++ t253) ++ t254) a0_0 a0_1 a0_2 a0_3 a0_4) else (none))) else (none)))) else (impl_FormatFix.j0 k (⟨#[50, 51, 53, 57, 54, 48]⟩ : ByteArray) a0_0 a0_1 a0_2 a0_3 a0_4)) = some r := by rw [if_pos rfl] at H; exact H
    clear H
    have H := H1
    clear H1
    have HC4 := Aside0.mk H
    clear H
    go_enter Tryz.func64, Tryz.ntmps64
    go_upto_if 9 with (first | ((with_reducible refine gate_dst (N := 1) rfl ?_); refine box_event ?hg (N := 1) ?hd (cs := #[.int .i64 a0_0, .int .i64 a0_1, .int .i64 a0_2, .int .i64 a0_3, .int .i64 a0_4]) (t := 44) ?hr ?_; (case hd => rfl); (case hg => rfl); (case hr => first | (go_simp; done) | (go_simp; rfl)); intro gb250 hg w5 hbox hb; have n0_ := Aside0.mk (below_step (z4_) hb); have n1_ := Aside0.mk (hbox); have n2_ := Aside0.mk ((z1_ : w.heap.size ≤ gb250)); have n3_ := Aside0.mk ((z1_ : w.heap.size ≤ gb250)); clear HB; have HB := n0_; have BK250 := n1_; have GW250 := n2_; have GE250 := n3_; clear n0_ n1_ n2_ n3_; clear hb hbox hg; have hcz6_0 : w5.cell? ⟨gb250, 0, none⟩ = some (.int .i64 a0_0) := (blk_cell BK250.out 0).trans rfl; have hcz6_1 : w5.cell? ⟨gb250, 1, none⟩ = some (.int .i64 a0_1) := (blk_cell BK250.out 1).trans rfl; have hcz6_2 : w5.cell? ⟨gb250, 2, none⟩ = some (.int .i64 a0_2) := (blk_cell BK250.out 2).trans rfl; have hcz6_3 : w5.cell? ⟨gb250, 3, none⟩ = some (.int .i64 a0_3) := (blk_cell BK250.out 3).trans rfl; have hcz6_4 : w5.cell? ⟨gb250, 4, none⟩ = some (.int .i64 a0_4) := (blk_cell BK250.out 4).trans rfl; have hfz6_0 := blk_frozen BK250.out 0; have hfz6_1 := blk_frozen BK250.out 1; have hfz6_2 := blk_frozen BK250.out 2; have hfz6_3 := blk_frozen BK250.out 3; have hfz6_4 := blk_frozen BK250.out 4) | ((with_reducible refine gate_callee (f := 65) rfl ?_); refine goesL_ (some 5) rfl rfl Tryz.func65 (by kernel_rfl) rfl #[.agg #[.int .i64 a0_0, .int .i64 a0_1, .int .i64 a0_2, .int .i64 a0_3, .int .i64 a0_4]] rfl (z3_) ?_; (with_reducible refine (impl_ValidFix.calls k a0_0 a0_1 a0_2 a0_3 a0_4 true _ A2.out).mono ?_); rintro e w7 ⟨rfl, hb⟩; refine ⟨_, rfl, ?_⟩; have n0_ := Aside0.mk (blk_below (g := gb250) (o := .cells #[.int .i64 a0_0, .int .i64 a0_1, .int .i64 a0_2, .int .i64 a0_3, .int .i64 a0_4] 44 (0, 0)) (z5_) hb); have n1_ := Aside0.mk (below_step (z2_) hb); clear BK250; clear HB; have BK250 := n0_; have HB := n1_; clear n0_ n1_; (try clear hb); (try clear hb2); (try clear hk); (try clear hi); have hcz8_0 : w7.cell? ⟨gb250, 0, none⟩ = some (.int .i64 a0_0) := (blk_cell BK250.out 0).trans rfl; have hcz8_1 : w7.cell? ⟨gb250, 1, none⟩ = some (.int .i64 a0_1) := (blk_cell BK250.out 1).trans rfl; have hcz8_2 : w7.cell? ⟨gb250, 2, none⟩ = some (.int .i64 a0_2) := (blk_cell BK250.out 2).trans rfl; have hcz8_3 : w7.cell? ⟨gb250, 3, none⟩ = some (.int .i64 a0_3) := (blk_cell BK250.out 3).trans rfl; have hcz8_4 : w7.cell? ⟨gb250, 4, none⟩ = some (.int .i64 a0_4) := (blk_cell BK250.out 4).trans rfl; have hfz8_0 := blk_frozen BK250.out 0; have hfz8_1 := blk_frozen BK250.out 1; have hfz8_2 := blk_frozen BK250.out 2; have hfz8_3 := blk_frozen BK250.out 3; have hfz8_4 := blk_frozen BK250.out 4))
    (try simp only [Act.put, List.setIfInBounds_toArray, List.set_cons_zero, List.set_cons_succ])
    go_cut [3] (fun v3 wc => ∃ (kq : Nat) (x3_3 : ByteArray), v3 = .string x3_3 ∧ Aside0 (impl_FormatFix.j0 kq x3_3 a0_0 a0_1 a0_2 a0_3 a0_4 = some r) ∧ Aside0 (kq ≤ k) ∧ Aside0 (wc.heap[gb250]? = some (.cells #[.int .i64 a0_0, .int .i64 a0_1, .int .i64 a0_2, .int .i64 a0_3, .int .i64 a0_4] 44 (0, 0))) ∧ Aside0 (Below w.heap.size w wc))
    case first =>
      have H := HC4.out
      clear HC4
      by_cases c9 : a0_3 < 86400
      · rw [if_pos c9] at H
        have c9b0 : decide (a0_3 < 86400) = true := decide_eq_true c9
        clear c9
        (first | rw [c9b0] | (simp only [i64_w, i32_w]; rw [c9b0]) | skip)
        replace H := Option.bind_eq_some_iff.mp H
        obtain ⟨t252, A100, H⟩ := H
        replace H : ((impl_twoDigits.f (Int.tmod (wrap64 (Int.tdiv a0_3 60)) 60)).bind fun t253 => (if t252.size + t253.size ≤ 9223372036854775807 then ((impl_twoDigits.f (Int.tmod a0_3 60)).bind fun t254 => (if (t252 ++ t253).size + t254.size ≤ 9223372036854775807 then (impl_FormatFix.j0 k ((t252 ++ t253) ++ t254) a0_0 a0_1 a0_2 a0_3 a0_4) else (none))) else (none))) = some r := H
        have A10 := Aside0.mk A100
        clear A100
        replace H := Option.bind_eq_some_iff.mp H
        obtain ⟨t253, A110, H⟩ := H
        replace H : (if t252.size + t253.size ≤ 9223372036854775807 then ((impl_twoDigits.f (Int.tmod a0_3 60)).bind fun t254 => (if (t252 ++ t253).size + t254.size ≤ 9223372036854775807 then (impl_FormatFix.j0 k ((t252 ++ t253) ++ t254) a0_0 a0_1 a0_2 a0_3 a0_4) else (none))) else (none)) = some r := H
        have A11 := Aside0.mk A110
        clear A110
        by_cases c12 : t252.size + t253.size ≤ 9223372036854775807
        · rw [if_pos c12] at H
          have c12b0 := eq_true c12
          have c12b1 : decide (t252.size + t253.size ≤ 9223372036854775807) = true := decide_eq_true c12
          try have c12b2 : (9223372036854775807 < t252.size + t253.size) = False := eq_false (Nat.not_lt.2 c12)
          replace H := Option.bind_eq_some_iff.mp H
          obtain ⟨t254, A130, H⟩ := H
          replace H : (if (t252 ++ t253).size + t254.size ≤ 9223372036854775807 then (impl_FormatFix.j0 k ((t252 ++ t253) ++ t254) a0_0 a0_1 a0_2 a0_3 a0_4) else (none)) = some r := H
          have A13 := Aside0.mk A130
          clear A130
          by_cases c14 : (t252 ++ t253).size + t254.size ≤ 9223372036854775807
          · rw [if_pos c14] at H
            have c14b0 := eq_true c14
            have c14b1 : decide ((t252 ++ t253).size + t254.size ≤ 9223372036854775807) = true := decide_eq_true c14
            try have c14b2 : (9223372036854775807 < (t252 ++ t253).size + t254.size) = False := eq_false (Nat.not_lt.2 c14)
            try have c14b3 := c14b2
            try simp only [ByteArray.size_append, bsz, List.size_toArray, List.length_cons, List.length_nil, Nat.reduceAdd, Nat.zero_add, ByteArray.size_extract] at c14b3
            have H' := Aside0.mk H
            clear H
            try go_wp2
            have n0_ := Aside0.mk (blk_drew BK250.out)
            have n1_ := Aside0.mk (below_drew1 HB.out)
            clear BK250
            clear HB
            have BK250 := n0_
            have HB := n1_
            clear n0_ n1_
            refine start_ (n := 16) (S := fun w' => w'.cell? ⟨gb250, 0, none⟩ = some (.int .i64 a0_0) ∧ w'.cell? ⟨gb250, 1, none⟩ = some (.int .i64 a0_1) ∧ w'.cell? ⟨gb250, 2, none⟩ = some (.int .i64 a0_2) ∧ w'.cell? ⟨gb250, 3, none⟩ = some (.int .i64 a0_3) ∧ w'.cell? ⟨gb250, 4, none⟩ = some (.int .i64 a0_4)) (ds := []) #[false, false, false, false, false, false, false, false, false, false, false, false, false, false, false, false] (by kernel_rfl) rfl rfl ⟨(blk_cell BK250.out 0).trans rfl, (blk_cell BK250.out 1).trans rfl, (blk_cell BK250.out 2).trans rfl, (blk_cell BK250.out 3).trans rfl, (blk_cell BK250.out 4).trans rfl⟩ (fun hHeld => ?_); refine with_tabW impl_FormatFix.tab5 impl_FormatFix.bits5 (fun HT_ HW_ => ?_)
            generalize w7.drew = w15 at BK250 HB hHeld ⊢
            refine pure_ (i := 0) (N := some 10) (v := ?_) (a' := ?_) #[true, false, false, false, false, false, false, false, false, false, false, false, false, false, false, false] rfl rfl (any_of HT_.out (by kernel_rfl)) (fun _ _ _ h => h) (Or.inl ⟨by rfl, ?_⟩) ?_ ?_
            rotate_left
            · intro w'
              go_simp
              with_reducible rfl
            rotate_left
            · simp only [Act.put, List.setIfInBounds_toArray, List.set_cons_zero, List.set_cons_succ, i64_w, i32_w]
              rfl
            refine pure_ (i := 4) (N := some 14) (v := ?_) (a' := ?_) #[true, false, false, false, true, false, false, false, false, false, false, false, false, false, false, false] rfl rfl (any_of HT_.out (by kernel_rfl)) (fun _ _ _ h => h) (Or.inl ⟨by rfl, ?_⟩) ?_ ?_
            rotate_left
            · intro w'
              go_simp
              with_reducible rfl
            rotate_left
            · simp only [Act.put, List.setIfInBounds_toArray, List.set_cons_zero, List.set_cons_succ, i64_w, i32_w]
              rfl
            refine pure_ (i := 10) (N := some 20) (v := ?_) (a' := ?_) #[true, false, false, false, true, false, false, false, false, false, true, false, false, false, false, false] rfl rfl (any_of HT_.out (by kernel_rfl)) (fun _ _ _ h => h) (Or.inl ⟨by rfl, ?_⟩) ?_ ?_
            rotate_left
            · intro w'
              go_simp
              with_reducible rfl
            rotate_left
            · simp only [Act.put, List.setIfInBounds_toArray, List.set_cons_zero, List.set_cons_succ, i64_w, i32_w]
              rfl
            refine take_ (i := 1) (N := some 11) (v := ?_) (a' := ?_) #[true, true, false, false, true, false, false, false, false, false, true, false, false, false, false, false] rfl rfl (take_ofW HT_.out HW_.out (by kernel_rfl)) (fun _ _ _ h => h) (Or.inl ⟨by rfl, ?_⟩) hHeld ?_ ?_
            rotate_left
            · rintro w' ⟨s0, s1, s2, s3, s4⟩
              go_simp
              with_reducible rfl
            rotate_left
            · simp only [Act.put, List.setIfInBounds_toArray, List.set_cons_zero, List.set_cons_succ, i64_w, i32_w]
              rfl
            refine pure_ (i := 2) (N := some 12) (v := ?_) (a' := ?_) #[true, true, true, false, true, false, false, false, false, false, true, false, false, false, false, false] rfl rfl (any_of HT_.out (by kernel_rfl)) (fun _ _ _ h => h) (Or.inl ⟨by rfl, ?_⟩) ?_ ?_
            rotate_left
            · intro w'
              go_simp
              with_reducible rfl
            rotate_left
            · simp only [Act.put, List.setIfInBounds_toArray, List.set_cons_zero, List.set_cons_succ, i64_w, i32_w]
              rfl
            refine take_ (i := 5) (N := some 15) (v := ?_) (a' := ?_) #[true, true, true, false, true, true, false, false, false, false, true, false, false, false, false, false] rfl rfl (take_ofW HT_.out HW_.out (by kernel_rfl)) (fun _ _ _ h => h) (Or.inl ⟨by rfl, ?_⟩) hHeld ?_ ?_
            rotate_left
            · rintro w' ⟨s0, s1, s2, s3, s4⟩
              go_simp
              with_reducible rfl
            rotate_left
            · simp only [Act.put, List.setIfInBounds_toArray, List.set_cons_zero, List.set_cons_succ, i64_w, i32_w]
              rfl
            refine pure_ (i := 6) (N := some 16) (v := ?_) (a' := ?_) #[true, true, true, false, true, true, true, false, false, false, true, false, false, false, false, false] rfl rfl (any_of HT_.out (by kernel_rfl)) (fun _ _ _ h => h) (Or.inl ⟨by rfl, ?_⟩) ?_ ?_
            rotate_left
            · intro w'
              go_simp
              with_reducible rfl
            rotate_left
            · simp only [Act.put, List.setIfInBounds_toArray, List.set_cons_zero, List.set_cons_succ, i64_w, i32_w]
              rfl
            refine pure_ (i := 7) (N := some 17) (v := ?_) (a' := ?_) #[true, true, true, false, true, true, true, true, false, false, true, false, false, false, false, false] rfl rfl (any_of HT_.out (by kernel_rfl)) (fun _ _ _ h => h) (Or.inl ⟨by rfl, ?_⟩) ?_ ?_
            rotate_left
            · intro w'
              go_simp
              with_reducible rfl
            rotate_left
            · simp only [Act.put, List.setIfInBounds_toArray, List.set_cons_zero, List.set_cons_succ, i64_w, i32_w]
              rfl
            refine take_ (i := 11) (N := some 21) (v := ?_) (a' := ?_) #[true, true, true, false, true, true, true, true, false, false, true, true, false, false, false, false] rfl rfl (take_ofW HT_.out HW_.out (by kernel_rfl)) (fun _ _ _ h => h) (Or.inl ⟨by rfl, ?_⟩) hHeld ?_ ?_
            rotate_left
            · rintro w' ⟨s0, s1, s2, s3, s4⟩
              go_simp
              with_reducible rfl
            rotate_left
            · simp only [Act.put, List.setIfInBounds_toArray, List.set_cons_zero, List.set_cons_succ, i64_w, i32_w]
              rfl
            refine pure_ (i := 12) (N := some 22) (v := ?_) (a' := ?_) #[true, true, true, false, true, true, true, true, false, false, true, true, true, false, false, false] rfl rfl (any_of HT_.out (by kernel_rfl)) (fun _ _ _ h => h) (Or.inl ⟨by rfl, ?_⟩) ?_ ?_
            rotate_left
            · intro w'
              go_simp
              with_reducible rfl
            rotate_left
            · simp only [Act.put, List.setIfInBounds_toArray, List.set_cons_zero, List.set_cons_succ, i64_w, i32_w]
              rfl
            refine one_ (i := 3) (N := some 13) #[true, true, true, true, true, true, true, true, false, false, true, true, true, false, false, false] rfl rfl (one_of HT_.out (by kernel_rfl)) (by decide) (fun K hK => ?_)
            refine goes_ Tryz.func29 (by kernel_rfl) rfl #[.int .i64 (wrap64 (Int.tdiv a0_3 3600))] (by rfl) rfl rfl (z3_) ?_
            with_reducible refine (impl_twoDigits.calls (wrap64 (Int.tdiv a0_3 3600)) t252 _ (Tc.keep HTB.out (z2_)) A10.out).mono ?_
            rintro e w16 ⟨rfl, hb⟩
            refine ⟨_, rfl, ?_⟩
            have n0_ := Aside0.mk (blk_below (g := gb250) (o := .cells #[.int .i64 a0_0, .int .i64 a0_1, .int .i64 a0_2, .int .i64 a0_3, .int .i64 a0_4] 44 (0, 0)) (z5_) hb)
            have n1_ := Aside0.mk (below_step (z2_) hb)
            clear BK250
            clear HB
            have BK250 := n0_
            have HB := n1_
            clear n0_ n1_
            (try clear hb)
            (try clear hb2)
            (try clear hk)
            (try clear hi)
            refine hK.out _ _ ⟨(blk_cell BK250.out 0).trans rfl, (blk_cell BK250.out 1).trans rfl, (blk_cell BK250.out 2).trans rfl, (blk_cell BK250.out 3).trans rfl, (blk_cell BK250.out 4).trans rfl⟩ (fun hHeld => ?_)
            clear hK K
            refine norm_ (a' := ?_) ?_ ?_
            rotate_left
            · show Act.put _ (some 13) _ = _
              simp only [Act.put, List.setIfInBounds_toArray, List.set_cons_zero, List.set_cons_succ, i64_w, i32_w]
              rfl
            refine one_ (i := 8) (N := some 18) #[true, true, true, true, true, true, true, true, true, false, true, true, true, false, false, false] rfl rfl (one_of HT_.out (by kernel_rfl)) (by decide) (fun K hK => ?_)
            refine goes_ Tryz.func29 (by kernel_rfl) rfl #[.int .i64 (Int.tmod (wrap64 (Int.tdiv a0_3 60)) 60)] (by rfl) rfl rfl (z3_) ?_
            with_reducible refine (impl_twoDigits.calls (Int.tmod (wrap64 (Int.tdiv a0_3 60)) 60) t253 _ (Tc.keep HTB.out (z2_)) A11.out).mono ?_
            rintro e w17 ⟨rfl, hb⟩
            refine ⟨_, rfl, ?_⟩
            have n0_ := Aside0.mk (blk_below (g := gb250) (o := .cells #[.int .i64 a0_0, .int .i64 a0_1, .int .i64 a0_2, .int .i64 a0_3, .int .i64 a0_4] 44 (0, 0)) (z5_) hb)
            have n1_ := Aside0.mk (below_step (z2_) hb)
            clear BK250
            clear HB
            have BK250 := n0_
            have HB := n1_
            clear n0_ n1_
            (try clear hb)
            (try clear hb2)
            (try clear hk)
            (try clear hi)
            refine hK.out _ _ ⟨(blk_cell BK250.out 0).trans rfl, (blk_cell BK250.out 1).trans rfl, (blk_cell BK250.out 2).trans rfl, (blk_cell BK250.out 3).trans rfl, (blk_cell BK250.out 4).trans rfl⟩ (fun hHeld => ?_)
            clear hK K
            refine norm_ (a' := ?_) ?_ ?_
            rotate_left
            · show Act.put _ (some 18) _ = _
              simp only [Act.put, List.setIfInBounds_toArray, List.set_cons_zero, List.set_cons_succ, i64_w, i32_w]
              rfl
            refine pure_ (i := 9) (N := some 19) (v := ?_) (a' := ?_) #[true, true, true, true, true, true, true, true, true, true, true, true, true, false, false, false] rfl rfl (any_of HT_.out (by kernel_rfl)) (fun _ _ _ h => h) (Or.inl ⟨by rfl, ?_⟩) ?_ ?_
            rotate_left
            · intro w'
              go_simp
              with_reducible rfl
            rotate_left
            · simp only [Act.put, List.setIfInBounds_toArray, List.set_cons_zero, List.set_cons_succ, i64_w, i32_w]
              rfl
            refine one_ (i := 13) (N := some 23) #[true, true, true, true, true, true, true, true, true, true, true, true, true, true, false, false] rfl rfl (one_of HT_.out (by kernel_rfl)) (by decide) (fun K hK => ?_)
            refine goes_ Tryz.func29 (by kernel_rfl) rfl #[.int .i64 (Int.tmod a0_3 60)] (by rfl) rfl rfl (z3_) ?_
            with_reducible refine (impl_twoDigits.calls (Int.tmod a0_3 60) t254 _ (Tc.keep HTB.out (z2_)) A13.out).mono ?_
            rintro e w18 ⟨rfl, hb⟩
            refine ⟨_, rfl, ?_⟩
            have n0_ := Aside0.mk (blk_below (g := gb250) (o := .cells #[.int .i64 a0_0, .int .i64 a0_1, .int .i64 a0_2, .int .i64 a0_3, .int .i64 a0_4] 44 (0, 0)) (z5_) hb)
            have n1_ := Aside0.mk (below_step (z2_) hb)
            clear BK250
            clear HB
            have BK250 := n0_
            have HB := n1_
            clear n0_ n1_
            (try clear hb)
            (try clear hb2)
            (try clear hk)
            (try clear hi)
            refine hK.out _ _ ⟨(blk_cell BK250.out 0).trans rfl, (blk_cell BK250.out 1).trans rfl, (blk_cell BK250.out 2).trans rfl, (blk_cell BK250.out 3).trans rfl, (blk_cell BK250.out 4).trans rfl⟩ (fun hHeld => ?_)
            clear hK K
            refine norm_ (a' := ?_) ?_ ?_
            rotate_left
            · show Act.put _ (some 23) _ = _
              simp only [Act.put, List.setIfInBounds_toArray, List.set_cons_zero, List.set_cons_succ, i64_w, i32_w]
              rfl
            refine pure_ (i := 14) (N := some 24) (v := ?_) (a' := ?_) #[true, true, true, true, true, true, true, true, true, true, true, true, true, true, true, false] rfl rfl (any_of HT_.out (by kernel_rfl)) (fun _ _ _ h => h) (Or.inl ⟨by rfl, ?_⟩) ?_ ?_
            rotate_left
            · intro w'
              go_simp
              with_reducible rfl
            rotate_left
            · simp only [Act.put, List.setIfInBounds_toArray, List.set_cons_zero, List.set_cons_succ, i64_w, i32_w]
              rfl
            refine pure_ (i := 15) (N := some 3) (v := ?_) (a' := ?_) #[true, true, true, true, true, true, true, true, true, true, true, true, true, true, true, true] rfl rfl (any_of HT_.out (by kernel_rfl)) (fun _ _ _ h => h) (Or.inl ⟨by rfl, ?_⟩) ?_ ?_
            rotate_left
            · intro w'
              go_simp
              with_reducible rfl
            rotate_left
            · simp only [Act.put, List.setIfInBounds_toArray, List.set_cons_zero, List.set_cons_succ, i64_w, i32_w]
              rfl
            refine done_ (done_of HT_.out (by kernel_rfl)) ?_
            try go_wp2
            go_meet
            case rel => exact ⟨_, ((t252 ++ t253) ++ t254), (by first | rfl | (simp; done) | (simp [*]; done)), H', ⟨by first | omega | exact Nat.le_refl _⟩, ⟨z5_⟩, ⟨z2_⟩⟩
          · rw [if_neg c14] at H
            exact absurd H (by simp)
        · rw [if_neg c12] at H
          exact absurd H (by simp)
      · rw [if_neg c9] at H
        have c9b0 : decide (a0_3 < 86400) = false := decide_eq_false c9
        clear c9
        (first | rw [c9b0] | (simp only [i64_w, i32_w]; rw [c9b0]) | skip)
        have H' := Aside0.mk H
        clear H
        go_wp2
        go_meet
        case rel => exact ⟨_, ((⟨#[50, 51, 53, 57, 54, 48]⟩ : ByteArray)), (by first | rfl | (simp; done) | (simp [*]; done)), H', ⟨by first | omega | exact Nat.le_refl _⟩, ⟨z5_⟩, ⟨z2_⟩⟩
    case rest =>
      clear HC4
      try clear c1
      try clear c2
      try clear p2
      try clear c3
      try clear c6
      try clear p6
      try clear c9
      try clear c9b0
      try clear c12
      try clear c12b0
      try clear c12b1
      try clear c12b2
      try clear c14
      try clear c14b0
      try clear c14b1
      try clear c14b2
      try clear hcz6_0
      try clear hcz6_1
      try clear hcz6_2
      try clear hcz6_3
      try clear hcz6_4
      try clear hcz8_0
      try clear hcz8_1
      try clear hcz8_2
      try clear hcz8_3
      try clear hcz8_4
      try clear hfz6_0
      try clear hfz6_1
      try clear hfz6_2
      try clear hfz6_3
      try clear hfz6_4
      try clear hfz8_0
      try clear hfz8_1
      try clear hfz8_2
      try clear hfz8_3
      try clear hfz8_4
      obtain ⟨kq, x3_3, rfl, HA, HJ3, BK250, HB⟩ := hcut
      cases kq with
      | zero => exact absurd HA.out (by simp [impl_FormatFix.j0])
      | succ kj3 =>
        have H := HA.out
        clear HA
        simp only [impl_FormatFix.j0] at H
        by_cases c19 : 4 + x3_3.size ≤ 9223372036854775807
        · rw [if_pos c19] at H
          have c19b0 := eq_true c19
          have c19b1 : decide (4 + x3_3.size ≤ 9223372036854775807) = true := decide_eq_true c19
          try have c19b2 : (9223372036854775807 < 4 + x3_3.size) = False := eq_false (Nat.not_lt.2 c19)
          by_cases c20 : ((⟨#[70, 73, 88, 44]⟩ : ByteArray) ++ x3_3).size + 1 ≤ 9223372036854775807
          · rw [if_pos c20] at H
            have c20b0 := eq_true c20
            have c20b1 : decide (((⟨#[70, 73, 88, 44]⟩ : ByteArray) ++ x3_3).size + 1 ≤ 9223372036854775807) = true := decide_eq_true c20
            try have c20b2 : (9223372036854775807 < ((⟨#[70, 73, 88, 44]⟩ : ByteArray) ++ x3_3).size + 1) = False := eq_false (Nat.not_lt.2 c20)
            try have c20b3 := c20b2
            try simp only [ByteArray.size_append, bsz, List.size_toArray, List.length_cons, List.length_nil, Nat.reduceAdd, Nat.zero_add, ByteArray.size_extract] at c20b3
            replace H := Option.bind_eq_some_iff.mp H
            obtain ⟨t255, A210, H⟩ := H
            replace H : (if (((⟨#[70, 73, 88, 44]⟩ : ByteArray) ++ x3_3) ++ (⟨#[44]⟩ : ByteArray)).size + t255.size ≤ 9223372036854775807 then (if ((((⟨#[70, 73, 88, 44]⟩ : ByteArray) ++ x3_3) ++ (⟨#[44]⟩ : ByteArray)) ++ t255).size + 1 ≤ 9223372036854775807 then ((impl_twoDigits.f a0_1).bind fun t256 => (if (((((⟨#[70, 73, 88, 44]⟩ : ByteArray) ++ x3_3) ++ (⟨#[44]⟩ : ByteArray)) ++ t255) ++ (⟨#[44]⟩ : ByteArray)).size + t256.size ≤ 9223372036854775807 then (if ((((((⟨#[70, 73, 88, 44]⟩ : ByteArray) ++ x3_3) ++ (⟨#[44]⟩ : ByteArray)) ++ t255) ++ (⟨#[44]⟩ : ByteArray)) ++ t256).size + 1 ≤ 9223372036854775807 then ((strconv_Itoa.f a0_0).bind fun t257 => (if (((((((⟨#[70, 73, 88, 44]⟩ : ByteArray) ++ x3_3) ++ (⟨#[44]⟩ : ByteArray)) ++ t255) ++ (⟨#[44]⟩ : ByteArray)) ++ t256) ++ (⟨#[44]⟩ : ByteArray)).size + t257.size ≤ 9223372036854775807 then (if ((((((((⟨#[70, 73, 88, 44]⟩ : ByteArray) ++ x3_3) ++ (⟨#[44]⟩ : ByteArray)) ++ t255) ++ (⟨#[44]⟩ : ByteArray)) ++ t256) ++ (⟨#[44]⟩ : ByteArray)) ++ t257).size + 1 ≤ 9223372036854775807 then ((strconv_Itoa.f a0_4).bind fun t258 => (if (((((((((⟨#[70, 73, 88, 44]⟩ : ByteArray) ++ x3_3) ++ (⟨#[44]⟩ : ByteArray)) ++ t255) ++ (⟨#[44]⟩ : ByteArray)) ++ t256) ++ (⟨#[44]⟩ : ByteArray)) ++ t257) ++ (⟨#[44]⟩ : ByteArray)).size + t258.size ≤ 9223372036854775807 then ((impl_FrameBody.f kj3 ((((((((((⟨#[70, 73, 88, 44]⟩ : ByteArray) ++ x3_3) ++ (⟨#[44]⟩ : ByteArray)) ++ t255) ++ (⟨#[44]⟩ : ByteArray)) ++ t256) ++ (⟨#[44]⟩ : ByteArray)) ++ t257) ++ (⟨#[44]⟩ : ByteArray)) ++ t258)).bind fun t259 => (some t259)) else (none))) else (none)) else (none))) else (none)) else (none))) else (none)) else (none)) = some r := H
            have A21 := Aside0.mk A210
            clear A210
            by_cases c22 : (((⟨#[70, 73, 88, 44]⟩ : ByteArray) ++ x3_3) ++ (⟨#[44]⟩ : ByteArray)).size + t255.size ≤ 9223372036854775807
            · rw [if_pos c22] at H
              have c22b0 := eq_true c22
              have c22b1 : decide ((((⟨#[70, 73, 88, 44]⟩ : ByteArray) ++ x3_3) ++ (⟨#[44]⟩ : ByteArray)).size + t255.size ≤ 9223372036854775807) = true := decide_eq_true c22
              try have c22b2 : (9223372036854775807 < (((⟨#[70, 73, 88, 44]⟩ : ByteArray) ++ x3_3) ++ (⟨#[44]⟩ : ByteArray)).size + t255.size) = False := eq_false (Nat.not_lt.2 c22)
              try have c22b3 := c22b2
              try simp only [ByteArray.size_append, bsz, List.size_toArray, List.length_cons, List.length_nil, Nat.reduceAdd, Nat.zero_add, ByteArray.size_extract] at c22b3
              by_cases c23 : ((((⟨#[70, 73, 88, 44]⟩ : ByteArray) ++ x3_3) ++ (⟨#[44]⟩ : ByteArray)) ++ t255).size + 1 ≤ 9223372036854775807
              · rw [if_pos c23] at H
                have c23b0 := eq_true c23
                have c23b1 : decide (((((⟨#[70, 73, 88, 44]⟩ : ByteArray) ++ x3_3) ++ (⟨#[44]⟩ : ByteArray)) ++ t255).size + 1 ≤ 9223372036854775807) = true := decide_eq_true c23
                try have c23b2 : (9223372036854775807 < ((((⟨#[70, 73, 88, 44]⟩ : ByteArray) ++ x3_3) ++ (⟨#[44]⟩ : ByteArray)) ++ t255).size + 1) = False := eq_false (Nat.not_lt.2 c23)
                try have c23b3 := c23b2
                try simp only [ByteArray.size_append, bsz, List.size_toArray, List.length_cons, List.length_nil, Nat.reduceAdd, Nat.zero_add, ByteArray.size_extract] at c23b3
                replace H := Option.bind_eq_some_iff.mp H
                obtain ⟨t256, A240, H⟩ := H
                replace H : (if (((((⟨#[70, 73, 88, 44]⟩ : ByteArray) ++ x3_3) ++ (⟨#[44]⟩ : ByteArray)) ++ t255) ++ (⟨#[44]⟩ : ByteArray)).size + t256.size ≤ 9223372036854775807 then (if ((((((⟨#[70, 73, 88, 44]⟩ : ByteArray) ++ x3_3) ++ (⟨#[44]⟩ : ByteArray)) ++ t255) ++ (⟨#[44]⟩ : ByteArray)) ++ t256).size + 1 ≤ 9223372036854775807 then ((strconv_Itoa.f a0_0).bind fun t257 => (if (((((((⟨#[70, 73, 88, 44]⟩ : ByteArray) ++ x3_3) ++ (⟨#[44]⟩ : ByteArray)) ++ t255) ++ (⟨#[44]⟩ : ByteArray)) ++ t256) ++ (⟨#[44]⟩ : ByteArray)).size + t257.size ≤ 9223372036854775807 then (if ((((((((⟨#[70, 73, 88, 44]⟩ : ByteArray) ++ x3_3) ++ (⟨#[44]⟩ : ByteArray)) ++ t255) ++ (⟨#[44]⟩ : ByteArray)) ++ t256) ++ (⟨#[44]⟩ : ByteArray)) ++ t257).size + 1 ≤ 9223372036854775807 then ((strconv_Itoa.f a0_4).bind fun t258 => (if (((((((((⟨#[70, 73, 88, 44]⟩ : ByteArray) ++ x3_3) ++ (⟨#[44]⟩ : ByteArray)) ++ t255) ++ (⟨#[44]⟩ : ByteArray)) ++ t256) ++ (⟨#[44]⟩ : ByteArray)) ++ t257) ++ (⟨#[44]⟩ : ByteArray)).size + t258.size ≤ 9223372036854775807 then ((impl_FrameBody.f kj3 ((((((((((⟨#[70, 73, 88, 44]⟩ : ByteArray) ++ x3_3) ++ (⟨#[44]⟩ : ByteArray)) ++ t255) ++ (⟨#[44]⟩ : ByteArray)) ++ t256) ++ (⟨#[44]⟩ : ByteArray)) ++ t257) ++ (⟨#[44]⟩ : ByteArray)) ++ t258)).bind fun t259 => (some t259)) else (none))) else (none)) else (none))) else (none)) else (none)) = some r := H
                have A24 := Aside0.mk A240
                clear A240
                by_cases c25 : (((((⟨#[70, 73, 88, 44]⟩ : ByteArray) ++ x3_3) ++ (⟨#[44]⟩ : ByteArray)) ++ t255) ++ (⟨#[44]⟩ : ByteArray)).size + t256.size ≤ 9223372036854775807
                · rw [if_pos c25] at H
                  have c25b0 := eq_true c25
                  have c25b1 : decide ((((((⟨#[70, 73, 88, 44]⟩ : ByteArray) ++ x3_3) ++ (⟨#[44]⟩ : ByteArray)) ++ t255) ++ (⟨#[44]⟩ : ByteArray)).size + t256.size ≤ 9223372036854775807) = true := decide_eq_true c25
                  try have c25b2 : (9223372036854775807 < (((((⟨#[70, 73, 88, 44]⟩ : ByteArray) ++ x3_3) ++ (⟨#[44]⟩ : ByteArray)) ++ t255) ++ (⟨#[44]⟩ : ByteArray)).size + t256.size) = False := eq_false (Nat.not_lt.2 c25)
                  try have c25b3 := c25b2
                  try simp only [ByteArray.size_append, bsz, List.size_toArray, List.length_cons, List.length_nil, Nat.reduceAdd, Nat.zero_add, ByteArray.size_extract] at c25b3
                  by_cases c26 : ((((((⟨#[70, 73, 88, 44]⟩ : ByteArray) ++ x3_3) ++ (⟨#[44]⟩ : ByteArray)) ++ t255) ++ (⟨#[44]⟩ : ByteArray)) ++ t256).size + 1 ≤ 9223372036854775807
                  · rw [if_pos c26] at H
                    have c26b0 := eq_true c26
                    have c26b1 : decide (((((((⟨#[70, 73, 88, 44]⟩ : ByteArray) ++ x3_3) ++ (⟨#[44]⟩ : ByteArray)) ++ t255) ++ (⟨#[44]⟩ : ByteArray)) ++ t256).size + 1 ≤ 9223372036854775807) = true := decide_eq_true c26
                    try have c26b2 : (9223372036854775807 < ((((((⟨#[70, 73, 88, 44]⟩ : ByteArray) ++ x3_3) ++ (⟨#[44]⟩ : ByteArray)) ++ t255) ++ (⟨#[44]⟩ : ByteArray)) ++ t256).size + 1) = False := eq_false (Nat.not_lt.2 c26)
                    try have c26b3 := c26b2
                    try simp only [ByteArray.size_append, bsz, List.size_toArray, List.length_cons, List.length_nil, Nat.reduceAdd, Nat.zero_add, ByteArray.size_extract] at c26b3
                    replace H := Option.bind_eq_some_iff.mp H
                    obtain ⟨t257, A270, H⟩ := H
                    replace H : (if (((((((⟨#[70, 73, 88, 44]⟩ : ByteArray) ++ x3_3) ++ (⟨#[44]⟩ : ByteArray)) ++ t255) ++ (⟨#[44]⟩ : ByteArray)) ++ t256) ++ (⟨#[44]⟩ : ByteArray)).size + t257.size ≤ 9223372036854775807 then (if ((((((((⟨#[70, 73, 88, 44]⟩ : ByteArray) ++ x3_3) ++ (⟨#[44]⟩ : ByteArray)) ++ t255) ++ (⟨#[44]⟩ : ByteArray)) ++ t256) ++ (⟨#[44]⟩ : ByteArray)) ++ t257).size + 1 ≤ 9223372036854775807 then ((strconv_Itoa.f a0_4).bind fun t258 => (if (((((((((⟨#[70, 73, 88, 44]⟩ : ByteArray) ++ x3_3) ++ (⟨#[44]⟩ : ByteArray)) ++ t255) ++ (⟨#[44]⟩ : ByteArray)) ++ t256) ++ (⟨#[44]⟩ : ByteArray)) ++ t257) ++ (⟨#[44]⟩ : ByteArray)).size + t258.size ≤ 9223372036854775807 then ((impl_FrameBody.f kj3 ((((((((((⟨#[70, 73, 88, 44]⟩ : ByteArray) ++ x3_3) ++ (⟨#[44]⟩ : ByteArray)) ++ t255) ++ (⟨#[44]⟩ : ByteArray)) ++ t256) ++ (⟨#[44]⟩ : ByteArray)) ++ t257) ++ (⟨#[44]⟩ : ByteArray)) ++ t258)).bind fun t259 => (some t259)) else (none))) else (none)) else (none)) = some r := H
                    have A27 := Aside0.mk A270
                    clear A270
                    by_cases c28 : (((((((⟨#[70, 73, 88, 44]⟩ : ByteArray) ++ x3_3) ++ (⟨#[44]⟩ : ByteArray)) ++ t255) ++ (⟨#[44]⟩ : ByteArray)) ++ t256) ++ (⟨#[44]⟩ : ByteArray)).size + t257.size ≤ 9223372036854775807
                    · rw [if_pos c28] at H
                      have c28b0 := eq_true c28
                      have c28b1 : decide ((((((((⟨#[70, 73, 88, 44]⟩ : ByteArray) ++ x3_3) ++ (⟨#[44]⟩ : ByteArray)) ++ t255) ++ (⟨#[44]⟩ : ByteArray)) ++ t256) ++ (⟨#[44]⟩ : ByteArray)).size + t257.size ≤ 9223372036854775807) = true := decide_eq_true c28
                      try have c28b2 : (9223372036854775807 < (((((((⟨#[70, 73, 88, 44]⟩ : ByteArray) ++ x3_3) ++ (⟨#[44]⟩ : ByteArray)) ++ t255) ++ (⟨#[44]⟩ : ByteArray)) ++ t256) ++ (⟨#[44]⟩ : ByteArray)).size + t257.size) = False := eq_false (Nat.not_lt.2 c28)
                      try have c28b3 := c28b2
                      try simp only [ByteArray.size_append, bsz, List.size_toArray, List.length_cons, List.length_nil, Nat.reduceAdd, Nat.zero_add, ByteArray.size_extract] at c28b3
                      by_cases c29 : ((((((((⟨#[70, 73, 88, 44]⟩ : ByteArray) ++ x3_3) ++ (⟨#[44]⟩ : ByteArray)) ++ t255) ++ (⟨#[44]⟩ : ByteArray)) ++ t256) ++ (⟨#[44]⟩ : ByteArray)) ++ t257).size + 1 ≤ 9223372036854775807
                      · rw [if_pos c29] at H
                        have c29b0 := eq_true c29
                        have c29b1 : decide (((((((((⟨#[70, 73, 88, 44]⟩ : ByteArray) ++ x3_3) ++ (⟨#[44]⟩ : ByteArray)) ++ t255) ++ (⟨#[44]⟩ : ByteArray)) ++ t256) ++ (⟨#[44]⟩ : ByteArray)) ++ t257).size + 1 ≤ 9223372036854775807) = true := decide_eq_true c29
                        try have c29b2 : (9223372036854775807 < ((((((((⟨#[70, 73, 88, 44]⟩ : ByteArray) ++ x3_3) ++ (⟨#[44]⟩ : ByteArray)) ++ t255) ++ (⟨#[44]⟩ : ByteArray)) ++ t256) ++ (⟨#[44]⟩ : ByteArray)) ++ t257).size + 1) = False := eq_false (Nat.not_lt.2 c29)
                        try have c29b3 := c29b2
                        try simp only [ByteArray.size_append, bsz, List.size_toArray, List.length_cons, List.length_nil, Nat.reduceAdd, Nat.zero_add, ByteArray.size_extract] at c29b3
                        replace H := Option.bind_eq_some_iff.mp H
                        obtain ⟨t258, A300, H⟩ := H
                        replace H : (if (((((((((⟨#[70, 73, 88, 44]⟩ : ByteArray) ++ x3_3) ++ (⟨#[44]⟩ : ByteArray)) ++ t255) ++ (⟨#[44]⟩ : ByteArray)) ++ t256) ++ (⟨#[44]⟩ : ByteArray)) ++ t257) ++ (⟨#[44]⟩ : ByteArray)).size + t258.size ≤ 9223372036854775807 then ((impl_FrameBody.f kj3 ((((((((((⟨#[70, 73, 88, 44]⟩ : ByteArray) ++ x3_3) ++ (⟨#[44]⟩ : ByteArray)) ++ t255) ++ (⟨#[44]⟩ : ByteArray)) ++ t256) ++ (⟨#[44]⟩ : ByteArray)) ++ t257) ++ (⟨#[44]⟩ : ByteArray)) ++ t258)).bind fun t259 => (some t259)) else (none)) = some r := H
                        have A30 := Aside0.mk A300
                        clear A300
                        by_cases c31 : (((((((((⟨#[70, 73, 88, 44]⟩ : ByteArray) ++ x3_3) ++ (⟨#[44]⟩ : ByteArray)) ++ t255) ++ (⟨#[44]⟩ : ByteArray)) ++ t256) ++ (⟨#[44]⟩ : ByteArray)) ++ t257) ++ (⟨#[44]⟩ : ByteArray)).size + t258.size ≤ 9223372036854775807
                        · rw [if_pos c31] at H
                          have c31b0 := eq_true c31
                          have c31b1 : decide ((((((((((⟨#[70, 73, 88, 44]⟩ : ByteArray) ++ x3_3) ++ (⟨#[44]⟩ : ByteArray)) ++ t255) ++ (⟨#[44]⟩ : ByteArray)) ++ t256) ++ (⟨#[44]⟩ : ByteArray)) ++ t257) ++ (⟨#[44]⟩ : ByteArray)).size + t258.size ≤ 9223372036854775807) = true := decide_eq_true c31
                          try have c31b2 : (9223372036854775807 < (((((((((⟨#[70, 73, 88, 44]⟩ : ByteArray) ++ x3_3) ++ (⟨#[44]⟩ : ByteArray)) ++ t255) ++ (⟨#[44]⟩ : ByteArray)) ++ t256) ++ (⟨#[44]⟩ : ByteArray)) ++ t257) ++ (⟨#[44]⟩ : ByteArray)).size + t258.size) = False := eq_false (Nat.not_lt.2 c31)
                          try have c31b3 := c31b2
                          try simp only [ByteArray.size_append, bsz, List.size_toArray, List.length_cons, List.length_nil, Nat.reduceAdd, Nat.zero_add, ByteArray.size_extract] at c31b3
                          replace H := Option.bind_eq_some_iff.mp H
                          obtain ⟨t259, A320, H⟩ := H
                          replace H : (some t259) = some r := H
                          have A32 := Aside0.mk A320
                          clear A320
                          obtain rfl := Option.some.inj H
                          try go_wp2
                          have n0_ := Aside0.mk (blk_drew BK250.out)
                          have n1_ := Aside0.mk (below_drew1 HB.out)
                          clear BK250
                          clear HB
                          have BK250 := n0_
                          have HB := n1_
                          clear n0_ n1_
                          refine start_ (n := 27) (S := fun w' => w'.cell? ⟨gb250, 0, none⟩ = some (.int .i64 a0_0) ∧ w'.cell? ⟨gb250, 1, none⟩ = some (.int .i64 a0_1) ∧ w'.cell? ⟨gb250, 2, none⟩ = some (.int .i64 a0_2) ∧ w'.cell? ⟨gb250, 3, none⟩ = some (.int .i64 a0_3) ∧ w'.cell? ⟨gb250, 4, none⟩ = some (.int .i64 a0_4)) (ds := []) #[false, false, false, false, false, false, false, false, false, false, false, false, false, false, false, false, false, false, false, false, false, false, false, false, false, false, false] (by kernel_rfl) rfl rfl ⟨(blk_cell BK250.out 0).trans rfl, (blk_cell BK250.out 1).trans rfl, (blk_cell BK250.out 2).trans rfl, (blk_cell BK250.out 3).trans rfl, (blk_cell BK250.out 4).trans rfl⟩ (fun hHeld => ?_); refine with_tabW impl_FormatFix.tab6 impl_FormatFix.bits6 (fun HT_ HW_ => ?_)
                          generalize wc.drew = w33 at BK250 HB hHeld ⊢
                          refine pure_ (i := 0) (N := some 25) (v := ?_) (a' := ?_) #[true, false, false, false, false, false, false, false, false, false, false, false, false, false, false, false, false, false, false, false, false, false, false, false, false, false, false] rfl rfl (any_of HT_.out (by kernel_rfl)) (fun _ _ _ h => h) (Or.inl ⟨by rfl, ?_⟩) ?_ ?_
                          rotate_left
                          · intro w'
                            go_simp
                            with_reducible rfl
                          rotate_left
                          · simp only [Act.put, List.setIfInBounds_toArray, List.set_cons_zero, List.set_cons_succ, i64_w, i32_w]
                            rfl
                          refine pure_ (i := 1) (N := some 26) (v := ?_) (a' := ?_) #[true, true, false, false, false, false, false, false, false, false, false, false, false, false, false, false, false, false, false, false, false, false, false, false, false, false, false] rfl rfl (any_of HT_.out (by kernel_rfl)) (fun _ _ _ h => h) (Or.inl ⟨by rfl, ?_⟩) ?_ ?_
                          rotate_left
                          · intro w'
                            go_simp
                            with_reducible rfl
                          rotate_left
                          · simp only [Act.put, List.setIfInBounds_toArray, List.set_cons_zero, List.set_cons_succ, i64_w, i32_w]
                            rfl
                          refine pure_ (i := 2) (N := some 27) (v := ?_) (a' := ?_) #[true, true, true, false, false, false, false, false, false, false, false, false, false, false, false, false, false, false, false, false, false, false, false, false, false, false, false] rfl rfl (any_of HT_.out (by kernel_rfl)) (fun _ _ _ h => h) (Or.inl ⟨by rfl, ?_⟩) ?_ ?_
                          rotate_left
                          · intro w'
                            go_simp
                            with_reducible rfl
                          rotate_left
                          · simp only [Act.put, List.setIfInBounds_toArray, List.set_cons_zero, List.set_cons_succ, i64_w, i32_w]
                            rfl
                          refine pure_ (i := 3) (N := some 28) (v := ?_) (a' := ?_) #[true, true, true, true, false, false, false, false, false, false, false, false, false, false, false, false, false, false, false, false, false, false, false, false, false, false, false] rfl rfl (any_of HT_.out (by kernel_rfl)) (fun _ _ _ h => h) (Or.inl ⟨by rfl, ?_⟩) ?_ ?_
                          rotate_left
                          · intro w'
                            go_simp
                            with_reducible rfl
                          rotate_left
                          · simp only [Act.put, List.setIfInBounds_toArray, List.set_cons_zero, List.set_cons_succ, i64_w, i32_w]
                            rfl
                          refine pure_ (i := 4) (N := some 29) (v := ?_) (a' := ?_) #[true, true, true, true, true, false, false, false, false, false, false, false, false, false, false, false, false, false, false, false, false, false, false, false, false, false, false] rfl rfl (any_of HT_.out (by kernel_rfl)) (fun _ _ _ h => h) (Or.inl ⟨by rfl, ?_⟩) ?_ ?_
                          rotate_left
                          · intro w'
                            go_simp
                            with_reducible rfl
                          rotate_left
                          · simp only [Act.put, List.setIfInBounds_toArray, List.set_cons_zero, List.set_cons_succ, i64_w, i32_w]
                            rfl
                          refine pure_ (i := 9) (N := some 34) (v := ?_) (a' := ?_) #[true, true, true, true, true, false, false, false, false, true, false, false, false, false, false, false, false, false, false, false, false, false, false, false, false, false, false] rfl rfl (any_of HT_.out (by kernel_rfl)) (fun _ _ _ h => h) (Or.inl ⟨by rfl, ?_⟩) ?_ ?_
                          rotate_left
                          · intro w'
                            go_simp
                            with_reducible rfl
                          rotate_left
                          · simp only [Act.put, List.setIfInBounds_toArray, List.set_cons_zero, List.set_cons_succ, i64_w, i32_w]
                            rfl
                          refine pure_ (i := 10) (N := some 35) (v := ?_) (a' := ?_) #[true, true, true, true, true, false, false, false, false, true, true, false, false, false, false, false, false, false, false, false, false, false, false, false, false, false, false] rfl rfl (any_of HT_.out (by kernel_rfl)) (fun _ _ _ h => h) (Or.inl ⟨by rfl, ?_⟩) ?_ ?_
                          rotate_left
                          · intro w'
                            go_simp
                            with_reducible rfl
                          rotate_left
                          · simp only [Act.put, List.setIfInBounds_toArray, List.set_cons_zero, List.set_cons_succ, i64_w, i32_w]
                            rfl
                          refine pure_ (i := 15) (N := some 40) (v := ?_) (a' := ?_) #[true, true, true, true, true, false, false, false, false, true, true, false, false, false, false, true, false, false, false, false, false, false, false, false, false, false, false] rfl rfl (any_of HT_.out (by kernel_rfl)) (fun _ _ _ h => h) (Or.inl ⟨by rfl, ?_⟩) ?_ ?_
                          rotate_left
                          · intro w'
                            go_simp
                            with_reducible rfl
                          rotate_left
                          · simp only [Act.put, List.setIfInBounds_toArray, List.set_cons_zero, List.set_cons_succ, i64_w, i32_w]
                            rfl
                          refine pure_ (i := 16) (N := some 41) (v := ?_) (a' := ?_) #[true, true, true, true, true, false, false, false, false, true, true, false, false, false, false, true, true, false, false, false, false, false, false, false, false, false, false] rfl rfl (any_of HT_.out (by kernel_rfl)) (fun _ _ _ h => h) (Or.inl ⟨by rfl, ?_⟩) ?_ ?_
                          rotate_left
                          · intro w'
                            go_simp
                            with_reducible rfl
                          rotate_left
                          · simp only [Act.put, List.setIfInBounds_toArray, List.set_cons_zero, List.set_cons_succ, i64_w, i32_w]
                            rfl
                          refine pure_ (i := 21) (N := some 46) (v := ?_) (a' := ?_) #[true, true, true, true, true, false, false, false, false, true, true, false, false, false, false, true, true, false, false, false, false, true, false, false, false, false, false] rfl rfl (any_of HT_.out (by kernel_rfl)) (fun _ _ _ h => h) (Or.inl ⟨by rfl, ?_⟩) ?_ ?_
                          rotate_left
                          · intro w'
                            go_simp
                            with_reducible rfl
                          rotate_left
                          · simp only [Act.put, List.setIfInBounds_toArray, List.set_cons_zero, List.set_cons_succ, i64_w, i32_w]
                            rfl
                          refine take_ (i := 5) (N := some 30) (v := ?_) (a' := ?_) #[true, true, true, true, true, true, false, false, false, true, true, false, false, false, false, true, true, false, false, false, false, true, false, false, false, false, false] rfl rfl (take_ofW HT_.out HW_.out (by kernel_rfl)) (fun _ _ _ h => h) (Or.inl ⟨by rfl, ?_⟩) hHeld ?_ ?_
                          rotate_left
                          · rintro w' ⟨s0, s1, s2, s3, s4⟩
                            go_simp
                            with_reducible rfl
                          rotate_left
                          · simp only [Act.put, List.setIfInBounds_toArray, List.set_cons_zero, List.set_cons_succ, i64_w, i32_w]
                            rfl
                          refine take_ (i := 11) (N := some 36) (v := ?_) (a' := ?_) #[true, true, true, true, true, true, false, false, false, true, true, true, false, false, false, true, true, false, false, false, false, true, false, false, false, false, false] rfl rfl (take_ofW HT_.out HW_.out (by kernel_rfl)) (fun _ _ _ h => h) (Or.inl ⟨by rfl, ?_⟩) hHeld ?_ ?_
                          rotate_left
                          · rintro w' ⟨s0, s1, s2, s3, s4⟩
                            go_simp
                            with_reducible rfl
                          rotate_left
                          · simp only [Act.put, List.setIfInBounds_toArray, List.set_cons_zero, List.set_cons_succ, i64_w, i32_w]
                            rfl
                          refine take_ (i := 17) (N := some 42) (v := ?_) (a' := ?_) #[true, true, true, true, true, true, false, false, false, true, true, true, false, false, false, true, true, true, false, false, false, true, false, false, false, false, false] rfl rfl (take_ofW HT_.out HW_.out (by kernel_rfl)) (fun _ _ _ h => h) (Or.inl ⟨by rfl, ?_⟩) hHeld ?_ ?_
                          rotate_left
                          · rintro w' ⟨s0, s1, s2, s3, s4⟩
                            go_simp
                            with_reducible rfl
                          rotate_left
                          · simp only [Act.put, List.setIfInBounds_toArray, List.set_cons_zero, List.set_cons_succ, i64_w, i32_w]
                            rfl
                          refine take_ (i := 22) (N := some 47) (v := ?_) (a' := ?_) #[true, true, true, true, true, true, false, false, false, true, true, true, false, false, false, true, true, true, false, false, false, true, true, false, false, false, false] rfl rfl (take_ofW HT_.out HW_.out (by kernel_rfl)) (fun _ _ _ h => h) (Or.inl ⟨by rfl, ?_⟩) hHeld ?_ ?_
                          rotate_left
                          · rintro w' ⟨s0, s1, s2, s3, s4⟩
                            go_simp
                            with_reducible rfl
                          rotate_left
                          · simp only [Act.put, List.setIfInBounds_toArray, List.set_cons_zero, List.set_cons_succ, i64_w, i32_w]
                            rfl
                          refine one_ (i := 6) (N := some 31) #[true, true, true, true, true, true, true, false, false, true, true, true, false, false, false, true, true, true, false, false, false, true, true, false, false, false, false] rfl rfl (one_of HT_.out (by kernel_rfl)) (by decide) (fun K hK => ?_)
                          refine goes_ Tryz.func29 (by kernel_rfl) rfl #[.int .i64 a0_2] (by rfl) rfl rfl (z3_) ?_
                          with_reducible refine (impl_twoDigits.calls a0_2 t255 _ (Tc.keep HTB.out (z2_)) A21.out).mono ?_
                          rintro e w34 ⟨rfl, hb⟩
                          refine ⟨_, rfl, ?_⟩
                          have n0_ := Aside0.mk (blk_below (g := gb250) (o := .cells #[.int .i64 a0_0, .int .i64 a0_1, .int .i64 a0_2, .int .i64 a0_3, .int .i64 a0_4] 44 (0, 0)) (z5_) hb)
                          have n1_ := Aside0.mk (below_step (z2_) hb)
                          clear BK250
                          clear HB
                          have BK250 := n0_
                          have HB := n1_
                          clear n0_ n1_
                          (try clear hb)
                          (try clear hb2)
                          (try clear hk)
                          (try clear hi)
                          refine hK.out _ _ ⟨(blk_cell BK250.out 0).trans rfl, (blk_cell BK250.out 1).trans rfl, (blk_cell BK250.out 2).trans rfl, (blk_cell BK250.out 3).trans rfl, (blk_cell BK250.out 4).trans rfl⟩ (fun hHeld => ?_)
                          clear hK K
                          refine norm_ (a' := ?_) ?_ ?_
                          rotate_left
                          · show Act.put _ (some 31) _ = _
                            simp only [Act.put, List.setIfInBounds_toArray, List.set_cons_zero, List.set_cons_succ, i64_w, i32_w]
                            rfl
                          refine pure_ (i := 7) (N := some 32) (v := ?_) (a' := ?_) #[true, true, true, true, true, true, true, true, false, true, true, true, false, false, false, true, true, true, false, false, false, true, true, false, false, false, false] rfl rfl (any_of HT_.out (by kernel_rfl)) (fun _ _ _ h => h) (Or.inl ⟨by rfl, ?_⟩) ?_ ?_
                          rotate_left
                          · intro w'
                            go_simp
                            with_reducible rfl
                          rotate_left
                          · simp only [Act.put, List.setIfInBounds_toArray, List.set_cons_zero, List.set_cons_succ, i64_w, i32_w]
                            rfl
                          refine pure_ (i := 8) (N := some 33) (v := ?_) (a' := ?_) #[true, true, true, true, true, true, true, true, true, true, true, true, false, false, false, true, true, true, false, false, false, true, true, false, false, false, false] rfl rfl (any_of HT_.out (by kernel_rfl)) (fun _ _ _ h => h) (Or.inl ⟨by rfl, ?_⟩) ?_ ?_
                          rotate_left
                          · intro w'
                            go_simp
                            with_reducible rfl
                          rotate_left
                          · simp only [Act.put, List.setIfInBounds_toArray, List.set_cons_zero, List.set_cons_succ, i64_w, i32_w]
                            rfl
                          refine one_ (i := 12) (N := some 37) #[true, true, true, true, true, true, true, true, true, true, true, true, true, false, false, true, true, true, false, false, false, true, true, false, false, false, false] rfl rfl (one_of HT_.out (by kernel_rfl)) (by decide) (fun K hK => ?_)
                          refine goes_ Tryz.func29 (by kernel_rfl) rfl #[.int .i64 a0_1] (by rfl) rfl rfl (z3_) ?_
                          with_reducible refine (impl_twoDigits.calls a0_1 t256 _ (Tc.keep HTB.out (z2_)) A24.out).mono ?_
                          rintro e w35 ⟨rfl, hb⟩
                          refine ⟨_, rfl, ?_⟩
                          have n0_ := Aside0.mk (blk_below (g := gb250) (o := .cells #[.int .i64 a0_0, .int .i64 a0_1, .int .i64 a0_2, .int .i64 a0_3, .int .i64 a0_4] 44 (0, 0)) (z5_) hb)
                          have n1_ := Aside0.mk (below_step (z2_) hb)
                          clear BK250
                          clear HB
                          have BK250 := n0_
                          have HB := n1_
                          clear n0_ n1_
                          (try clear hb)
                          (try clear hb2)
                          (try clear hk)
                          (try clear hi)
                          refine hK.out _ _ ⟨(blk_cell BK250.out 0).trans rfl, (blk_cell BK250.out 1).trans rfl, (blk_cell BK250.out 2).trans rfl, (blk_cell BK250.out 3).trans rfl, (blk_cell BK250.out 4).trans rfl⟩ (fun hHeld => ?_)
                          clear hK K
                          refine norm_ (a' := ?_) ?_ ?_
                          rotate_left
                          · show Act.put _ (some 37) _ = _
                            simp only [Act.put, List.setIfInBounds_toArray, List.set_cons_zero, List.set_cons_succ, i64_w, i32_w]
                            rfl
                          refine pure_ (i := 13) (N := some 38) (v := ?_) (a' := ?_) #[true, true, true, true, true, true, true, true, true, true, true, true, true, true, false, true, true, true, false, false, false, true, true, false, false, false, false] rfl rfl (any_of HT_.out (by kernel_rfl)) (fun _ _ _ h => h) (Or.inl ⟨by rfl, ?_⟩) ?_ ?_
                          rotate_left
                          · intro w'
                            go_simp
                            with_reducible rfl
                          rotate_left
                          · simp only [Act.put, List.setIfInBounds_toArray, List.set_cons_zero, List.set_cons_succ, i64_w, i32_w]
                            rfl
                          refine pure_ (i := 14) (N := some 39) (v := ?_) (a' := ?_) #[true, true, true, true, true, true, true, true, true, true, true, true, true, true, true, true, true, true, false, false, false, true, true, false, false, false, false] rfl rfl (any_of HT_.out (by kernel_rfl)) (fun _ _ _ h => h) (Or.inl ⟨by rfl, ?_⟩) ?_ ?_
                          rotate_left
                          · intro w'
                            go_simp
                            with_reducible rfl
                          rotate_left
                          · simp only [Act.put, List.setIfInBounds_toArray, List.set_cons_zero, List.set_cons_succ, i64_w, i32_w]
                            rfl
                          refine one_ (i := 18) (N := some 43) #[true, true, true, true, true, true, true, true, true, true, true, true, true, true, true, true, true, true, true, false, false, true, true, false, false, false, false] rfl rfl (one_of HT_.out (by kernel_rfl)) (by decide) (fun K hK => ?_)
                          refine goes_ Tryz.func26 (by kernel_rfl) rfl #[.int .i64 a0_0] (by rfl) rfl rfl (z3_) ?_
                          with_reducible refine (strconv_Itoa.calls a0_0 t257 _ (Tc.keep HTB.out (z2_)) A27.out).mono ?_
                          rintro e w36 ⟨rfl, hb⟩
                          refine ⟨_, rfl, ?_⟩
                          have n0_ := Aside0.mk (blk_below (g := gb250) (o := .cells #[.int .i64 a0_0, .int .i64 a0_1, .int .i64 a0_2, .int .i64 a0_3, .int .i64 a0_4] 44 (0, 0)) (z5_) hb)
                          have n1_ := Aside0.mk (below_step (z2_) hb)
                          clear BK250
                          clear HB
                          have BK250 := n0_
                          have HB := n1_
                          clear n0_ n1_
                          (try clear hb)
                          (try clear hb2)
                          (try clear hk)
                          (try clear hi)
                          refine hK.out _ _ ⟨(blk_cell BK250.out 0).trans rfl, (blk_cell BK250.out 1).trans rfl, (blk_cell BK250.out 2).trans rfl, (blk_cell BK250.out 3).trans rfl, (blk_cell BK250.out 4).trans rfl⟩ (fun hHeld => ?_)
                          clear hK K
                          refine norm_ (a' := ?_) ?_ ?_
                          rotate_left
                          · show Act.put _ (some 43) _ = _
                            simp only [Act.put, List.setIfInBounds_toArray, List.set_cons_zero, List.set_cons_succ, i64_w, i32_w]
                            rfl
                          refine pure_ (i := 19) (N := some 44) (v := ?_) (a' := ?_) #[true, true, true, true, true, true, true, true, true, true, true, true, true, true, true, true, true, true, true, true, false, true, true, false, false, false, false] rfl rfl (any_of HT_.out (by kernel_rfl)) (fun _ _ _ h => h) (Or.inl ⟨by rfl, ?_⟩) ?_ ?_
                          rotate_left
                          · intro w'
                            go_simp
                            with_reducible rfl
                          rotate_left
                          · simp only [Act.put, List.setIfInBounds_toArray, List.set_cons_zero, List.set_cons_succ, i64_w, i32_w]
                            rfl
                          refine pure_ (i := 20) (N := some 45) (v := ?_) (a' := ?_) #[true, true, true, true, true, true, true, true, true, true, true, true, true, true, true, true, true, true, true, true, true, true, true, false, false, false, false] rfl rfl (any_of HT_.out (by kernel_rfl)) (fun _ _ _ h => h) (Or.inl ⟨by rfl, ?_⟩) ?_ ?_
                          rotate_left
                          · intro w'
                            go_simp
                            with_reducible rfl
                          rotate_left
                          · simp only [Act.put, List.setIfInBounds_toArray, List.set_cons_zero, List.set_cons_succ, i64_w, i32_w]
                            rfl
                          refine one_ (i := 23) (N := some 48) #[true, true, true, true, true, true, true, true, true, true, true, true, true, true, true, true, true, true, true, true, true, true, true, true, false, false, false] rfl rfl (one_of HT_.out (by kernel_rfl)) (by decide) (fun K hK => ?_)
                          refine goes_ Tryz.func26 (by kernel_rfl) rfl #[.int .i64 a0_4] (by rfl) rfl rfl (z3_) ?_
                          with_reducible refine (strconv_Itoa.calls a0_4 t258 _ (Tc.keep HTB.out (z2_)) A30.out).mono ?_
                          rintro e w37 ⟨rfl, hb⟩
                          refine ⟨_, rfl, ?_⟩
                          have n0_ := Aside0.mk (blk_below (g := gb250) (o := .cells #[.int .i64 a0_0, .int .i64 a0_1, .int .i64 a0_2, .int .i64 a0_3, .int .i64 a0_4] 44 (0, 0)) (z5_) hb)
                          have n1_ := Aside0.mk (below_step (z2_) hb)
                          clear BK250
                          clear HB
                          have BK250 := n0_
                          have HB := n1_
                          clear n0_ n1_
                          (try clear hb)
                          (try clear hb2)
                          (try clear hk)
                          (try clear hi)
                          refine hK.out _ _ ⟨(blk_cell BK250.out 0).trans rfl, (blk_cell BK250.out 1).trans rfl, (blk_cell BK250.out 2).trans rfl, (blk_cell BK250.out 3).trans rfl, (blk_cell BK250.out 4).trans rfl⟩ (fun hHeld => ?_)
                          clear hK K
                          refine norm_ (a' := ?_) ?_ ?_
                          rotate_left
                          · show Act.put _ (some 48) _ = _
                            simp only [Act.put, List.setIfInBounds_toArray, List.set_cons_zero, List.set_cons_succ, i64_w, i32_w]
                            rfl
                          refine pure_ (i := 24) (N := some 49) (v := ?_) (a' := ?_) #[true, true, true, true, true, true, true, true, true, true, true, true, true, true, true, true, true, true, true, true, true, true, true, true, true, false, false] rfl rfl (any_of HT_.out (by kernel_rfl)) (fun _ _ _ h => h) (Or.inl ⟨by rfl, ?_⟩) ?_ ?_
                          rotate_left
                          · intro w'
                            go_simp
                            with_reducible rfl
                          rotate_left
                          · simp only [Act.put, List.setIfInBounds_toArray, List.set_cons_zero, List.set_cons_succ, i64_w, i32_w]
                            rfl
                          refine one_ (i := 25) (N := some 50) #[true, true, true, true, true, true, true, true, true, true, true, true, true, true, true, true, true, true, true, true, true, true, true, true, true, true, false] rfl rfl (one_of HT_.out (by kernel_rfl)) (by decide) (fun K hK => ?_)
                          refine goes_ Tryz.func85 (by kernel_rfl) rfl #[.string ((((((((((⟨#[70, 73, 88, 44]⟩ : ByteArray) ++ x3_3) ++ (⟨#[44]⟩ : ByteArray)) ++ t255) ++ (⟨#[44]⟩ : ByteArray)) ++ t256) ++ (⟨#[44]⟩ : ByteArray)) ++ t257) ++ (⟨#[44]⟩ : ByteArray)) ++ t258)] (by rfl) rfl rfl (z3_) ?_
                          with_reducible refine (impl_FrameBody.calls kj3 ((((((((((⟨#[70, 73, 88, 44]⟩ : ByteArray) ++ x3_3) ++ (⟨#[44]⟩ : ByteArray)) ++ t255) ++ (⟨#[44]⟩ : ByteArray)) ++ t256) ++ (⟨#[44]⟩ : ByteArray)) ++ t257) ++ (⟨#[44]⟩ : ByteArray)) ++ t258) t259 _ A32.out).mono ?_
                          rintro e w' ⟨rfl, ⟨nd, rfl⟩⟩
                          refine ⟨_, rfl, ?_⟩
                          refine hK.out _ _ ⟨(blk_cell BK250.out 0).trans rfl, (blk_cell BK250.out 1).trans rfl, (blk_cell BK250.out 2).trans rfl, (blk_cell BK250.out 3).trans rfl, (blk_cell BK250.out 4).trans rfl⟩ (fun hHeld => ?_)
                          clear hK K
                          refine norm_ (a' := ?_) ?_ ?_
                          rotate_left
                          · show Act.put _ (some 50) _ = _
                            simp only [Act.put, List.setIfInBounds_toArray, List.set_cons_zero, List.set_cons_succ, i64_w, i32_w]
                            rfl
                          refine pure_ (i := 26) (N := some 2) (v := ?_) (a' := ?_) #[true, true, true, true, true, true, true, true, true, true, true, true, true, true, true, true, true, true, true, true, true, true, true, true, true, true, true] rfl rfl (any_of HT_.out (by kernel_rfl)) (fun _ _ _ h => h) (Or.inl ⟨by rfl, ?_⟩) ?_ ?_
                          rotate_left
                          · intro w'
                            go_simp
                            with_reducible rfl
                          rotate_left
                          · simp only [Act.put, List.setIfInBounds_toArray, List.set_cons_zero, List.set_cons_succ, i64_w, i32_w]
                            rfl
                          refine done_ (done_of HT_.out (by kernel_rfl)) ?_
                          try go_wp2
                          go_ret
                          exact ⟨z6_, z2_⟩
                        · rw [if_neg c31] at H
                          exact absurd H (by simp)
                      · rw [if_neg c29] at H
                        exact absurd H (by simp)
                    · rw [if_neg c28] at H
                      exact absurd H (by simp)
                  · rw [if_neg c26] at H
                    exact absurd H (by simp)
                · rw [if_neg c25] at H
                  exact absurd H (by simp)
              · rw [if_neg c23] at H
                exact absurd H (by simp)
            · rw [if_neg c22] at H
              exact absurd H (by simp)
          · rw [if_neg c20] at H
            exact absurd H (by simp)
        · rw [if_neg c19] at H
          exact absurd H (by simp)
  · replace c3 := Bool.eq_false_iff.mpr c3
    subst c3
    have H1 : (some (⟨#[]⟩ : ByteArray)) = some r := by rw [if_neg (show ¬ (false = true) by decide)] at H; exact H
    clear H
    have H := H1
    clear H1
    obtain rfl := Option.some.inj H
    go_enter Tryz.func64, Tryz.ntmps64
    go_wp2_with (first | ((with_reducible refine gate_dst (N := 1) rfl ?_); refine box_event ?hg (N := 1) ?hd (cs := #[.int .i64 a0_0, .int .i64 a0_1, .int .i64 a0_2, .int .i64 a0_3, .int .i64 a0_4]) (t := 44) ?hr ?_; (case hd => rfl); (case hg => rfl); (case hr => first | (go_simp; done) | (go_simp; rfl)); intro gb250 hg w38 hbox hb; have n0_ := Aside0.mk (below_step (z4_) hb); have n1_ := Aside0.mk (hbox); have n2_ := Aside0.mk ((z1_ : w.heap.size ≤ gb250)); have n3_ := Aside0.mk ((z1_ : w.heap.size ≤ gb250)); clear HB; have HB := n0_; have BK250 := n1_; have GW250 := n2_; have GE250 := n3_; clear n0_ n1_ n2_ n3_; clear hb hbox hg; have hcz39_0 : w38.cell? ⟨gb250, 0, none⟩ = some (.int .i64 a0_0) := (blk_cell BK250.out 0).trans rfl; have hcz39_1 : w38.cell? ⟨gb250, 1, none⟩ = some (.int .i64 a0_1) := (blk_cell BK250.out 1).trans rfl; have hcz39_2 : w38.cell? ⟨gb250, 2, none⟩ = some (.int .i64 a0_2) := (blk_cell BK250.out 2).trans rfl; have hcz39_3 : w38.cell? ⟨gb250, 3, none⟩ = some (.int .i64 a0_3) := (blk_cell BK250.out 3).trans rfl; have hcz39_4 : w38.cell? ⟨gb250, 4, none⟩ = some (.int .i64 a0_4) := (blk_cell BK250.out 4).trans rfl; have hfz39_0 := blk_frozen BK250.out 0; have hfz39_1 := blk_frozen BK250.out 1; have hfz39_2 := blk_frozen BK250.out 2; have hfz39_3 := blk_frozen BK250.out 3; have hfz39_4 := blk_frozen BK250.out 4) | ((with_reducible refine gate_callee (f := 65) rfl ?_); refine goesL_ (some 5) rfl rfl Tryz.func65 (by kernel_rfl) rfl #[.agg #[.int .i64 a0_0, .int .i64 a0_1, .int .i64 a0_2, .int .i64 a0_3, .int .i64 a0_4]] rfl (z3_) ?_; (with_reducible refine (impl_ValidFix.calls k a0_0 a0_1 a0_2 a0_3 a0_4 false _ A2.out).mono ?_); rintro e w40 ⟨rfl, hb⟩; refine ⟨_, rfl, ?_⟩; have n0_ := Aside0.mk (blk_below (g := gb250) (o := .cells #[.int .i64 a0_0, .int .i64 a0_1, .int .i64 a0_2, .int .i64 a0_3, .int .i64 a0_4] 44 (0, 0)) (z5_) hb); have n1_ := Aside0.mk (below_step (z2_) hb); clear BK250; clear HB; have BK250 := n0_; have HB := n1_; clear n0_ n1_; (try clear hb); (try clear hb2); (try clear hk); (try clear hi)))
    go_ret
    exact ⟨z6_, z2_⟩

end Go.Proofs.YtdggcfpimjdckaaGreatDoor.PFnExactRunSession
