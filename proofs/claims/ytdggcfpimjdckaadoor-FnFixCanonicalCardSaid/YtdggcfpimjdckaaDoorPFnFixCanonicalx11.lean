-- Out of a print of the walks, turned by a program of this session; Lean checks it.
import Derived.Test.YtdggcfpimjdckaaDoorPFnFixCanonicalx0
import Derived.Test.YtdggcfpimjdckaaDoorPFnFixCanonicalx1
import Derived.Test.YtdggcfpimjdckaaDoorPFnFixCanonicalx2
import Derived.Test.YtdggcfpimjdckaaDoorPFnFixCanonicalx3
import Derived.Test.YtdggcfpimjdckaaDoorPFnFixCanonicalx4
import Derived.Test.YtdggcfpimjdckaaDoorPFnFixCanonicalx9
import Derived.Test.YtdggcfpimjdckaaDoorPFnFixCanonicalx10
namespace Go.Proofs.YtdggcfpimjdckaaDoor.PFnFixCanonical
open Go.RowKit Go.Proofs.YtdggcfpimjdckaaDoorW.PrintWords Go.Proofs.YtdggcfpimjdckaaDoorW.PrintLast Go.Proofs.YtdggcfpimjdckaaDoorW.PrintMore
attribute [local go_sem] max2_int min2_int max_two min_two max_three min_three max_four min_four   -- for this text's walks alone
set_option linter.unusedVariables false
set_option linter.unusedSimpArgs false

attribute [local go_sem high] eqA26
theorem impl_ParseFix.mono : ∀ a0 k, LeO (impl_ParseFix.f k a0) (impl_ParseFix.f (k + 1) a0) := by
  intro a0 k
  have hg : ∀ n0 n1 n2 n3 n4, LeO (impl_ParseFix.g k a0 n0 n1 n2 n3 n4) (impl_ParseFix.g (k + 1) a0 n0 n1 n2 n3 n4) := by
    intro n0 n1 n2 n3 n4
    unfold impl_ParseFix.g
    exact LeO.bind (impl_FormatFix.mono _ _ _ _ _ _) (fun _ => LeO.refl _)
  have hw : ∀ ws, LeO (impl_ParseFix.w k a0 ws) (impl_ParseFix.w (k + 1) a0 ws) := by
    intro ws
    unfold impl_ParseFix.w
    split
    · split
      · exact hg _ _ _ _ _
      · exact LeO.refl _
    · exact LeO.refl _
  unfold impl_ParseFix.f
  exact LeO.bind (impl_ReadFrame.mono _ _) (fun _ => LeO.ite (LeO.ite (hw _) (LeO.refl _)) (LeO.refl _))
attribute [local irreducible] impl_ParseFix.f
/-! ### laws_FnFixCanonical: function 8 -/
def laws_FnFixCanonical.j0 : Nat → ByteArray → Bool → Bool → Int → Int → Int → Int → Int → Option (Bool)
  | 0, _, _, _, _, _, _, _, _ => none
  | k + 1, x3, x5, x30, x331000, x331001, x331002, x331003, x331004 => if x30 = true then (some false) else (if x5 = true then ((impl_FormatFix.f k x331000 x331001 x331002 x331003 x331004).bind fun t338 => (if t338.toList = x3.toList then ((impl_ValidFix.f k x331000 x331001 x331002 x331003 x331004).bind fun t339 => (some t339)) else (some false))) else (some true))
def laws_FnFixCanonical.f (k : Nat) (l0 : List Int) : Option (Bool) := if (l0.length : Int) > 1048576 then (some true) else ((spec_DrawParseFix.f k l0).bind fun t323 => ((impl_ParseFix.f k t323).bind fun bt324 => ((spec_ParseFix.f k t323).bind fun bt331 => (if ((!(bt324.1 == bt331.1) || (!(bt324.2.1 == bt331.2.1) || (!(bt324.2.2.1 == bt331.2.2.1)))) || (!(bt324.2.2.2.1 == bt331.2.2.2.1) || (!(bt324.2.2.2.2.1 == bt331.2.2.2.2.1)))) = true then (laws_FnFixCanonical.j0 k t323 bt324.2.2.2.2.2 true bt324.1 bt324.2.1 bt324.2.2.1 bt324.2.2.2.1 bt324.2.2.2.2.1) else (laws_FnFixCanonical.j0 k t323 bt324.2.2.2.2.2 (bt324.2.2.2.2.2 != bt331.2.2.2.2.2) bt324.1 bt324.2.1 bt324.2.2.1 bt324.2.2.2.1 bt324.2.2.2.2.1)))))
theorem laws_FnFixCanonical.mono_l : ∀ k, (∀ y0 y1 y2 y3 y4 y5 y6 y7, LeO (laws_FnFixCanonical.j0 k y0 y1 y2 y3 y4 y5 y6 y7) (laws_FnFixCanonical.j0 (k + 1) y0 y1 y2 y3 y4 y5 y6 y7))
  | 0 => fun _ _ _ _ _ _ _ _ r h => by simp [laws_FnFixCanonical.j0] at h
  | k + 1 => by
    have ih0 := laws_FnFixCanonical.mono_l k
    · intro y0 y1 y2 y3 y4 y5 y6 y7
      unfold laws_FnFixCanonical.j0
      repeat' first
      | (with_reducible exact ih0 _ _ _ _ _ _ _ _)
      | (with_reducible exact impl_FormatFix.mono _ _ _ _ _ _)
      | (with_reducible exact impl_ParseFix.mono _ _)
      | (with_reducible exact impl_ValidFix.mono _ _ _ _ _ _)
      | (with_reducible exact spec_DrawParseFix.mono _ _)
      | (with_reducible exact spec_ParseFix.mono _ _)
      | (with_reducible exact LeO.refl _)
      | (with_reducible exact LeO.none _)
      | (with_reducible refine LeO.ite ?_ ?_)
      | (with_reducible refine LeO.bind ?_ (fun _ => ?_))
      | exact ih0 _ _ _ _ _ _ _ _
      | exact impl_FormatFix.mono _ _ _ _ _ _
      | exact impl_ParseFix.mono _ _
      | exact impl_ValidFix.mono _ _ _ _ _ _
      | exact spec_DrawParseFix.mono _ _
      | exact spec_ParseFix.mono _ _
      | exact LeO.none _
      | refine LeO.ite ?_ ?_
      | refine LeO.bind ?_ (fun _ => ?_)
theorem laws_FnFixCanonical.mono : ∀ a0 k, LeO (laws_FnFixCanonical.f k a0) (laws_FnFixCanonical.f (k + 1) a0) := by
  intro a0 k
  have ih0 := laws_FnFixCanonical.mono_l k
  unfold laws_FnFixCanonical.f
  repeat' first
      | (with_reducible exact ih0 _ _ _ _ _ _ _ _)
      | (with_reducible exact impl_FormatFix.mono _ _ _ _ _ _)
      | (with_reducible exact impl_ParseFix.mono _ _)
      | (with_reducible exact impl_ValidFix.mono _ _ _ _ _ _)
      | (with_reducible exact spec_DrawParseFix.mono _ _)
      | (with_reducible exact spec_ParseFix.mono _ _)
      | (with_reducible exact LeO.refl _)
      | (with_reducible exact LeO.none _)
      | (with_reducible refine LeO.ite ?_ ?_)
      | (with_reducible refine LeO.bind ?_ (fun _ => ?_))
      | exact ih0 _ _ _ _ _ _ _ _
      | exact impl_FormatFix.mono _ _ _ _ _ _
      | exact impl_ParseFix.mono _ _
      | exact impl_ValidFix.mono _ _ _ _ _ _
      | exact spec_DrawParseFix.mono _ _
      | exact spec_ParseFix.mono _ _
      | exact LeO.none _
      | refine LeO.ite ?_ ?_
      | refine LeO.bind ?_ (fun _ => ?_)
set_option maxHeartbeats 8000000 in
set_option maxRecDepth 100000 in
theorem laws_FnFixCanonical.calls (k : Nat) (A0 : Option Addr) (c0 : Nat) (l0 : List Int) (r : Bool) (w : World) (htb_ : Tc w) (hr0 : Kd.C (Kd.int .u8) w A0 l0.length l0) (hc0 : l0.length ≤ c0) (h : laws_FnFixCanonical.f k l0 = some r) :
    Calls Tryd.prog 8 #[.slice A0 l0.length c0] w fun e w' => e = .returned (.bool r) ∧ Below w.heap.size w w' := by
  have hu26 := Tryd.underlying26
  have HR0 := Aside0.mk hr0
  have HC0 := Aside0.mk hc0
  clear hr0 hc0
  have HB := Aside0.mk (Below.refl w.heap.size w)
  have HTB := Aside0.mk htb_
  clear htb_
  have H : (if (l0.length : Int) > 1048576 then (some true) else ((spec_DrawParseFix.f k l0).bind fun t323 => ((impl_ParseFix.f k t323).bind fun bt324 => ((spec_ParseFix.f k t323).bind fun bt331 => (if ((!(bt324.1 == bt331.1) || (!(bt324.2.1 == bt331.2.1) || (!(bt324.2.2.1 == bt331.2.2.1)))) || (!(bt324.2.2.2.1 == bt331.2.2.2.1) || (!(bt324.2.2.2.2.1 == bt331.2.2.2.2.1)))) = true then (laws_FnFixCanonical.j0 k t323 bt324.2.2.2.2.2 true bt324.1 bt324.2.1 bt324.2.2.1 bt324.2.2.2.1 bt324.2.2.2.2.1) else (laws_FnFixCanonical.j0 k t323 bt324.2.2.2.2.2 (bt324.2.2.2.2.2 != bt331.2.2.2.2.2) bt324.1 bt324.2.1 bt324.2.2.1 bt324.2.2.2.1 bt324.2.2.2.2.1)))))) = some r := h
  clear h
  by_cases c2 : (l0.length : Int) > 1048576
  · rw [if_pos c2] at H
    have c2b0 : decide (1048576 < (l0.length : Int)) = true := decide_eq_true c2
    have c2b1 : decide (1048576 < l0.length) = true := decide_eq_true (by omega)
    clear c2
    obtain rfl := Option.some.inj H
    go_enter Tryd.func8, Tryd.ntmps8
    go_wp2
    go_ret
    exact ⟨by first | rfl | (simp [errW_none, errW_some] <;> rfl) | (simp [*, errW_none, errW_some] <;> rfl), by repeat (first | (with_reducible first | exact HB.out | apply below_alloc | apply pw_below_drewN | apply below_drew1) | exact HB.out)⟩
  · rw [if_neg c2] at H
    have c2b0 : decide (1048576 < (l0.length : Int)) = false := decide_eq_false c2
    have c2b1 : decide (1048576 < l0.length) = false := decide_eq_false (by omega)
    clear c2
    replace H := Option.bind_eq_some_iff.mp H
    obtain ⟨t323, A30, H⟩ := H
    replace H : ((impl_ParseFix.f k t323).bind fun bt324 => ((spec_ParseFix.f k t323).bind fun bt331 => (if ((!(bt324.1 == bt331.1) || (!(bt324.2.1 == bt331.2.1) || (!(bt324.2.2.1 == bt331.2.2.1)))) || (!(bt324.2.2.2.1 == bt331.2.2.2.1) || (!(bt324.2.2.2.2.1 == bt331.2.2.2.2.1)))) = true then (laws_FnFixCanonical.j0 k t323 bt324.2.2.2.2.2 true bt324.1 bt324.2.1 bt324.2.2.1 bt324.2.2.2.1 bt324.2.2.2.2.1) else (laws_FnFixCanonical.j0 k t323 bt324.2.2.2.2.2 (bt324.2.2.2.2.2 != bt331.2.2.2.2.2) bt324.1 bt324.2.1 bt324.2.2.1 bt324.2.2.2.1 bt324.2.2.2.2.1)))) = some r := H
    have A3 := Aside0.mk A30
    clear A30
    replace H := Option.bind_eq_some_iff.mp H
    obtain ⟨⟨t324, t325, t326, t327, t328, t329⟩, A40, H⟩ := H
    replace H : ((spec_ParseFix.f k t323).bind fun bt331 => (if ((!(t324 == bt331.1) || (!(t325 == bt331.2.1) || (!(t326 == bt331.2.2.1)))) || (!(t327 == bt331.2.2.2.1) || (!(t328 == bt331.2.2.2.2.1)))) = true then (laws_FnFixCanonical.j0 k t323 t329 true t324 t325 t326 t327 t328) else (laws_FnFixCanonical.j0 k t323 t329 (t329 != bt331.2.2.2.2.2) t324 t325 t326 t327 t328))) = some r := H
    have A4 := Aside0.mk A40
    clear A40
    replace H := Option.bind_eq_some_iff.mp H
    obtain ⟨⟨t331, t332, t333, t334, t335, t336⟩, A50, H⟩ := H
    replace H : (if ((!(t324 == t331) || (!(t325 == t332) || (!(t326 == t333)))) || (!(t327 == t334) || (!(t328 == t335)))) = true then (laws_FnFixCanonical.j0 k t323 t329 true t324 t325 t326 t327 t328) else (laws_FnFixCanonical.j0 k t323 t329 (t329 != t336) t324 t325 t326 t327 t328)) = some r := H
    have A5 := Aside0.mk A50
    clear A50
    have HC6 := Aside0.mk H
    clear H
    go_enter Tryd.func8, Tryd.ntmps8
    go_upto_region 6 with (first | ((with_reducible refine gate_callee (f := 23) rfl ?_); refine goesL_ (some 12) rfl rfl Tryd.func23 (by kernel_rfl) rfl #[.slice A0 l0.length c0] rfl (by (try simp only [List.map_toArray, List.map_cons, List.map_nil]); first | done | rfl | (simp only [List.length_drop, List.length_take]; rfl)) ?_; (with_reducible refine (spec_DrawParseFix.calls k _ _ l0 t323 _ ?side1 ?side2 A3.out).mono ?_); (case side1 => repeat (first | exact HR0.out | (with_reducible refine Kd.C_alloc ?_ _) | (with_reducible refine Kd.C_drewN ?_ _) | (with_reducible refine Kd.C_drew ?_))); (case side2 => exact HC0.out); rintro e w7 ⟨rfl, hb⟩; refine ⟨_, rfl, ?_⟩; have n0_ := Aside0.mk (below_step (by repeat (first | (with_reducible first | exact HB.out | apply below_alloc | apply pw_below_drewN | apply below_drew1) | exact HB.out)) hb); clear HB; have HB := n0_; clear n0_; (try clear hb); (try clear hb2); (try clear hk); (try clear hi)) | ((with_reducible refine gate_callee (f := 20) rfl ?_); refine goesL_ (some 15) rfl rfl Tryd.func20 (by kernel_rfl) rfl #[.string t323] rfl (by (try simp only [List.map_toArray, List.map_cons, List.map_nil]); first | done | rfl | (simp only [List.length_drop, List.length_take]; rfl)) ?_; (with_reducible refine (impl_ParseFix.calls k t323 t324 t325 t326 t327 t328 t329 _ (Tc.keep HTB.out (by repeat (first | (with_reducible first | exact HB.out | apply below_alloc | apply pw_below_drewN | apply below_drew1) | exact HB.out))) A4.out).mono ?_); rintro e w8 ⟨rfl, hb⟩; refine ⟨_, rfl, ?_⟩; have n0_ := Aside0.mk (below_step (by repeat (first | (with_reducible first | exact HB.out | apply below_alloc | apply pw_below_drewN | apply below_drew1) | exact HB.out)) hb); clear HB; have HB := n0_; clear n0_; (try clear hb); (try clear hb2); (try clear hk); (try clear hi)) | ((with_reducible refine gate_dst (N := 4) rfl ?_); refine box_event ?hg (N := 4) ?hd (cs := #[.int .i64 0, .int .i64 0, .int .i64 0, .int .i64 0, .int .i64 0]) (t := 26) ?hr ?_; (case hd => rfl); (case hg => rfl); (case hr => first | (go_simp; done) | (go_simp; rfl)); intro gb330 hg w9 hbox hb; have n0_ := Aside0.mk (below_step (by repeat (first | (with_reducible first | exact HB.out | apply below_alloc | apply pw_below_drewN | apply below_drew1) | exact HB.out)) hb); have n1_ := Aside0.mk (hbox); have n2_ := Aside0.mk ((by rw [hg]; exact (below_size (by repeat (first | (with_reducible first | exact HB.out | apply below_alloc | apply pw_below_drewN | apply below_drew1) | exact HB.out))) : w.heap.size ≤ gb330)); have n3_ := Aside0.mk ((by rw [hg]; exact (below_size (by repeat (first | (with_reducible first | exact HB.out | apply below_alloc | apply pw_below_drewN | apply below_drew1) | exact HB.out))) : w.heap.size ≤ gb330)); clear HB; have HB := n0_; have BK330 := n1_; have GW330 := n2_; have GE330 := n3_; clear n0_ n1_ n2_ n3_; clear hb hbox hg; have hcz10_0 : w9.cell? ⟨gb330, 0, none⟩ = some (.int .i64 0) := (blk_cell BK330.out 0).trans rfl; have hcz10_1 : w9.cell? ⟨gb330, 1, none⟩ = some (.int .i64 0) := (blk_cell BK330.out 1).trans rfl; have hcz10_2 : w9.cell? ⟨gb330, 2, none⟩ = some (.int .i64 0) := (blk_cell BK330.out 2).trans rfl; have hcz10_3 : w9.cell? ⟨gb330, 3, none⟩ = some (.int .i64 0) := (blk_cell BK330.out 3).trans rfl; have hcz10_4 : w9.cell? ⟨gb330, 4, none⟩ = some (.int .i64 0) := (blk_cell BK330.out 4).trans rfl; have hfz10_0 := blk_frozen BK330.out 0; have hfz10_1 := blk_frozen BK330.out 1; have hfz10_2 := blk_frozen BK330.out 2; have hfz10_3 := blk_frozen BK330.out 3; have hfz10_4 := blk_frozen BK330.out 4) | ((with_reducible refine gate_callee (f := 21) rfl ?_); refine goesL_ (some 20) rfl rfl Tryd.func21 (by kernel_rfl) rfl #[.string t323] rfl (by (try simp only [List.map_toArray, List.map_cons, List.map_nil]); first | done | rfl | (simp only [List.length_drop, List.length_take]; rfl)) ?_; (with_reducible refine (spec_ParseFix.calls k t323 t331 t332 t333 t334 t335 t336 _ A5.out).mono ?_); rintro e w11 ⟨rfl, hb⟩; refine ⟨_, rfl, ?_⟩; have n0_ := Aside0.mk (blk_below (g := gb330) (o := .cells #[.int .i64 t324, .int .i64 t325, .int .i64 t326, .int .i64 t327, .int .i64 t328] 26 (0, 0)) (by (with_reducible repeat (first | refine blk_drewN ?_ _ | refine blk_drew ?_ | refine blk_alloc ?_ _)); refine blk_put (cs := #[.int .i64 t324, .int .i64 t325, .int .i64 t326, .int .i64 t327, .int .i64 0]) ?_ 4 _ rfl; (with_reducible repeat (first | refine blk_drewN ?_ _ | refine blk_drew ?_ | refine blk_alloc ?_ _)); refine blk_put (cs := #[.int .i64 t324, .int .i64 t325, .int .i64 t326, .int .i64 0, .int .i64 0]) ?_ 3 _ rfl; (with_reducible repeat (first | refine blk_drewN ?_ _ | refine blk_drew ?_ | refine blk_alloc ?_ _)); refine blk_put (cs := #[.int .i64 t324, .int .i64 t325, .int .i64 0, .int .i64 0, .int .i64 0]) ?_ 2 _ rfl; (with_reducible repeat (first | refine blk_drewN ?_ _ | refine blk_drew ?_ | refine blk_alloc ?_ _)); refine blk_put (cs := #[.int .i64 t324, .int .i64 0, .int .i64 0, .int .i64 0, .int .i64 0]) ?_ 1 _ rfl; (with_reducible repeat (first | refine blk_drewN ?_ _ | refine blk_drew ?_ | refine blk_alloc ?_ _)); refine blk_put (cs := #[.int .i64 0, .int .i64 0, .int .i64 0, .int .i64 0, .int .i64 0]) ?_ 0 _ rfl; (with_reducible repeat (first | refine blk_drewN ?_ _ | refine blk_drew ?_ | refine blk_alloc ?_ _)); exact BK330.out) hb); have n1_ := Aside0.mk (below_step (by repeat (first | (with_reducible first | exact HB.out | apply below_alloc | apply pw_below_drewN | apply below_drew1 | refine below_set ?_ GE330.out) | exact HB.out)) hb); clear BK330; clear HB; have BK330 := n0_; have HB := n1_; clear n0_ n1_; (try clear hb); (try clear hb2); (try clear hk); (try clear hi)) | ((with_reducible refine gate_dst (N := 6) rfl ?_); refine box_event ?hg (N := 6) ?hd (cs := #[.int .i64 0, .int .i64 0, .int .i64 0, .int .i64 0, .int .i64 0]) (t := 26) ?hr ?_; (case hd => rfl); (case hg => rfl); (case hr => first | (go_simp; done) | (go_simp; rfl)); intro gb337 hg w12 hbox hb; have n0_ := Aside0.mk (blk_below (g := gb330) (o := .cells #[.int .i64 t324, .int .i64 t325, .int .i64 t326, .int .i64 t327, .int .i64 t328] 26 (0, 0)) (by (with_reducible repeat (first | refine blk_drewN ?_ _ | refine blk_drew ?_ | refine blk_alloc ?_ _)); exact BK330.out) hb); have n1_ := Aside0.mk (below_step (by repeat (first | (with_reducible first | exact HB.out | apply below_alloc | apply pw_below_drewN | apply below_drew1 | refine below_set ?_ GE330.out) | exact HB.out)) hb); have n2_ := Aside0.mk (hbox); have n3_ := Aside0.mk ((by rw [hg]; exact (below_size (by repeat (first | (with_reducible first | exact HB.out | apply below_alloc | apply pw_below_drewN | apply below_drew1 | refine below_set ?_ GE330.out) | exact HB.out))) : w.heap.size ≤ gb337)); have n4_ := Aside0.mk ((by rw [hg]; exact (below_size (by repeat (first | (with_reducible first | exact HB.out | apply below_alloc | apply pw_below_drewN | apply below_drew1 | refine below_set ?_ GE330.out) | exact HB.out))) : w.heap.size ≤ gb337)); have n5_ := Aside0.mk ((by rw [hg]; exact Nat.ne_of_lt (blk_lt (g := gb330) (o := .cells #[.int .i64 t324, .int .i64 t325, .int .i64 t326, .int .i64 t327, .int .i64 t328] 26 (0, 0)) (by (with_reducible repeat (first | refine blk_drewN ?_ _ | refine blk_drew ?_ | refine blk_alloc ?_ _)); exact BK330.out)) : gb330 ≠ gb337)); have n6_ := Aside0.mk ((by rw [hg]; exact Nat.ne_of_gt (blk_lt (g := gb330) (o := .cells #[.int .i64 t324, .int .i64 t325, .int .i64 t326, .int .i64 t327, .int .i64 t328] 26 (0, 0)) (by (with_reducible repeat (first | refine blk_drewN ?_ _ | refine blk_drew ?_ | refine blk_alloc ?_ _)); exact BK330.out)) : gb337 ≠ gb330)); clear BK330; clear HB; have BK330 := n0_; have HB := n1_; have BK337 := n2_; have GW337 := n3_; have GE337 := n4_; have NB330_337 := n5_; have NB337_330 := n6_; clear n0_ n1_ n2_ n3_ n4_ n5_ n6_; clear hb hbox hg; have hnb13 := NB337_330.out; have hnc13 := NB330_337.out; have hcz14_0 : w12.cell? ⟨gb337, 0, none⟩ = some (.int .i64 0) := (blk_cell BK337.out 0).trans rfl; have hcz14_1 : w12.cell? ⟨gb337, 1, none⟩ = some (.int .i64 0) := (blk_cell BK337.out 1).trans rfl; have hcz14_2 : w12.cell? ⟨gb337, 2, none⟩ = some (.int .i64 0) := (blk_cell BK337.out 2).trans rfl; have hcz14_3 : w12.cell? ⟨gb337, 3, none⟩ = some (.int .i64 0) := (blk_cell BK337.out 3).trans rfl; have hcz14_4 : w12.cell? ⟨gb337, 4, none⟩ = some (.int .i64 0) := (blk_cell BK337.out 4).trans rfl; have hfz14_0 := blk_frozen BK337.out 0; have hfz14_1 := blk_frozen BK337.out 1; have hfz14_2 := blk_frozen BK337.out 2; have hfz14_3 := blk_frozen BK337.out 3; have hfz14_4 := blk_frozen BK337.out 4))
    (try simp only [Act.put, List.setIfInBounds_toArray, List.set_cons_zero, List.set_cons_succ])
    go_cut [30] (fun v30 wc => ∃ (kq : Nat) (x30_5 : Bool), v30 = .bool x30_5 ∧ Aside0 (laws_FnFixCanonical.j0 kq t323 t329 x30_5 t324 t325 t326 t327 t328 = some r) ∧ Aside0 (kq ≤ k) ∧ Aside0 (wc.heap[gb330]? = some (.cells #[.int .i64 t324, .int .i64 t325, .int .i64 t326, .int .i64 t327, .int .i64 t328] 26 (0, 0))) ∧ Aside0 (wc.heap[gb337]? = some (.cells #[.int .i64 t331, .int .i64 t332, .int .i64 t333, .int .i64 t334, .int .i64 t335] 26 (0, 0))) ∧ Aside0 (Below w.heap.size w wc))
    case first =>
      have H := HC6.out
      clear HC6
      by_cases c15 : ((!(t324 == t331) || (!(t325 == t332) || (!(t326 == t333)))) || (!(t327 == t334) || (!(t328 == t335)))) = true
      · rw [if_pos c15] at H
        have c15b0 : ((!(t324 == t331) || (!(t325 == t332) || (!(t326 == t333)))) || (!(t327 == t334) || (!(t328 == t335)))) = true := c15
        clear c15
        (first | rw [c15b0] | (simp only [i64_w, i32_w]; rw [c15b0]) | skip)
        have H' := Aside0.mk H
        clear H
        have hnb16 := NB330_337.out
        have hnc16 := NB337_330.out
        have hcz17_0 : w12.cell? ⟨gb330, 0, none⟩ = some (.int .i64 t324) := (blk_cell BK330.out 0).trans rfl
        have hcz17_1 : w12.cell? ⟨gb330, 1, none⟩ = some (.int .i64 t325) := (blk_cell BK330.out 1).trans rfl
        have hcz17_2 : w12.cell? ⟨gb330, 2, none⟩ = some (.int .i64 t326) := (blk_cell BK330.out 2).trans rfl
        have hcz17_3 : w12.cell? ⟨gb330, 3, none⟩ = some (.int .i64 t327) := (blk_cell BK330.out 3).trans rfl
        have hcz17_4 : w12.cell? ⟨gb330, 4, none⟩ = some (.int .i64 t328) := (blk_cell BK330.out 4).trans rfl
        have hfz17_0 := blk_frozen BK330.out 0
        have hfz17_1 := blk_frozen BK330.out 1
        have hfz17_2 := blk_frozen BK330.out 2
        have hfz17_3 := blk_frozen BK330.out 3
        have hfz17_4 := blk_frozen BK330.out 4
        have hcz18_0 : w12.cell? ⟨gb337, 0, none⟩ = some (.int .i64 0) := (blk_cell BK337.out 0).trans rfl
        have hcz18_1 : w12.cell? ⟨gb337, 1, none⟩ = some (.int .i64 0) := (blk_cell BK337.out 1).trans rfl
        have hcz18_2 : w12.cell? ⟨gb337, 2, none⟩ = some (.int .i64 0) := (blk_cell BK337.out 2).trans rfl
        have hcz18_3 : w12.cell? ⟨gb337, 3, none⟩ = some (.int .i64 0) := (blk_cell BK337.out 3).trans rfl
        have hcz18_4 : w12.cell? ⟨gb337, 4, none⟩ = some (.int .i64 0) := (blk_cell BK337.out 4).trans rfl
        have hfz18_0 := blk_frozen BK337.out 0
        have hfz18_1 := blk_frozen BK337.out 1
        have hfz18_2 := blk_frozen BK337.out 2
        have hfz18_3 := blk_frozen BK337.out 3
        have hfz18_4 := blk_frozen BK337.out 4
        go_wp2
        go_meet
        case rel => exact ⟨_, (true), (by first | rfl | (simp; done) | (simp [*]; done)), H', ⟨by first | omega | exact Nat.le_refl _⟩, ⟨by (with_reducible repeat (first | refine blk_drewN ?_ _ | refine blk_drew ?_ | refine blk_alloc ?_ _)); refine blk_far ?_ NB330_337.out _; (with_reducible repeat (first | refine blk_drewN ?_ _ | refine blk_drew ?_ | refine blk_alloc ?_ _)); refine blk_far ?_ NB330_337.out _; (with_reducible repeat (first | refine blk_drewN ?_ _ | refine blk_drew ?_ | refine blk_alloc ?_ _)); refine blk_far ?_ NB330_337.out _; (with_reducible repeat (first | refine blk_drewN ?_ _ | refine blk_drew ?_ | refine blk_alloc ?_ _)); refine blk_far ?_ NB330_337.out _; (with_reducible repeat (first | refine blk_drewN ?_ _ | refine blk_drew ?_ | refine blk_alloc ?_ _)); refine blk_far ?_ NB330_337.out _; (with_reducible repeat (first | refine blk_drewN ?_ _ | refine blk_drew ?_ | refine blk_alloc ?_ _)); exact BK330.out⟩, ⟨by (with_reducible repeat (first | refine blk_drewN ?_ _ | refine blk_drew ?_ | refine blk_alloc ?_ _)); refine blk_put (cs := #[.int .i64 t331, .int .i64 t332, .int .i64 t333, .int .i64 t334, .int .i64 0]) ?_ 4 _ rfl; (with_reducible repeat (first | refine blk_drewN ?_ _ | refine blk_drew ?_ | refine blk_alloc ?_ _)); refine blk_put (cs := #[.int .i64 t331, .int .i64 t332, .int .i64 t333, .int .i64 0, .int .i64 0]) ?_ 3 _ rfl; (with_reducible repeat (first | refine blk_drewN ?_ _ | refine blk_drew ?_ | refine blk_alloc ?_ _)); refine blk_put (cs := #[.int .i64 t331, .int .i64 t332, .int .i64 0, .int .i64 0, .int .i64 0]) ?_ 2 _ rfl; (with_reducible repeat (first | refine blk_drewN ?_ _ | refine blk_drew ?_ | refine blk_alloc ?_ _)); refine blk_put (cs := #[.int .i64 t331, .int .i64 0, .int .i64 0, .int .i64 0, .int .i64 0]) ?_ 1 _ rfl; (with_reducible repeat (first | refine blk_drewN ?_ _ | refine blk_drew ?_ | refine blk_alloc ?_ _)); refine blk_put (cs := #[.int .i64 0, .int .i64 0, .int .i64 0, .int .i64 0, .int .i64 0]) ?_ 0 _ rfl; (with_reducible repeat (first | refine blk_drewN ?_ _ | refine blk_drew ?_ | refine blk_alloc ?_ _)); exact BK337.out⟩, ⟨by repeat (first | (with_reducible first | exact HB.out | apply below_alloc | apply pw_below_drewN | apply below_drew1 | refine below_set ?_ GE330.out | refine below_set ?_ GE337.out) | exact HB.out)⟩⟩
      · rw [if_neg c15] at H
        have c15b0 : ((!(t324 == t331) || (!(t325 == t332) || (!(t326 == t333)))) || (!(t327 == t334) || (!(t328 == t335)))) = false := by simpa using c15
        clear c15
        (first | rw [c15b0] | (simp only [i64_w, i32_w]; rw [c15b0]) | skip)
        have H' := Aside0.mk H
        clear H
        have hnb19 := NB330_337.out
        have hnc19 := NB337_330.out
        have hcz20_0 : w12.cell? ⟨gb330, 0, none⟩ = some (.int .i64 t324) := (blk_cell BK330.out 0).trans rfl
        have hcz20_1 : w12.cell? ⟨gb330, 1, none⟩ = some (.int .i64 t325) := (blk_cell BK330.out 1).trans rfl
        have hcz20_2 : w12.cell? ⟨gb330, 2, none⟩ = some (.int .i64 t326) := (blk_cell BK330.out 2).trans rfl
        have hcz20_3 : w12.cell? ⟨gb330, 3, none⟩ = some (.int .i64 t327) := (blk_cell BK330.out 3).trans rfl
        have hcz20_4 : w12.cell? ⟨gb330, 4, none⟩ = some (.int .i64 t328) := (blk_cell BK330.out 4).trans rfl
        have hfz20_0 := blk_frozen BK330.out 0
        have hfz20_1 := blk_frozen BK330.out 1
        have hfz20_2 := blk_frozen BK330.out 2
        have hfz20_3 := blk_frozen BK330.out 3
        have hfz20_4 := blk_frozen BK330.out 4
        have hcz21_0 : w12.cell? ⟨gb337, 0, none⟩ = some (.int .i64 0) := (blk_cell BK337.out 0).trans rfl
        have hcz21_1 : w12.cell? ⟨gb337, 1, none⟩ = some (.int .i64 0) := (blk_cell BK337.out 1).trans rfl
        have hcz21_2 : w12.cell? ⟨gb337, 2, none⟩ = some (.int .i64 0) := (blk_cell BK337.out 2).trans rfl
        have hcz21_3 : w12.cell? ⟨gb337, 3, none⟩ = some (.int .i64 0) := (blk_cell BK337.out 3).trans rfl
        have hcz21_4 : w12.cell? ⟨gb337, 4, none⟩ = some (.int .i64 0) := (blk_cell BK337.out 4).trans rfl
        have hfz21_0 := blk_frozen BK337.out 0
        have hfz21_1 := blk_frozen BK337.out 1
        have hfz21_2 := blk_frozen BK337.out 2
        have hfz21_3 := blk_frozen BK337.out 3
        have hfz21_4 := blk_frozen BK337.out 4
        go_wp2
        go_meet
        case rel => exact ⟨_, ((t329 != t336)), (by first | rfl | (simp; done) | (simp [*]; done)), H', ⟨by first | omega | exact Nat.le_refl _⟩, ⟨by (with_reducible repeat (first | refine blk_drewN ?_ _ | refine blk_drew ?_ | refine blk_alloc ?_ _)); refine blk_far ?_ NB330_337.out _; (with_reducible repeat (first | refine blk_drewN ?_ _ | refine blk_drew ?_ | refine blk_alloc ?_ _)); refine blk_far ?_ NB330_337.out _; (with_reducible repeat (first | refine blk_drewN ?_ _ | refine blk_drew ?_ | refine blk_alloc ?_ _)); refine blk_far ?_ NB330_337.out _; (with_reducible repeat (first | refine blk_drewN ?_ _ | refine blk_drew ?_ | refine blk_alloc ?_ _)); refine blk_far ?_ NB330_337.out _; (with_reducible repeat (first | refine blk_drewN ?_ _ | refine blk_drew ?_ | refine blk_alloc ?_ _)); refine blk_far ?_ NB330_337.out _; (with_reducible repeat (first | refine blk_drewN ?_ _ | refine blk_drew ?_ | refine blk_alloc ?_ _)); exact BK330.out⟩, ⟨by (with_reducible repeat (first | refine blk_drewN ?_ _ | refine blk_drew ?_ | refine blk_alloc ?_ _)); refine blk_put (cs := #[.int .i64 t331, .int .i64 t332, .int .i64 t333, .int .i64 t334, .int .i64 0]) ?_ 4 _ rfl; (with_reducible repeat (first | refine blk_drewN ?_ _ | refine blk_drew ?_ | refine blk_alloc ?_ _)); refine blk_put (cs := #[.int .i64 t331, .int .i64 t332, .int .i64 t333, .int .i64 0, .int .i64 0]) ?_ 3 _ rfl; (with_reducible repeat (first | refine blk_drewN ?_ _ | refine blk_drew ?_ | refine blk_alloc ?_ _)); refine blk_put (cs := #[.int .i64 t331, .int .i64 t332, .int .i64 0, .int .i64 0, .int .i64 0]) ?_ 2 _ rfl; (with_reducible repeat (first | refine blk_drewN ?_ _ | refine blk_drew ?_ | refine blk_alloc ?_ _)); refine blk_put (cs := #[.int .i64 t331, .int .i64 0, .int .i64 0, .int .i64 0, .int .i64 0]) ?_ 1 _ rfl; (with_reducible repeat (first | refine blk_drewN ?_ _ | refine blk_drew ?_ | refine blk_alloc ?_ _)); refine blk_put (cs := #[.int .i64 0, .int .i64 0, .int .i64 0, .int .i64 0, .int .i64 0]) ?_ 0 _ rfl; (with_reducible repeat (first | refine blk_drewN ?_ _ | refine blk_drew ?_ | refine blk_alloc ?_ _)); exact BK337.out⟩, ⟨by repeat (first | (with_reducible first | exact HB.out | apply below_alloc | apply pw_below_drewN | apply below_drew1 | refine below_set ?_ GE330.out | refine below_set ?_ GE337.out) | exact HB.out)⟩⟩
    case rest =>
      clear HC6
      try clear c1
      try clear c2
      try clear c2b0
      try clear c2b1
      try clear p2
      try clear c8
      try clear c13
      try clear c15
      try clear c15b0
      try clear c16
      try clear c19
      try clear c20
      try clear c21
      try clear hcz10_0
      try clear hcz10_1
      try clear hcz10_2
      try clear hcz10_3
      try clear hcz10_4
      try clear hcz14_0
      try clear hcz14_1
      try clear hcz14_2
      try clear hcz14_3
      try clear hcz14_4
      try clear hcz17_0
      try clear hcz17_1
      try clear hcz17_2
      try clear hcz17_3
      try clear hcz17_4
      try clear hcz18_0
      try clear hcz18_1
      try clear hcz18_2
      try clear hcz18_3
      try clear hcz18_4
      try clear hcz20_0
      try clear hcz20_1
      try clear hcz20_2
      try clear hcz20_3
      try clear hcz20_4
      try clear hcz21_0
      try clear hcz21_1
      try clear hcz21_2
      try clear hcz21_3
      try clear hcz21_4
      try clear hfz10_0
      try clear hfz10_1
      try clear hfz10_2
      try clear hfz10_3
      try clear hfz10_4
      try clear hfz14_0
      try clear hfz14_1
      try clear hfz14_2
      try clear hfz14_3
      try clear hfz14_4
      try clear hfz17_0
      try clear hfz17_1
      try clear hfz17_2
      try clear hfz17_3
      try clear hfz17_4
      try clear hfz18_0
      try clear hfz18_1
      try clear hfz18_2
      try clear hfz18_3
      try clear hfz18_4
      try clear hfz20_0
      try clear hfz20_1
      try clear hfz20_2
      try clear hfz20_3
      try clear hfz20_4
      try clear hfz21_0
      try clear hfz21_1
      try clear hfz21_2
      try clear hfz21_3
      try clear hfz21_4
      obtain ⟨kq, x30_5, rfl, HA, HJ5, BK330, BK337, HB⟩ := hcut
      cases kq with
      | zero => exact absurd HA.out (by simp [laws_FnFixCanonical.j0])
      | succ kj5 =>
        have H := HA.out
        clear HA
        simp only [laws_FnFixCanonical.j0] at H
        by_cases c22 : x30_5 = true
        · subst c22
          have H1 : (some false) = some r := by rw [if_pos rfl] at H; exact H
          clear H
          have H := H1
          clear H1
          obtain rfl := Option.some.inj H
          go_wp2
          go_ret
          exact ⟨by first | rfl | (simp [errW_none, errW_some] <;> rfl) | (simp [*, errW_none, errW_some] <;> rfl), by repeat (first | (with_reducible first | exact HB.out | apply below_alloc | apply pw_below_drewN | apply below_drew1 | refine below_set ?_ GE330.out | refine below_set ?_ GE337.out) | exact HB.out)⟩
        · replace c22 := Bool.eq_false_iff.mpr c22
          subst c22
          have H1 : (if t329 = true then ((impl_FormatFix.f kj5 t324 t325 t326 t327 t328).bind fun t338 => (if t338.toList = t323.toList then ((impl_ValidFix.f kj5 t324 t325 t326 t327 t328).bind fun t339 => (some t339)) else (some false))) else (some true)) = some r := by rw [if_neg (show ¬ (false = true) by decide)] at H; exact H
          clear H
          have H := H1
          clear H1
          by_cases c23 : t329 = true
          · subst c23
            have H1 : ((impl_FormatFix.f kj5 t324 t325 t326 t327 t328).bind fun t338 => (if t338.toList = t323.toList then ((impl_ValidFix.f kj5 t324 t325 t326 t327 t328).bind fun t339 => (some t339)) else (some false))) = some r := by rw [if_pos rfl] at H; exact H
            clear H
            have H := H1
            clear H1
            replace H := Option.bind_eq_some_iff.mp H
            obtain ⟨t338, A240, H⟩ := H
            replace H : (if t338.toList = t323.toList then ((impl_ValidFix.f kj5 t324 t325 t326 t327 t328).bind fun t339 => (some t339)) else (some false)) = some r := H
            have A24 := Aside0.mk A240
            clear A240
            by_cases c25 : t338.toList = t323.toList
            · rw [if_pos c25] at H
              have c25b0 : (t338.toList == t323.toList) = true := beq_iff_eq.mpr c25
              have c25b1 : (t338.toList != t323.toList) = false := bne_eq_false_iff_eq.mpr c25
              clear c25
              replace H := Option.bind_eq_some_iff.mp H
              obtain ⟨t339, A260, H⟩ := H
              replace H : (some t339) = some r := H
              have A26 := Aside0.mk A260
              clear A260
              obtain rfl := Option.some.inj H
              have hnb27 := NB330_337.out
              have hnc27 := NB337_330.out
              have hcz28_0 : wc.cell? ⟨gb330, 0, none⟩ = some (.int .i64 t324) := (blk_cell BK330.out 0).trans rfl
              have hcz28_1 : wc.cell? ⟨gb330, 1, none⟩ = some (.int .i64 t325) := (blk_cell BK330.out 1).trans rfl
              have hcz28_2 : wc.cell? ⟨gb330, 2, none⟩ = some (.int .i64 t326) := (blk_cell BK330.out 2).trans rfl
              have hcz28_3 : wc.cell? ⟨gb330, 3, none⟩ = some (.int .i64 t327) := (blk_cell BK330.out 3).trans rfl
              have hcz28_4 : wc.cell? ⟨gb330, 4, none⟩ = some (.int .i64 t328) := (blk_cell BK330.out 4).trans rfl
              have hfz28_0 := blk_frozen BK330.out 0
              have hfz28_1 := blk_frozen BK330.out 1
              have hfz28_2 := blk_frozen BK330.out 2
              have hfz28_3 := blk_frozen BK330.out 3
              have hfz28_4 := blk_frozen BK330.out 4
              go_wp2_with (first | (go_at_call 12; (with_reducible refine (impl_FormatFix.calls kj5 t324 t325 t326 t327 t328 t338 _ (Tc.keep HTB.out (by repeat (first | (with_reducible first | exact HB.out | apply below_alloc | apply pw_below_drewN | apply below_drew1 | refine below_set ?_ GE330.out | refine below_set ?_ GE337.out) | exact HB.out))) A24.out).mono ?_); rintro e w29 ⟨rfl, hb⟩; have n0_ := Aside0.mk (blk_below (g := gb330) (o := .cells #[.int .i64 t324, .int .i64 t325, .int .i64 t326, .int .i64 t327, .int .i64 t328] 26 (0, 0)) (by (with_reducible repeat (first | refine blk_drewN ?_ _ | refine blk_drew ?_ | refine blk_alloc ?_ _)); exact BK330.out) hb); have n1_ := Aside0.mk (blk_below (g := gb337) (o := .cells #[.int .i64 t331, .int .i64 t332, .int .i64 t333, .int .i64 t334, .int .i64 t335] 26 (0, 0)) (by (with_reducible repeat (first | refine blk_drewN ?_ _ | refine blk_drew ?_ | refine blk_alloc ?_ _)); exact BK337.out) hb); have n2_ := Aside0.mk (below_step (by repeat (first | (with_reducible first | exact HB.out | apply below_alloc | apply pw_below_drewN | apply below_drew1 | refine below_set ?_ GE330.out | refine below_set ?_ GE337.out) | exact HB.out)) hb); clear BK330; clear BK337; clear HB; have BK330 := n0_; have BK337 := n1_; have HB := n2_; clear n0_ n1_ n2_; (try clear hb); (try clear hb2); (try clear hk); (try clear hi); have hcz30_0 : w29.cell? ⟨gb330, 0, none⟩ = some (.int .i64 t324) := (blk_cell BK330.out 0).trans rfl; have hcz30_1 : w29.cell? ⟨gb330, 1, none⟩ = some (.int .i64 t325) := (blk_cell BK330.out 1).trans rfl; have hcz30_2 : w29.cell? ⟨gb330, 2, none⟩ = some (.int .i64 t326) := (blk_cell BK330.out 2).trans rfl; have hcz30_3 : w29.cell? ⟨gb330, 3, none⟩ = some (.int .i64 t327) := (blk_cell BK330.out 3).trans rfl; have hcz30_4 : w29.cell? ⟨gb330, 4, none⟩ = some (.int .i64 t328) := (blk_cell BK330.out 4).trans rfl; have hfz30_0 := blk_frozen BK330.out 0; have hfz30_1 := blk_frozen BK330.out 1; have hfz30_2 := blk_frozen BK330.out 2; have hfz30_3 := blk_frozen BK330.out 3; have hfz30_4 := blk_frozen BK330.out 4) | (go_at_call 10; (with_reducible refine (impl_ValidFix.calls kj5 t324 t325 t326 t327 t328 t339 _ A26.out).mono ?_); rintro e w31 ⟨rfl, hb⟩; have n0_ := Aside0.mk (blk_below (g := gb330) (o := .cells #[.int .i64 t324, .int .i64 t325, .int .i64 t326, .int .i64 t327, .int .i64 t328] 26 (0, 0)) (by (with_reducible repeat (first | refine blk_drewN ?_ _ | refine blk_drew ?_ | refine blk_alloc ?_ _)); exact BK330.out) hb); have n1_ := Aside0.mk (blk_below (g := gb337) (o := .cells #[.int .i64 t331, .int .i64 t332, .int .i64 t333, .int .i64 t334, .int .i64 t335] 26 (0, 0)) (by (with_reducible repeat (first | refine blk_drewN ?_ _ | refine blk_drew ?_ | refine blk_alloc ?_ _)); exact BK337.out) hb); have n2_ := Aside0.mk (below_step (by repeat (first | (with_reducible first | exact HB.out | apply below_alloc | apply pw_below_drewN | apply below_drew1 | refine below_set ?_ GE330.out | refine below_set ?_ GE337.out) | exact HB.out)) hb); clear BK330; clear BK337; clear HB; have BK330 := n0_; have BK337 := n1_; have HB := n2_; clear n0_ n1_ n2_; (try clear hb); (try clear hb2); (try clear hk); (try clear hi)))
              go_ret
              exact ⟨by first | rfl | (simp [errW_none, errW_some] <;> rfl) | (simp [*, errW_none, errW_some] <;> rfl), by repeat (first | (with_reducible first | exact HB.out | apply below_alloc | apply pw_below_drewN | apply below_drew1 | refine below_set ?_ GE330.out | refine below_set ?_ GE337.out) | exact HB.out)⟩
            · rw [if_neg c25] at H
              have c25b0 : (t338.toList == t323.toList) = false := beq_eq_false_iff_ne.mpr c25
              have c25b1 : (t338.toList != t323.toList) = true := bne_iff_ne.mpr c25
              obtain rfl := Option.some.inj H
              have hnb32 := NB330_337.out
              have hnc32 := NB337_330.out
              have hcz33_0 : wc.cell? ⟨gb330, 0, none⟩ = some (.int .i64 t324) := (blk_cell BK330.out 0).trans rfl
              have hcz33_1 : wc.cell? ⟨gb330, 1, none⟩ = some (.int .i64 t325) := (blk_cell BK330.out 1).trans rfl
              have hcz33_2 : wc.cell? ⟨gb330, 2, none⟩ = some (.int .i64 t326) := (blk_cell BK330.out 2).trans rfl
              have hcz33_3 : wc.cell? ⟨gb330, 3, none⟩ = some (.int .i64 t327) := (blk_cell BK330.out 3).trans rfl
              have hcz33_4 : wc.cell? ⟨gb330, 4, none⟩ = some (.int .i64 t328) := (blk_cell BK330.out 4).trans rfl
              have hfz33_0 := blk_frozen BK330.out 0
              have hfz33_1 := blk_frozen BK330.out 1
              have hfz33_2 := blk_frozen BK330.out 2
              have hfz33_3 := blk_frozen BK330.out 3
              have hfz33_4 := blk_frozen BK330.out 4
              go_wp2_with (first | (go_at_call 12; (with_reducible refine (impl_FormatFix.calls kj5 t324 t325 t326 t327 t328 t338 _ (Tc.keep HTB.out (by repeat (first | (with_reducible first | exact HB.out | apply below_alloc | apply pw_below_drewN | apply below_drew1 | refine below_set ?_ GE330.out | refine below_set ?_ GE337.out) | exact HB.out))) A24.out).mono ?_); rintro e w34 ⟨rfl, hb⟩; have n0_ := Aside0.mk (blk_below (g := gb330) (o := .cells #[.int .i64 t324, .int .i64 t325, .int .i64 t326, .int .i64 t327, .int .i64 t328] 26 (0, 0)) (by (with_reducible repeat (first | refine blk_drewN ?_ _ | refine blk_drew ?_ | refine blk_alloc ?_ _)); exact BK330.out) hb); have n1_ := Aside0.mk (blk_below (g := gb337) (o := .cells #[.int .i64 t331, .int .i64 t332, .int .i64 t333, .int .i64 t334, .int .i64 t335] 26 (0, 0)) (by (with_reducible repeat (first | refine blk_drewN ?_ _ | refine blk_drew ?_ | refine blk_alloc ?_ _)); exact BK337.out) hb); have n2_ := Aside0.mk (below_step (by repeat (first | (with_reducible first | exact HB.out | apply below_alloc | apply pw_below_drewN | apply below_drew1 | refine below_set ?_ GE330.out | refine below_set ?_ GE337.out) | exact HB.out)) hb); clear BK330; clear BK337; clear HB; have BK330 := n0_; have BK337 := n1_; have HB := n2_; clear n0_ n1_ n2_; (try clear hb); (try clear hb2); (try clear hk); (try clear hi)))
              go_ret
              exact ⟨by first | rfl | (simp [errW_none, errW_some] <;> rfl) | (simp [*, errW_none, errW_some] <;> rfl), by repeat (first | (with_reducible first | exact HB.out | apply below_alloc | apply pw_below_drewN | apply below_drew1 | refine below_set ?_ GE330.out | refine below_set ?_ GE337.out) | exact HB.out)⟩
          · replace c23 := Bool.eq_false_iff.mpr c23
            subst c23
            have H1 : (some true) = some r := by rw [if_neg (show ¬ (false = true) by decide)] at H; exact H
            clear H
            have H := H1
            clear H1
            obtain rfl := Option.some.inj H
            go_wp2
            go_ret
            exact ⟨by first | rfl | (simp [errW_none, errW_some] <;> rfl) | (simp [*, errW_none, errW_some] <;> rfl), by repeat (first | (with_reducible first | exact HB.out | apply below_alloc | apply pw_below_drewN | apply below_drew1 | refine below_set ?_ GE330.out | refine below_set ?_ GE337.out) | exact HB.out)⟩

end Go.Proofs.YtdggcfpimjdckaaDoor.PFnFixCanonical
