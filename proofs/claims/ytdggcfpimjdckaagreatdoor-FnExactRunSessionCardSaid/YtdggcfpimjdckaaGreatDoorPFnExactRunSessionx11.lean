-- Out of a print of the walks, turned by a program of this session; Lean checks it.
import Derived.Lib.SliceRun
import Derived.Laws.IdiomCopy
import Derived.Laws.CopyRow
import Derived.Laws.CopyOwn
import Derived.Lib.Overlaps
import Derived.Shelf.Spec.SlicesInsert
import Derived.Test.YtdggcfpimjdckaaGreatDoorPFnExactRunSessionx0
import Derived.Test.YtdggcfpimjdckaaGreatDoorPFnExactRunSessionx5
import Derived.Test.YtdggcfpimjdckaaGreatDoorPFnExactRunSessionx6
import Derived.Test.YtdggcfpimjdckaaGreatDoorPFnExactRunSessionx10
namespace Go.Proofs.YtdggcfpimjdckaaGreatDoor.PFnExactRunSession
open Go.RowKit Go.Proofs.YtdggcfpimjdckaaGreatDoorW.PrintWords Go.Proofs.YtdggcfpimjdckaaGreatDoorW.PrintLast Go.Proofs.YtdggcfpimjdckaaGreatDoorW.PrintMore
attribute [local go_sem] max2_int min2_int max_two min_two max_three min_three max_four min_four   -- for this text's walks alone
set_option linter.unusedVariables false
set_option linter.unusedSimpArgs false

private theorem z1_ {p : Prop} (h : p := by (with_reducible repeat (first | refine blk_drewN ?_ _ | refine blk_drew ?_ | refine blk_alloc ?_ _)); refine blk_put (cs := #[.int .i64 a1, .int .i64 (wrap64 (t290 - 1)), .int .i64 0]) ?_ 2 _ rfl; (with_reducible repeat (first | refine blk_drewN ?_ _ | refine blk_drew ?_ | refine blk_alloc ?_ _)); refine blk_put (cs := #[.int .i64 a1, .int .i64 0, .int .i64 0]) ?_ 1 _ rfl; (with_reducible repeat (first | refine blk_drewN ?_ _ | refine blk_drew ?_ | refine blk_alloc ?_ _)); refine blk_put (cs := #[.int .i64 0, .int .i64 0, .int .i64 0]) ?_ 0 _ rfl; (with_reducible repeat (first | refine blk_drewN ?_ _ | refine blk_drew ?_ | refine blk_alloc ?_ _)); exact BK297.out) : p := h
private theorem z2_ {p : Prop} (h : p := by (with_reducible repeat (first | apply Kd.R_alloc | apply Kd.R_drewN | apply Kd.R_drew)); exact Kd.R_mono (Kd.R_far (p := ⟨gb297, 2, none⟩) (Kd.R_far (p := ⟨gb297, 1, none⟩) (Kd.R_far (p := ⟨gb297, 0, none⟩) (Kd.R_mono HO296.out (fun k_ hk => (⟨hk, hk.2⟩ : _ ∧ k_ ≠ gb297))) (fun _ hk => hk.2) (.int .i64 a1)) (fun _ hk => hk.2) (.int .i64 (wrap64 (t290 - 1)))) (fun _ hk => hk.2) (.int .i64 a2)) (fun _ hk => hk.1.2)) : p := h
private theorem z3_ {p : Prop} (h : p := by (try simp only [List.map_toArray, List.map_cons, List.map_nil]); first | done | (rw [show y299.length = t294.length from (Kd.R_reads' HO_12.out).1.symm] <;> rfl) | rfl | (simp only [List.length_drop, List.length_take]; rfl)) : p := h
private theorem z4_ {p : Prop} (h : p := by repeat (first | exact (Kd.C_below HR0.out HB.out) | (with_reducible refine Kd.C_alloc ?_ _) | (with_reducible refine Kd.C_drewN ?_ _) | (with_reducible refine Kd.C_drew ?_))) : p := h
private theorem z5_ {p : Prop} (h : p := by repeat (first | exact (Kd.R_reads' HO_12.out).2.2 | (with_reducible refine Kd.C_alloc ?_ _) | (with_reducible refine Kd.C_drewN ?_ _) | (with_reducible refine Kd.C_drew ?_))) : p := h
private theorem z6_ {p : Prop} (h : p := by repeat (first | exact (Kd.R_reads' HO306.out).2.2 | (with_reducible refine Kd.C_alloc ?_ _) | (with_reducible refine Kd.C_drewN ?_ _) | (with_reducible refine Kd.C_drew ?_))) : p := h
private theorem z7_ {p : Prop} (h : p := by rw [hg]; exact (below_size (by repeat (first | (with_reducible first | exact HB.out | apply below_alloc | apply pw_below_drewN | apply below_drew1) | exact HB.out)))) : p := h
private theorem z8_ {p : Prop} (h : p := by repeat (first | (with_reducible first | exact HB.out | apply below_alloc | apply pw_below_drewN | apply below_drew1 | refine below_set ?_ GE297.out) | exact HB.out)) : p := h
private theorem z9_ {p : Prop} (h : p := by first | exact Kd.R_nil _ _ _ _ _ | exact Kd.N_nil _ _ _ _ _ | exact Kd.V_nil _ _ _ _ _ | exact Kd.Q_nil _ _ _ _ _ | exact Kd.S_nil _ _ _ _ _) : p := h
private theorem z10_ {p : Prop} (h : p := by (try simp only [List.map_toArray, List.map_cons, List.map_nil]); first | done | rfl | (simp only [List.length_drop, List.length_take]; rfl)) : p := h
private theorem z11_ {p : Prop} (h : p := by (with_reducible repeat (first | apply Kd.R_alloc | apply Kd.R_drewN | apply Kd.R_drew)); exact Kd.R_mono HO_12.out (fun _ hk => trivial)) : p := h
private theorem z12_ {p : Prop} (h : p := by repeat (first | (with_reducible first | exact HB.out | apply below_alloc | apply pw_below_drewN | apply below_drew1) | exact HB.out)) : p := h
private theorem z13_ {p : Prop} (h : p := by first | (rw [add_block]; exact hn298_0) | (show (Addr.add _ _).block ≠ _; rw [add_block]; exact hn298_0) | exact hn298_0) : p := h
private theorem z14_ {p : Prop} (h : p := by first | (rw [add_block]; exact hn298_1) | (show (Addr.add _ _).block ≠ _; rw [add_block]; exact hn298_1) | exact hn298_1) : p := h
private theorem z15_ {p : Prop} (h : p := by first | (rw [add_block]; exact hn298_2) | (show (Addr.add _ _).block ≠ _; rw [add_block]; exact hn298_2) | exact hn298_2) : p := h
private theorem z16_ {p : Prop} (h : p := by (with_reducible repeat (first | refine blk_drewN ?_ _ | refine blk_drew ?_ | refine blk_alloc ?_ _)); exact BK297.out) : p := h
private theorem z17_ {p : Prop} (h : p := by (with_reducible repeat (first | apply Kd.R_alloc | apply Kd.R_drewN | apply Kd.R_drew)); exact HO_12.out) : p := h
private theorem z18_ {p : Prop} (h : p := by (with_reducible repeat (first | apply Kd.R_alloc | apply Kd.R_drewN | apply Kd.R_drew)); exact HO303.out) : p := h
private theorem z19_ {p : Prop} (h : p := by (with_reducible repeat (first | apply Kd.R_alloc | apply Kd.R_drewN | apply Kd.R_drew)); exact HO306.out) : p := h
private theorem z20_ {p : Prop} (h : p := by first | rfl | (simp [errW_none, errW_some] <;> rfl) | (simp [*, errW_none, errW_some] <;> rfl)) : p := h
private theorem z21_ {p : Prop} (h : p := by have := World.block_lt_of_cell? _ _ hx298_0; first | rwa [add_block] at this | exact this) : p := h
private theorem z22_ {p : Prop} (h : p := by rw [hw]; exact below_set (below_set (below_set (HB.out) GB25.out) GB25.out) GB25.out) : p := h
private theorem z23_ {p : Prop} (h : p := by simp only [List.length_singleton, Nat.min_def]; split <;> omega) : p := h
private theorem z24_ {p : Prop} (h : p := by first | (with_reducible assumption) | assumption) : p := h
private theorem z25_ {p : Prop} (h : p := by first | rfl | (simp; done) | (simp [*]; done)) : p := h
private theorem z26_ {p : Prop} (h : p := by first | omega | exact Nat.le_refl _) : p := h
private theorem z27_ {p : Prop} (h : p := by simp [Act.eval, Act.put]) : p := h
/-! ### impl_ValidBuckets: function 76 -/
theorem within_q (a lo hi : Int) (b : Bool) (h : decide (lo ≤ a ∧ a ≤ hi) = b) (w : World) (n : Nat) : Calls Tryz.prog 49 #[.int .i64 a, .int .i64 lo, .int .i64 hi] (w.drewN n) fun e w'' => e = .returned (.bool b) ∧ ∃ m, w'' = w.drewN m := by
  refine Calls.quiet_of ((impl_within.calls a lo hi b _ ?_).mono fun _ _ ⟨e, ⟨m, e2⟩⟩ => ⟨e, m, e2⟩)
  unfold impl_within.f
  subst h
  split <;> rename_i h <;> simp <;> omega
theorem isTime_q (a : Int) (b : Bool) (h : decide (0 ≤ a ∧ a ≤ 3786479999) = b) (w : World) (n : Nat) : Calls Tryz.prog 48 #[.int .i64 a] (w.drewN n) fun e w'' => e = .returned (.bool b) ∧ ∃ m, w'' = w.drewN m := by
  refine Calls.quiet_of ((impl_isTime.calls a b _ ?_).mono fun _ _ ⟨e, ⟨m, e2⟩⟩ => ⟨e, m, e2⟩)
  unfold impl_isTime.f impl_within.f
  subst h
  split <;> rename_i h <;> simp <;> omega
def impl_ValidBuckets.f (l0 : List S74) : Option Bool := if l0.length ≤ 4000000 then some (okB l0) else none
set_option maxHeartbeats 8000000 in
set_option maxRecDepth 100000 in
theorem impl_ValidBuckets.calls (A0 : Option Addr) (c0 : Nat) (l0 : List (S74)) (r : Bool) (w : World) (hr0 : Kd.C k74 w A0 l0.length l0) (hc0 : l0.length ≤ c0) (h : impl_ValidBuckets.f l0 = some r) :
    Calls Tryz.prog 76 #[.slice A0 l0.length c0] w fun e w' => e = .returned (.bool r) ∧ Below w.heap.size w w' := by
  unfold impl_ValidBuckets.f at h
  by_cases hl : l0.length ≤ 4000000
  rotate_left
  · rw [if_neg hl] at h; cases h
  rw [if_pos hl] at h
  have HR := Aside0.mk hr0
  have H : Aside0 (stB l0 0 = r) := ⟨Option.some.inj h⟩
  clear h hr0 hc0
  have hu := Tryz.underlying74
  go_enter Tryz.func76, Tryz.ntmps76
  go_wp2
  go_loopw [7] (fun v7 w' => ∃ x : Int, v7 = .int .i64 x ∧ Aside0 (0 ≤ x ∧ x ≤ l0.length ∧ stB l0 x.toNat = r) ∧ Aside0 (Below w.heap.size w w')) (fun v _ => l0.length - (intOf v).toNat)
  case atStart => exact ⟨0, rfl, ⟨Int.le_refl _, by omega, H.out⟩, ⟨Below.refl _ _⟩⟩
  case round =>
    obtain ⟨x, rfl, HS, HB⟩ := hrel
    have hx0 := HS.out.1
    have hx1 := HS.out.2.1
    by_cases hlt : x < (l0.length : Int)
    · obtain ⟨ad, e, c0, c1, c2⟩ := at_T74 HR.out x hx0 hlt
      cases e
      have d0 := below_cell HB.out c0
      have d1 := below_cell HB.out c1
      have d2 := below_cell HB.out c2
      clear c0 c1 c2
      have hn : x.toNat < l0.length := by omega
      have en : ((x.toNat : Nat) : Int) = x := Int.toNat_of_nonneg hx0
      have SN0 := Aside0.mk (stB_n0 hn)
      have SN1 := Aside0.mk (stB_n1 hn)
      have SY := Aside0.mk (stB_y hn)
      rw [en] at SN0 SY
      have EN := Aside0.mk en
      clear en hn
      have HX := Aside0.mk (And.intro hx0 hlt)
      obtain ⟨j, hj⟩ : ∃ j : Int, x - 1 = j := ⟨_, rfl⟩
      have ej : IntKind.i64.wrap (x - 1) = j := (IntWalk.i64_in _ (by omega)).trans hj
      have HJ := Aside0.mk hj
      clear hj
      have hp := eq_true hx0
      have hq := eq_true hlt
      generalize hy : rd_T74 l0 x = y at *
      have HY := Aside0.mk hy
      clear hy
      by_cases q0 : decide (0 ≤ y.f0 ∧ y.f0 ≤ 99) = true
      rotate_left
      · have q0 := Aside0.mk (Bool.eq_false_iff.2 q0)
        obtain rfl : false = r := by rw [← HS.out.2.2, SN0.out (by unfold inB; simp only [q0.out, Bool.false_and])]
        go_wp2_with fail
        go_quiet ((first | (go_at_call 49; with_reducible exact within_q _ _ _ _ q0.out _ _) | (go_at_call 49; with_reducible exact within_q _ _ _ _ q1.out _ _) | (go_at_call 48; with_reducible exact isTime_q _ _ q2.out _ _)))
        go_wp2
        go_ret
        exact ⟨rfl, (z12_)⟩
      have q0 := Aside0.mk q0
      by_cases q1 : decide (0 ≤ y.f1 ∧ y.f1 ≤ 5) = true
      rotate_left
      · have q1 := Aside0.mk (Bool.eq_false_iff.2 q1)
        obtain rfl : false = r := by rw [← HS.out.2.2, SN0.out (by unfold inB; simp only [q0.out, q1.out, Bool.false_and, Bool.true_and])]
        go_wp2_with fail
        go_quiet ((first | (go_at_call 49; with_reducible exact within_q _ _ _ _ q0.out _ _) | (go_at_call 49; with_reducible exact within_q _ _ _ _ q1.out _ _) | (go_at_call 48; with_reducible exact isTime_q _ _ q2.out _ _)))
        go_wp2
        go_ret
        exact ⟨rfl, (z12_)⟩
      have q1 := Aside0.mk q1
      by_cases q2 : decide (0 ≤ y.f2 ∧ y.f2 ≤ 3786479999) = true
      rotate_left
      · have q2 := Aside0.mk (Bool.eq_false_iff.2 q2)
        obtain rfl : false = r := by rw [← HS.out.2.2, SN0.out (by unfold inB; simp only [q0.out, q1.out, q2.out, Bool.true_and])]
        go_wp2_with fail
        go_quiet ((first | (go_at_call 49; with_reducible exact within_q _ _ _ _ q0.out _ _) | (go_at_call 49; with_reducible exact within_q _ _ _ _ q1.out _ _) | (go_at_call 48; with_reducible exact isTime_q _ _ q2.out _ _)))
        go_wp2
        go_ret
        exact ⟨rfl, (z12_)⟩
      have q2 := Aside0.mk q2
      by_cases cz : 0 < x
      · have cb := decide_eq_true cz
        obtain ⟨ad', e, c0, c1, c2⟩ := at_T74 HR.out j (by have := HJ.out; omega) (by have := HJ.out; omega)
        cases e
        have f0 := fun o => below_cell (below_alloc HB.out o) c0
        clear c1 c2
        have hp' := eq_true (show 0 ≤ j by have := HJ.out; omega)
        have hq' := eq_true (show j < (l0.length : Int) by have := HJ.out; omega)
        clear c0
        have ho : ordB l0 x.toNat = decide ((rd_T74 l0 j).f0 < y.f0) := by
          unfold ordB
          rw [EN.out, HY.out, HJ.out, decide_eq_false (show ¬ x.toNat = 0 by omega), Bool.false_or]
        generalize rd_T74 l0 j = z at *
        by_cases cd : y.f0 ≤ z.f0
        · have HO := Aside0.mk (ho.trans (decide_eq_false (by omega)))
          have cdb := decide_eq_true cd
          clear ho cz cd
          obtain rfl : false = r := by rw [← HS.out.2.2, SN1.out HO.out]
          go_wp2_with fail
          go_quiet ((first | (go_at_call 49; with_reducible exact within_q _ _ _ _ q0.out _ _) | (go_at_call 49; with_reducible exact within_q _ _ _ _ q1.out _ _) | (go_at_call 48; with_reducible exact isTime_q _ _ q2.out _ _)))
          go_wp2
          go_ret
          exact ⟨rfl, (z12_)⟩
        · have HO := Aside0.mk (ho.trans (decide_eq_true (by omega)))
          have cdb := decide_eq_false cd
          clear ho cz cd
          go_wp2_with fail
          go_quiet ((first | (go_at_call 49; with_reducible exact within_q _ _ _ _ q0.out _ _) | (go_at_call 49; with_reducible exact within_q _ _ _ _ q1.out _ _) | (go_at_call 48; with_reducible exact isTime_q _ _ q2.out _ _)))
          go_wp2
          go_roundw
          case rel => exact ⟨x + 1, rfl, ⟨by have := HX.out; omega, by have := HX.out; omega, by rw [← HS.out.2.2, SY.out (by unfold inB; rw [q0.out, q1.out, q2.out]; rfl) (by exact HO.out), show (x + 1).toNat = x.toNat + 1 by have := HX.out; omega]⟩, ⟨(z12_)⟩⟩
          case measure => have := HX.out; simp [intOf]; omega
      · have cb := decide_eq_false cz
        have HO : Aside0 (ordB l0 x.toNat = true) := ⟨by unfold ordB; rw [show x.toNat = 0 by omega]; rfl⟩
        clear cz
        go_wp2_with fail
        go_quiet ((first | (go_at_call 49; with_reducible exact within_q _ _ _ _ q0.out _ _) | (go_at_call 49; with_reducible exact within_q _ _ _ _ q1.out _ _) | (go_at_call 48; with_reducible exact isTime_q _ _ q2.out _ _)))
        go_wp2
        go_roundw
        case rel => exact ⟨x + 1, rfl, ⟨by have := HX.out; omega, by have := HX.out; omega, by rw [← HS.out.2.2, SY.out (by unfold inB; rw [q0.out, q1.out, q2.out]; rfl) (HO.out), show (x + 1).toNat = x.toNat + 1 by have := HX.out; omega]⟩, ⟨(z12_)⟩⟩
        case measure => have := HX.out; simp [intOf]; omega
    · have hr := HS.out.2.2
      rw [show x.toNat = l0.length by omega, stB_end] at hr
      subst hr
      go_wp2
      go_ret
      exact ⟨rfl, HB.out⟩

/-! ### impl_Bucket_tokensAt: function 95 -/
def impl_Bucket_tokensAt.f (a0_0 : Int) (a0_1 : Int) (a0_2 : Int) (a1 : Int) : Option (Int) := some (mn (wrap64 (a0_1 + (wrap64 ((mx (wrap64 (a1 - a0_2)) 0) / 8)))) 5)
set_option maxHeartbeats 8000000 in
set_option maxRecDepth 100000 in
theorem impl_Bucket_tokensAt.calls (a0_0 : Int) (a0_1 : Int) (a0_2 : Int) (a1 : Int) (r : Int) (w : World) (h : impl_Bucket_tokensAt.f a0_0 a0_1 a0_2 a1 = some r) :
    Calls Tryz.prog 95 #[.agg #[.int .i64 a0_0, .int .i64 a0_1, .int .i64 a0_2], .int .i64 a1] w fun e w' => e = .returned (.int .i64 r) ∧ Below w.heap.size w w' := by
  have hu74 := Tryz.underlying74
  have HB := Aside0.mk (Below.refl w.heap.size w)
  have H : (some (mn (wrap64 (a0_1 + (wrap64 ((mx (wrap64 (a1 - a0_2)) 0) / 8)))) 5)) = some r := h
  clear h
  obtain ⟨ji3, hji3⟩ : ∃ j_ : Int, (mx (wrap64 (a1 - a0_2)) 0) = j_ := ⟨_, rfl⟩
  replace H : (some (mn (wrap64 (a0_1 + (wrap64 ((ji3) / 8)))) 5)) = some r := by first | (rw [hji3] at H; exact H) | (simp only [hji3] at H ⊢; exact H)
  (try (have hji3l : 0 ≤ ji3 := by (rw [← hji3]; unfold mx; (repeat' split) <;> omega)))
  (try (have hji3m : 0 ≤ ji3 := by omega))
  have hji3_ : (if (wrap64 (a1 - a0_2)) < 0 then 0 else (wrap64 (a1 - a0_2))) = ji3 := hji3
  obtain ⟨ji4, hji4⟩ : ∃ j_ : Int, (mn (wrap64 (a0_1 + (wrap64 ((ji3) / 8)))) 5) = j_ := ⟨_, rfl⟩
  replace H : (some ji4) = some r := by first | (rw [hji4] at H; exact H) | (simp only [hji4] at H ⊢; exact H)
  have hji4_ : (if 5 < (wrap64 (a0_1 + (wrap64 ((ji3) / 8)))) then 5 else (wrap64 (a0_1 + (wrap64 ((ji3) / 8))))) = ji4 := hji4
  obtain rfl := Option.some.inj H
  rw [← Int.tdiv_eq_ediv_of_nonneg (b := 8) hji3m] at hji4 hji4_
  go_enter Tryz.func95, Tryz.ntmps95
  go_wp2_with (first | ((with_reducible refine gate_dst (N := 2) rfl ?_); refine box_event ?hg (N := 2) ?hd (cs := #[.int .i64 a0_0, .int .i64 a0_1, .int .i64 a0_2]) (t := 74) ?hr ?_; (case hd => rfl); (case hg => rfl); (case hr => first | (go_simp; done) | (go_simp; rfl)); intro gb274 hg w5 hbox hb; have n0_ := Aside0.mk (below_step (z12_) hb); have n1_ := Aside0.mk (hbox); have n2_ := Aside0.mk ((z7_ : w.heap.size ≤ gb274)); have n3_ := Aside0.mk ((z7_ : w.heap.size ≤ gb274)); clear HB; have HB := n0_; have BK274 := n1_; have GW274 := n2_; have GE274 := n3_; clear n0_ n1_ n2_ n3_; clear hb hbox hg; have hcz6_0 : w5.cell? ⟨gb274, 0, none⟩ = some (.int .i64 a0_0) := (blk_cell BK274.out 0).trans rfl; have hcz6_1 : w5.cell? ⟨gb274, 1, none⟩ = some (.int .i64 a0_1) := (blk_cell BK274.out 1).trans rfl; have hcz6_2 : w5.cell? ⟨gb274, 2, none⟩ = some (.int .i64 a0_2) := (blk_cell BK274.out 2).trans rfl; have hfz6_0 := blk_frozen BK274.out 0; have hfz6_1 := blk_frozen BK274.out 1; have hfz6_2 := blk_frozen BK274.out 2))
  go_ret
  exact ⟨by first | rfl | (simp [errW_none, errW_some] <;> rfl) | (simp only [← hji3, ← hji4]; first | rfl | (simp [errW_none, errW_some] <;> rfl)) | (simp [*, errW_none, errW_some] <;> rfl), by repeat (first | (with_reducible first | exact HB.out | apply below_alloc | apply pw_below_drewN | apply below_drew1 | refine below_set ?_ GE274.out) | exact HB.out)⟩

/-! ### impl_TokensAt: function 72 -/
def impl_TokensAt.j0 : Nat → List (S74) → Int → Int → Bool → Option (Int)
  | 0, _, _, _, _ => none
  | k + 1, x0, x1, x2, x16 => if x16 = true then (some (-1)) else ((impl_bucketPlace.f k x0 x1).bind fun bt277 => (if bt277.2 = true then (if 0 ≤ bt277.1 then (if bt277.1 < (x0.length : Int) then ((impl_Bucket_tokensAt.f ((rd_T74 x0 bt277.1).f0) ((rd_T74 x0 bt277.1).f1) ((rd_T74 x0 bt277.1).f2) x2).bind fun t280 => (some t280)) else (none)) else (none)) else (some 5)))
def impl_TokensAt.f (k : Nat) (l0 : List (S74)) (a1 : Int) (a2 : Int) : Option (Int) := (impl_ValidBuckets.f l0).bind fun t275 => (if t275 = true then ((impl_isTime.f a2).bind fun t276 => (impl_TokensAt.j0 k l0 a1 a2 (!t276))) else (impl_TokensAt.j0 k l0 a1 a2 true))
theorem impl_TokensAt.mono_l : ∀ k, (∀ y0 y1 y2 y3, LeO (impl_TokensAt.j0 k y0 y1 y2 y3) (impl_TokensAt.j0 (k + 1) y0 y1 y2 y3))
  | 0 => fun _ _ _ _ r h => by simp [impl_TokensAt.j0] at h
  | k + 1 => by
    have ih0 := impl_TokensAt.mono_l k
    · intro y0 y1 y2 y3
      unfold impl_TokensAt.j0
      repeat' first
      | (with_reducible exact ih0 _ _ _ _)
      | (with_reducible exact impl_bucketPlace.mono _ _ _)
      | (with_reducible exact LeO.refl _)
      | (with_reducible exact LeO.none _)
      | (with_reducible refine LeO.ite ?_ ?_)
      | (with_reducible refine LeO.bind ?_ (fun _ => ?_))
      | exact ih0 _ _ _ _
      | exact impl_bucketPlace.mono _ _ _
      | exact LeO.none _
      | refine LeO.ite ?_ ?_
      | refine LeO.bind ?_ (fun _ => ?_)
theorem impl_TokensAt.mono : ∀ a0 a1 a2 k, LeO (impl_TokensAt.f k a0 a1 a2) (impl_TokensAt.f (k + 1) a0 a1 a2) := by
  intro a0 a1 a2 k
  have ih0 := impl_TokensAt.mono_l k
  unfold impl_TokensAt.f
  repeat' first
      | (with_reducible exact ih0 _ _ _ _)
      | (with_reducible exact impl_bucketPlace.mono _ _ _)
      | (with_reducible exact LeO.refl _)
      | (with_reducible exact LeO.none _)
      | (with_reducible refine LeO.ite ?_ ?_)
      | (with_reducible refine LeO.bind ?_ (fun _ => ?_))
      | exact ih0 _ _ _ _
      | exact impl_bucketPlace.mono _ _ _
      | exact LeO.none _
      | refine LeO.ite ?_ ?_
      | refine LeO.bind ?_ (fun _ => ?_)
set_option maxHeartbeats 8000000 in
set_option maxRecDepth 100000 in
theorem impl_TokensAt.calls (k : Nat) (A0 : Option Addr) (c0 : Nat) (l0 : List (S74)) (a1 : Int) (a2 : Int) (r : Int) (w : World) (hr0 : Kd.C k74 w A0 l0.length l0) (hc0 : l0.length ≤ c0) (h : impl_TokensAt.f k l0 a1 a2 = some r) :
    Calls Tryz.prog 72 #[.slice A0 l0.length c0, .int .i64 a1, .int .i64 a2] w fun e w' => e = .returned (.int .i64 r) ∧ Below w.heap.size w w' := by
  have hu74 := Tryz.underlying74
  have HR0 := Aside0.mk hr0
  have HC0 := Aside0.mk hc0
  clear hr0 hc0
  have HB := Aside0.mk (Below.refl w.heap.size w)
  have H : ((impl_ValidBuckets.f l0).bind fun t275 => (if t275 = true then ((impl_isTime.f a2).bind fun t276 => (impl_TokensAt.j0 k l0 a1 a2 (!t276))) else (impl_TokensAt.j0 k l0 a1 a2 true))) = some r := h
  clear h
  have HC4 := Aside0.mk H
  clear H
  go_enter Tryz.func72, Tryz.ntmps72
  go_upto_region 1 with (fail)
  go_cut [16] (fun v16 wc => ∃ (kq : Nat) (x16_3 : Bool), v16 = .bool x16_3 ∧ Aside0 (impl_TokensAt.j0 kq l0 a1 a2 x16_3 = some r) ∧ Aside0 (kq ≤ k) ∧ Aside0 (Below w.heap.size w wc))
  case first =>
    have H := HC4.out
    clear HC4
    replace H := Option.bind_eq_some_iff.mp H
    obtain ⟨t275, A50, H⟩ := H
    replace H : (if t275 = true then ((impl_isTime.f a2).bind fun t276 => (impl_TokensAt.j0 k l0 a1 a2 (!t276))) else (impl_TokensAt.j0 k l0 a1 a2 true)) = some r := H
    have A5 := Aside0.mk A50
    clear A50
    by_cases c6 : t275 = true
    · subst c6
      have H1 : ((impl_isTime.f a2).bind fun t276 => (impl_TokensAt.j0 k l0 a1 a2 (!t276))) = some r := by rw [if_pos rfl] at H; exact H
      clear H
      have H := H1
      clear H1
      replace H := Option.bind_eq_some_iff.mp H
      obtain ⟨t276, A70, H⟩ := H
      replace H : (impl_TokensAt.j0 k l0 a1 a2 (!t276)) = some r := H
      have A7 := Aside0.mk A70
      clear A70
      have H' := Aside0.mk H
      clear H
      go_wp2_with (first | ((with_reducible refine gate_callee (f := 76) rfl ?_); refine goesL_ (some 10) rfl rfl Tryz.func76 (by kernel_rfl) rfl #[.slice A0 l0.length c0] rfl (z10_) ?_; (with_reducible refine (impl_ValidBuckets.calls _ _ l0 true _ ?side1 ?side2 A5.out).mono ?_); (case side1 => exact z4_); (case side2 => exact HC0.out); rintro e w8 ⟨rfl, hb⟩; refine ⟨_, rfl, ?_⟩; have n0_ := Aside0.mk (below_step (z12_) hb); clear HB; have HB := n0_; clear n0_; (try clear hb); (try clear hb2); (try clear hk); (try clear hi)) | (go_at_call 48; (with_reducible refine (impl_isTime.calls a2 t276 _ A7.out).mono ?_); rintro e w' ⟨rfl, ⟨nd, rfl⟩⟩))
      go_meet
      case rel => exact ⟨_, (!t276), (z25_), H', ⟨z26_⟩, ⟨z12_⟩⟩
    · replace c6 := Bool.eq_false_iff.mpr c6
      subst c6
      have H1 : (impl_TokensAt.j0 k l0 a1 a2 true) = some r := by rw [if_neg (show ¬ (false = true) by decide)] at H; exact H
      clear H
      have H := H1
      clear H1
      have H' := Aside0.mk H
      clear H
      go_wp2_with (first | ((with_reducible refine gate_callee (f := 76) rfl ?_); refine goesL_ (some 10) rfl rfl Tryz.func76 (by kernel_rfl) rfl #[.slice A0 l0.length c0] rfl (z10_) ?_; (with_reducible refine (impl_ValidBuckets.calls _ _ l0 false _ ?side1 ?side2 A5.out).mono ?_); (case side1 => exact z4_); (case side2 => exact HC0.out); rintro e w9 ⟨rfl, hb⟩; refine ⟨_, rfl, ?_⟩; have n0_ := Aside0.mk (below_step (z12_) hb); clear HB; have HB := n0_; clear n0_; (try clear hb); (try clear hb2); (try clear hk); (try clear hi)))
      go_meet
      case rel => exact ⟨_, (true), (z25_), H', ⟨z26_⟩, ⟨z12_⟩⟩
  case rest =>
    clear HC4
    try clear p2
    try clear c6
    try clear c7
    obtain ⟨kq, x16_3, rfl, HA, HJ3, HB⟩ := hcut
    cases kq with
    | zero => exact absurd HA.out (by simp [impl_TokensAt.j0])
    | succ kj3 =>
      have H := HA.out
      clear HA
      simp only [impl_TokensAt.j0] at H
      by_cases c10 : x16_3 = true
      · subst c10
        have H1 : (some (-1)) = some r := by rw [if_pos rfl] at H; exact H
        clear H
        have H := H1
        clear H1
        obtain rfl := Option.some.inj H
        go_wp2
        go_ret
        exact ⟨z20_, z12_⟩
      · replace c10 := Bool.eq_false_iff.mpr c10
        subst c10
        have H1 : ((impl_bucketPlace.f kj3 l0 a1).bind fun bt277 => (if bt277.2 = true then (if 0 ≤ bt277.1 then (if bt277.1 < (l0.length : Int) then ((impl_Bucket_tokensAt.f ((rd_T74 l0 bt277.1).f0) ((rd_T74 l0 bt277.1).f1) ((rd_T74 l0 bt277.1).f2) a2).bind fun t280 => (some t280)) else (none)) else (none)) else (some 5))) = some r := by rw [if_neg (show ¬ (false = true) by decide)] at H; exact H
        clear H
        have H := H1
        clear H1
        replace H := Option.bind_eq_some_iff.mp H
        obtain ⟨⟨t277, t278⟩, A110, H⟩ := H
        replace H : (if t278 = true then (if 0 ≤ t277 then (if t277 < (l0.length : Int) then ((impl_Bucket_tokensAt.f ((rd_T74 l0 t277).f0) ((rd_T74 l0 t277).f1) ((rd_T74 l0 t277).f2) a2).bind fun t280 => (some t280)) else (none)) else (none)) else (some 5)) = some r := H
        have A11 := Aside0.mk A110
        clear A110
        by_cases c12 : t278 = true
        · subst c12
          have H1 : (if 0 ≤ t277 then (if t277 < (l0.length : Int) then ((impl_Bucket_tokensAt.f ((rd_T74 l0 t277).f0) ((rd_T74 l0 t277).f1) ((rd_T74 l0 t277).f2) a2).bind fun t280 => (some t280)) else (none)) else (none)) = some r := by rw [if_pos rfl] at H; exact H
          clear H
          have H := H1
          clear H1
          by_cases c13 : 0 ≤ t277
          · rw [if_pos c13] at H
            have c13b0 : decide (0 ≤ t277) = true := decide_eq_true c13
            clear c13
            by_cases c14 : t277 < (l0.length : Int)
            · rw [if_pos c14] at H
              have c14b0 : decide (t277 < (l0.length : Int)) = true := decide_eq_true c14
              clear c14
              replace H := Option.bind_eq_some_iff.mp H
              obtain ⟨t280, A150, H⟩ := H
              replace H : (some t280) = some r := H
              have A15 := Aside0.mk A150
              clear A150
              obtain rfl := Option.some.inj H
              go_wp2_with (first | ((with_reducible refine gate_callee (f := 73) rfl ?_); refine goesL_ (some 20) rfl rfl Tryz.func73 (by kernel_rfl) rfl #[.slice A0 l0.length c0, .int .i64 a1] rfl (z10_) ?_; (with_reducible refine (impl_bucketPlace.calls kj3 _ _ l0 a1 t277 true _ ?side1 ?side2 A11.out).mono ?_); (case side1 => exact z4_); (case side2 => exact HC0.out); rintro e w16 ⟨rfl, hb⟩; refine ⟨_, rfl, ?_⟩; have n0_ := Aside0.mk (below_step (z12_) hb); clear HB; have HB := n0_; clear n0_; (try clear hb); (try clear hb2); (try clear hk); (try clear hi); have p279 : 0 ≤ (t277 : Int) := of_decide_eq_true (z24_); have q279 : t277 < (l0.length : Int) := of_decide_eq_true (z24_); obtain ⟨ad279, e279, hx279_0, hx279_1, hx279_2⟩ := at_T74 HR0.out t277 p279 q279; cases e279; replace hx279_0 := (HB.out.cell (World.block_lt_of_cell? w _ hx279_0)).trans hx279_0; replace hx279_1 := (HB.out.cell (World.block_lt_of_cell? w _ hx279_1)).trans hx279_1; replace hx279_2 := (HB.out.cell (World.block_lt_of_cell? w _ hx279_2)).trans hx279_2; replace p279 := eq_true p279; replace q279 := eq_true q279) | ((with_reducible refine gate_callee (f := 95) rfl ?_); refine goesL_ (some 30) rfl rfl Tryz.func95 (by kernel_rfl) rfl #[.agg #[.int .i64 ((rd_T74 l0 t277).f0), .int .i64 ((rd_T74 l0 t277).f1), .int .i64 ((rd_T74 l0 t277).f2)], .int .i64 a2] rfl (z10_) ?_; (with_reducible refine (impl_Bucket_tokensAt.calls ((rd_T74 l0 t277).f0) ((rd_T74 l0 t277).f1) ((rd_T74 l0 t277).f2) a2 t280 _ A15.out).mono ?_); rintro e w17 ⟨rfl, hb⟩; refine ⟨_, rfl, ?_⟩; have n0_ := Aside0.mk (below_step (z12_) hb); clear HB; have HB := n0_; clear n0_; (try clear hb); (try clear hb2); (try clear hk); (try clear hi)))
              go_ret
              exact ⟨z20_, z12_⟩
            · rw [if_neg c14] at H
              exact absurd H (by simp)
          · rw [if_neg c13] at H
            exact absurd H (by simp)
        · replace c12 := Bool.eq_false_iff.mpr c12
          subst c12
          have H1 : (some 5) = some r := by rw [if_neg (show ¬ (false = true) by decide)] at H; exact H
          clear H
          have H := H1
          clear H1
          obtain rfl := Option.some.inj H
          go_wp2_with (first | ((with_reducible refine gate_callee (f := 73) rfl ?_); refine goesL_ (some 20) rfl rfl Tryz.func73 (by kernel_rfl) rfl #[.slice A0 l0.length c0, .int .i64 a1] rfl (z10_) ?_; (with_reducible refine (impl_bucketPlace.calls kj3 _ _ l0 a1 t277 false _ ?side1 ?side2 A11.out).mono ?_); (case side1 => exact z4_); (case side2 => exact HC0.out); rintro e w18 ⟨rfl, hb⟩; refine ⟨_, rfl, ?_⟩; have n0_ := Aside0.mk (below_step (z12_) hb); clear HB; have HB := n0_; clear n0_; (try clear hb); (try clear hb2); (try clear hk); (try clear hi)))
          go_ret
          exact ⟨z20_, z12_⟩

/-! ### impl_Bucket_74: function 74 -/
def impl_Bucket_74.f (l0 : List (S74)) : Option ((List (S74))) := (some (([] : List (S74)) : List (S74))).bind fun y281 => (if y281.length + l0.length < 5864062014805 then (some (y281 ++ l0)) else (none))
set_option maxHeartbeats 8000000 in
set_option maxRecDepth 100000 in
theorem impl_Bucket_74.calls (A0 : Option Addr) (c0 : Nat) (l0 : List (S74)) (r : List (S74)) (w : World) (hr0 : Kd.C k74 w A0 l0.length l0) (hc0 : l0.length ≤ c0) (h : impl_Bucket_74.f l0 = some r) :
    Calls Tryz.prog 74 #[.slice A0 l0.length c0] w fun e w' => ∃ v0_ : Value, e = .returned (v0_) ∧ Kd.R k74 74 w' w.heap.size (fun _ => True) v0_ r ∧ Below w.heap.size w w' := by
  have heq_ := fun (A_ : Option Addr) (n_ : Nat) (W_ : World) => Lib.run_eql_slice_nil (P := Tryz.prog) W_ 31 74 A_ n_ c0 0 0 Tryz.underlying31
  cases A0 with
  | none =>
    obtain rfl : l0 = [] := by
      cases l0 with
      | nil => rfl
      | cons x xs =>
        obtain ⟨ad_, e_, _⟩ := at_T74 hr0 0 (by omega) (by simp)
        cases e_
    have hr_ : ([] : List S74) = r := by simpa [impl_Bucket_74.f] using h
    subst hr_
    have heqn_ := heq_ none 0
    clear heq_
    go_enter Tryz.func74, Tryz.ntmps74
    go_wp2
    go_ret
    exact ⟨_, rfl, Kd.R_nil _ _ _ _ _, Below.refl _ _⟩
  | some ad0_ =>
    have heqs_ := heq_ (some ad0_) l0.length
    clear heq_
    have HR0 := Aside0.mk hr0
    have HC0 := Aside0.mk hc0
    clear hr0 hc0
    have HB := Aside0.mk (Below.refl w.heap.size w)
    have H : ((some (([] : List (S74)) : List (S74))).bind fun y281 => (if y281.length + l0.length < 5864062014805 then (some (y281 ++ l0)) else (none))) = some r := h
    clear h
    obtain ⟨y281, hy281⟩ : ∃ y_ : List (S74), y_ = (([] : List (S74))) := ⟨_, rfl⟩
    replace H : (if y281.length + l0.length < 5864062014805 then (some (y281 ++ l0)) else (none)) = some r := by first | (rw [hy281]; with_reducible exact H) | (have H2_ := (Option.bind_some _ _).symm.trans H; rw [hy281]; with_reducible exact H2_) | (have H2_ := (Option.bind_some _ _).symm.trans H; with_reducible exact H2_) | with_reducible exact H | (rw [hy281]; exact H) | exact H
    have Ny281 := Aside0.mk hy281
    clear hy281
    by_cases c2 : y281.length + l0.length < 5864062014805
    · rw [if_pos c2] at H
      have LMc2 := Aside0.mk c2
      clear c2
      obtain ⟨y284, hy284⟩ : ∃ y_ : List (S74), y_ = (y281 ++ l0) := ⟨_, rfl⟩
      replace H : (some y284) = some r := by first | (rw [hy284]; with_reducible exact H) | (have H2_ := (Option.bind_some _ _).symm.trans H; rw [hy284]; with_reducible exact H2_) | (have H2_ := (Option.bind_some _ _).symm.trans H; with_reducible exact H2_) | with_reducible exact H | (rw [hy284]; exact H) | exact H
      have Ny284 := Aside0.mk hy284
      clear hy284
      obtain rfl := Option.some.inj H
      go_enter Tryz.func74, Tryz.ntmps74
      go_wp2_with (first | ((with_reducible refine gate_dst (N := 5) rfl ?_); refine Kd.R_lit k74 _ 74 ?hg (N := 5) ?hd (xs := ([] : List (S74))) (inner := []) (ok := fun _ => True) (okp := fun _ => True) ?hr ?hp (fun _ hk => hk) trivial (Below.refl _ _) (Nat.le_refl _) (by simp) ?_; (case hd => rfl); (case hg => rfl); (case hr => first | (go_simp; done) | (go_simp; rfl)); (case hp => exact (Reps.none _ _)); intro v282 w3 ho4 hb hg_ hnew_; clear hg_ hnew_; (first | rw [← Ny281.out] at ho4 | (simp only [Int.reduceToNat] at ho4; rw [← Ny281.out] at ho4)); have n0_ := Aside0.mk (Kd.R_lower ho4 (below_size (z12_))); have n1_ := Aside0.mk (below_step (z12_) hb); clear HB; have HO283 := n0_; have HB := n1_; clear n0_ n1_; clear hb ho4) | ((with_reducible refine gate_builtin (b := .append) (xs := #[.tmp 5, .tmp 6]) rfl ?_); at_builtin; refine Kd.R_append_rows k74 (w0 := w) w.heap.size rfl (.tmp 5) (.tmp 6) 31 74 (.agg #[(.int .i64 0), (.int .i64 0), (.int .i64 0)]) 24 rfl Tryz.underlying31 info74 rfl (by decide) (by omega) v282 y281 l0 _ _ _ (fun _ => True) (fun _ => False) rfl rfl ?aO ?aR (fun _ _ h => h) (fun _ h => h.elim) ?aF ?aB ?aS ?aL ?_; (case aR => exact z4_); (case aB => exact (z12_)); (case aF => exact (fun _ _ => trivial)); (case aO => exact (by (with_reducible repeat (first | apply Kd.R_alloc | apply Kd.R_drewN | apply Kd.R_drew)); exact HO283.out)); (case aS => exact (below_size (z12_))); (case aL => have := LMc2.out; omega); intro v285 w5 ho hb hg hat; rw [← Ny284.out] at ho; have n0_ := Aside0.mk (hb); have n1_ := Aside0.mk (ho); clear HB; clear HO283; have HB := n0_; have HO286 := n1_; clear n0_ n1_; clear ho hb hg hat))
      go_ret
      exact ⟨_, z20_, by (with_reducible repeat (first | apply Kd.R_alloc | apply Kd.R_drewN | apply Kd.R_drew)); exact HO286.out, z12_⟩
    · rw [if_neg c2] at H
      exact absurd H (by simp)

/-! ### impl_Bucket_75: function 75 -/
/-- The cells of buckets. -/
def enc37 (xs : List S74) : List Value := xs.flatMap (fun x => [.int .i64 x.f0, .int .i64 x.f1, .int .i64 x.f2])
theorem enc37_len (xs : List S74) : (enc37 xs).length = xs.length * 3 := by
  induction xs with
  | nil => rfl
  | cons x xs ih => unfold enc37 at *; simp [ih]; omega
theorem enc37_append (xs ys : List S74) : enc37 (xs ++ ys) = enc37 xs ++ enc37 ys := List.flatMap_append ..
theorem enc37_take (xs : List S74) (i : Nat) : (enc37 xs).take (i * 3) = enc37 (xs.take i) := by
  induction i generalizing xs with
  | zero => simp [enc37]
  | succ i ih =>
    cases xs with
    | nil => simp [enc37]
    | cons x xs =>
      have := ih xs
      unfold enc37 at *
      rw [show (i + 1) * 3 = i * 3 + 1 + 1 + 1 by omega]
      simp [this]
theorem enc37_drop (xs : List S74) (i : Nat) : (enc37 xs).drop (i * 3) = enc37 (xs.drop i) := by
  induction i generalizing xs with
  | zero => simp [enc37]
  | succ i ih =>
    cases xs with
    | nil => simp [enc37]
    | cons x xs =>
      have := ih xs
      unfold enc37 at *
      rw [show (i + 1) * 3 = i * 3 + 1 + 1 + 1 by omega]
      simp [this]
theorem enc37_one (xs : List S74) : ∀ v ∈ enc37 xs, v.oneCell' = true := by
  intro v hv
  unfold enc37 at hv
  rw [List.mem_flatMap] at hv
  obtain ⟨x, _, hx⟩ := hv
  simp at hx
  rcases hx with rfl | rfl | rfl <;> rfl
theorem reps_enc {w : World} {base : Nat} {ok : Nat → Prop} (xs : List S74) : ∀ inner, Reps (k74.M w base ok) k74.sz xs inner → inner = enc37 xs := by
  induction xs with
  | nil => intro inner h; exact List.eq_nil_of_length_eq_zero (by have := h.1; simpa using this)
  | cons x xs ih =>
    intro inner h
    have h0 := k74_openM (h.2 0 x rfl)
    have h1 : inner.length = (xs.length + 1) * 3 := h.1
    have h2 : Reps (k74.M w base ok) k74.sz xs (inner.drop 3) := ⟨by rw [List.length_drop, h1]; show (xs.length + 1) * 3 - 3 = xs.length * 3; omega, fun i y hy => by
      have := h.2 (i + 1) y (by simpa using hy)
      rw [List.drop_drop]
      have e : 3 + i * k74.sz = (i + 1) * k74.sz := by show 3 + i * 3 = (i + 1) * 3; omega
      rw [e]
      exact this⟩
    have h3 := ih _ h2
    rw [Nat.zero_mul, List.drop_zero] at h0
    have h0' : inner.take 3 = [.int .i64 x.f0, .int .i64 x.f1, .int .i64 x.f2] := h0
    rw [← List.take_append_drop 3 inner, h0', h3]
    rfl
theorem enc_reps {w : World} {base : Nat} {ok : Nat → Prop} (xs : List S74) : Reps (k74.M w base ok) k74.sz xs (enc37 xs) := by
  refine ⟨enc37_len xs, fun i x hx => ?_⟩
  have e : ((enc37 xs).drop (i * k74.sz)).take k74.sz = [.int .i64 x.f0, .int .i64 x.f1, .int .i64 x.f2] := by
    show ((enc37 xs).drop (i * 3)).take 3 = _
    rw [enc37_drop]
    obtain ⟨hi, rfl⟩ := List.getElem?_eq_some_iff.1 hx
    rw [List.drop_eq_getElem_cons hi]
    rfl
  rw [e]
  exact k74_mkM _ _ _ x
theorem R_open37 {w : World} {base n cap : Nat} {ok : Nat → Prop} {A : Option Addr} {xs : List S74} (h : Kd.R k74 74 w base ok (.slice A n cap) xs) (hn : 0 < n) :
    ∃ g cur, A = some ⟨g, 0, none⟩ ∧ base ≤ g ∧ ok g ∧ w.heap[g]? = some (.cells cur 74 (0, 0)) ∧ xs.length = n ∧ n ≤ cap ∧ cap ≤ maxLen ∧ cur.size = cap * 3 ∧ cur.toList.take (n * 3) = enc37 xs := by
  obtain ⟨hx, _, _⟩ := Kd.R_reads' h
  obtain ⟨hok, inner, ⟨hl, ho⟩, hr⟩ := h
  rcases ho with ⟨e, _⟩ | ⟨g, cap', cur, e, hb, hh, hnc, hcm, hcs, ht⟩
  · cases e; omega
  · cases e
    refine ⟨g, cur, rfl, hb, hok g rfl, hh, rfl, hnc, hcm, hcs, ?_⟩
    rw [← reps_enc xs inner hr]
    exact ht
theorem R_make37 {w : World} {base n cap g : Nat} {ok : Nat → Prop} {cur : Array Value} {xs : List S74} (hb : base ≤ g) (hok : ok g) (hh : w.heap[g]? = some (.cells cur 74 (0, 0))) (hx : xs.length = n) (hnc : n ≤ cap) (hcm : cap ≤ maxLen) (hcs : cur.size = cap * 3) (ht : cur.toList.take (n * 3) = enc37 xs) :
    Kd.R k74 74 w base ok (.slice (some ⟨g, 0, none⟩) n cap) xs := by
  subst hx
  refine ⟨fun k hk => ?_, enc37 xs, ⟨enc37_len xs, .inr ⟨g, cap, cur, rfl, hb, hh, hnc, hcm, hcs, ht⟩⟩, enc_reps xs⟩
  have : g = k := by simpa [Value.ownBlock] using hk
  rw [← this]; exact hok
/-- copy on a row of buckets. -/
theorem run_copy37 (w : World) (ty : TypeId) (g o dLen dCap : Nat) (a : Addr) (sLen sCap : Nat) (cur : Array Value) (xs : List S74)
    (hg : w.heap[g]? = some (.cells cur 74 (0, 0))) (hn : xs.length = Nat.min sLen dLen)
    (hsrc : ∀ j v, (enc37 xs)[j]? = some v → w.cell? (a.add j) = some v) (hfit : o + xs.length * 3 ≤ cur.size) :
    (Builtin.copy_ #[31, 31] ty #[.slice (some ⟨g, o, none⟩) dLen dCap, .slice (some a) sLen sCap]).run Tryz.prog w =
      .ok (goInt xs.length) (w.setRow g (cur.toList.take o ++ enc37 xs ++ cur.toList.drop (o + xs.length * 3)).toArray) := by
  have hl := run_loadCells_list (P := Tryz.prog) w a (enc37 xs) hsrc
  have hst := run_storeCells_at Tryz.prog g o 74 (enc37 xs) 0 cur w hg (by rw [enc37_len]; simpa using hfit) (enc37_one xs)
  obtain ⟨i0, hi0, _, hi, _⟩ := info_parts info74
  rw [enc37_len] at hl hst
  simp [Builtin.copy_, run_underlying Tryz.underlying31, Builtin.lenOf, Builtin.firstCells, sizeOf, typeInfo, hi0, hi, ← hn, hl, hst]
theorem take_cat {α : Type} {a b : List α} {n : Nat} (h : a.length = n) : (a ++ b).take n = a := by rw [← h]; simp
theorem drop_cat {α : Type} {a b : List α} {n : Nat} (h : a.length = n) : (a ++ b).drop n = b := by rw [← h]; simp
/-- What an insertion in place leaves: what stood from i on is moved up, then the new one is laid. -/
theorem shift_list (c : List Value) (l : List S74) (x : S74) (i : Nat) (hi : i < l.length) (hc : (l.length + 1) * 3 ≤ c.length) (ht : c.take (l.length * 3) = enc37 l) :
    let A1 := c.take ((i + 1) * 3) ++ enc37 (l.drop i) ++ c.drop ((i + 1) * 3 + (l.length - i) * 3)
    let A2 := A1.take (i * 3) ++ enc37 [x] ++ A1.drop (i * 3 + 3)
    A1.length = c.length ∧ A2.length = c.length ∧ A2.take ((l.length + 1) * 3) = enc37 (l.take i ++ [x] ++ l.drop i) := by
  intro A1 A2
  have hd : (enc37 (l.drop i)).length = (l.length - i) * 3 := by rw [enc37_len, List.length_drop]
  have h1 : A1.length = c.length := by
    show (c.take ((i + 1) * 3) ++ enc37 (l.drop i) ++ c.drop ((i + 1) * 3 + (l.length - i) * 3)).length = _
    rw [List.length_append, List.length_append, List.length_take, hd, List.length_drop]; omega
  have ht1 : A1.take (i * 3) = enc37 (l.take i) := by
    show (c.take ((i + 1) * 3) ++ enc37 (l.drop i) ++ c.drop ((i + 1) * 3 + (l.length - i) * 3)).take (i * 3) = _
    rw [List.append_assoc, List.take_append_of_le_length (by rw [List.length_take]; omega), List.take_take, Nat.min_eq_left (by omega), ← enc37_take, ← ht, List.take_take, Nat.min_eq_left (by omega)]
  have hd1 : A1.drop (i * 3 + 3) = enc37 (l.drop i) ++ c.drop ((i + 1) * 3 + (l.length - i) * 3) := by
    show (c.take ((i + 1) * 3) ++ enc37 (l.drop i) ++ c.drop ((i + 1) * 3 + (l.length - i) * 3)).drop (i * 3 + 3) = _
    rw [List.append_assoc]
    exact drop_cat (by rw [List.length_take]; omega)
  have hx : (enc37 [x]).length = 3 := rfl
  have hti : (enc37 (l.take i)).length = i * 3 := by rw [enc37_len, List.length_take, Nat.min_eq_left (by omega)]
  have e2 : A2 = enc37 (l.take i ++ [x] ++ l.drop i) ++ c.drop ((i + 1) * 3 + (l.length - i) * 3) := by
    show A1.take (i * 3) ++ enc37 [x] ++ A1.drop (i * 3 + 3) = _
    rw [ht1, hd1, enc37_append, enc37_append, List.append_assoc, List.append_assoc, List.append_assoc]
  have he : (enc37 (l.take i ++ [x] ++ l.drop i)).length = (l.length + 1) * 3 := by
    rw [enc37_len, List.length_append, List.length_append, List.length_take, List.length_drop, List.length_singleton]; omega
  refine ⟨h1, ?_, ?_⟩
  · rw [e2, List.length_append, he, List.length_drop]; omega
  · rw [e2]; exact take_cat he
/-- What an insertion into a new row leaves: the new one is laid, then what stood from i on. -/
theorem fresh_list (c : List Value) (l : List S74) (x : S74) (i : Nat) (hi : i < l.length) (hc : (l.length + 1) * 3 ≤ c.length) (ht : c.take (i * 3) = enc37 (l.take i)) :
    let A1 := c.take (i * 3) ++ enc37 [x] ++ c.drop (i * 3 + 3)
    let A2 := A1.take ((i + 1) * 3) ++ enc37 (l.drop i) ++ A1.drop ((i + 1) * 3 + (l.length - i) * 3)
    A1.length = c.length ∧ A2.length = c.length ∧ A2.take ((l.length + 1) * 3) = enc37 (l.take i ++ [x] ++ l.drop i) := by
  intro A1 A2
  have hx : (enc37 [x]).length = 3 := rfl
  have hd : (enc37 (l.drop i)).length = (l.length - i) * 3 := by rw [enc37_len, List.length_drop]
  have hti : (enc37 (l.take i)).length = i * 3 := by rw [enc37_len, List.length_take, Nat.min_eq_left (by omega)]
  have h1 : A1.length = c.length := by
    show (c.take (i * 3) ++ enc37 [x] ++ c.drop (i * 3 + 3)).length = _
    rw [List.length_append, List.length_append, List.length_take, hx, List.length_drop]; omega
  have ht1 : A1.take ((i + 1) * 3) = enc37 (l.take i ++ [x]) := by
    show (c.take (i * 3) ++ enc37 [x] ++ c.drop (i * 3 + 3)).take ((i + 1) * 3) = _
    rw [ht, ← enc37_append]
    exact take_cat (by rw [enc37_append, List.length_append, hti, hx]; omega)
  have he : (enc37 (l.take i ++ [x] ++ l.drop i)).length = (l.length + 1) * 3 := by
    rw [enc37_len, List.length_append, List.length_append, List.length_take, List.length_drop, List.length_singleton]; omega
  have e2 : A2 = enc37 (l.take i ++ [x] ++ l.drop i) ++ A1.drop ((i + 1) * 3 + (l.length - i) * 3) := by
    show A1.take ((i + 1) * 3) ++ enc37 (l.drop i) ++ A1.drop ((i + 1) * 3 + (l.length - i) * 3) = _
    rw [ht1, ← enc37_append]
  refine ⟨h1, ?_, ?_⟩
  · rw [e2, List.length_append, he, List.length_drop, h1]; omega
  · rw [e2]; exact take_cat he
def impl_Bucket_75.f (l0 : List S74) (a1 : Int) (l2 : List S74) : Option (List S74) := if 0 ≤ a1 ∧ a1 ≤ (l0.length : Int) ∧ l2.length = 1 ∧ l0.length < 1000000 then some (l0.take a1.toNat ++ l2 ++ l0.drop a1.toNat) else none
set_option maxHeartbeats 8000000 in
set_option maxRecDepth 100000 in
theorem insert_room (P0_ : Nat → Prop) (g cap : Nat) (cur : Array Value) (l0 : List S74) (i : Nat) (x : S74) (g2 c2 : Nat) (cur2 : Array Value) (w0 w : World) (hB : Below w0.heap.size w0 w) (hb : w0.heap.size ≤ g) (hP : P0_ g) (hh : w.heap[g]? = some (.cells cur 74 (0, 0))) (hi : i < l0.length) (hcap : l0.length + 1 ≤ cap) (hcm : cap ≤ maxLen) (hcs : cur.size = cap * 3) (ht : cur.toList.take (l0.length * 3) = enc37 l0) (hl : l0.length < 1000000)
    (hne : g2 ≠ g) (hh2 : w.heap[g2]? = some (.cells cur2 74 (0, 0))) (hc2 : 1 ≤ c2) (hcs2 : cur2.size = c2 * 3) (ht2 : cur2.toList.take (1 * 3) = enc37 [x]) :
    Calls Tryz.prog 75 #[.slice (some ⟨g, 0, none⟩) l0.length cap, .int .i64 i, .slice (some ⟨g2, 0, none⟩) 1 c2] w fun e w' => ∃ v0_ : Value, e = .returned v0_ ∧ Kd.R k74 74 w' w0.heap.size P0_ v0_ (l0.take i ++ [x] ++ l0.drop i) ∧ Below w0.heap.size w0 w' ∧ Kept w w' P0_ := by
  have t25 := Tryz.underlying31
  have hov : ∀ lb cb, (callFunc 99 #[.slice (some ⟨g2, 0, none⟩) 1 c2, .slice (some ⟨g, (i + 1) * 3, none⟩) lb cb]).run Tryz.prog w = .ok (.value (.bool false)) w := fun lb cb => by
    rw [run_callFunc_extern Tryz.func99 (by kernel_rfl) (by kernel_rfl) (by kernel_rfl) (e := Extern.SlicesOverlaps.overlaps #[31, 31] #[4]) (by kernel_rfl),
      Lib.run_overlaps_apart w 31 4 74 t25 3 Tryz.sizeOf74 ⟨g2, 0, none⟩ ⟨g, (i + 1) * 3, none⟩ 1 c2 lb cb hne 74 74 cur2.size cur.size (by simp [World.shape?, hh2]) (by simp [World.shape?, hh]) (by omega) (by simp [World.frozen?, hh2]) (by simp [World.frozen?, hh2])]
    rfl
  have mixed : Tryz.prog.follows .mixedOrders = true := by kernel_rfl
  have hw1 : IntKind.i64.wrap ((i : Int) + 1) = (i : Int) + 1 := by rw [IntKind.wrap_i64]; omega
  have hb1 : (0 : Int) ≤ (i : Int) + 1 := by omega
  have htn : ((i : Int) + 1).toNat = i + 1 := by omega
  have hb2 : ¬ (cap = i + 1) := by omega
  have hb3 : (i : Int) ≤ (l0.length : Int) + 1 := by omega
  have hb5 : (i : Int) + 1 ≤ (l0.length : Int) + 1 := by omega
  have hb4 : ¬ (cap = i) := by omega
  have hdl : (l0.drop i).length = l0.length - i := List.length_drop
  have hsz : (l0.length + 1) * 3 ≤ cap * 3 := Nat.mul_le_mul_right 3 hcap
  have hcl : cur.toList.length = cap * 3 := by rw [Array.length_toList]; exact hcs
  obtain ⟨A1, hA1⟩ : ∃ A1, A1 = cur.toList.take ((i + 1) * 3) ++ enc37 (l0.drop i) ++ cur.toList.drop ((i + 1) * 3 + (l0.drop i).length * 3) := ⟨_, rfl⟩
  have hcp1 : ∀ ty dc sc, (Builtin.copy_ #[31, 31] ty #[.slice (some ⟨g, (i + 1) * 3, none⟩) (l0.length - i) dc, .slice (some ⟨g, i * 3, none⟩) (l0.length + 1 - i) sc]).run Tryz.prog w.drew = .ok (goInt (l0.drop i).length) (w.drew.setRow g A1.toArray) := fun ty dc sc => by
    rw [hA1]
    exact run_copy37 w.drew ty g ((i + 1) * 3) (l0.length - i) dc ⟨g, i * 3, none⟩ (l0.length + 1 - i) sc cur (l0.drop i) hh (by rw [hdl]; simp only [Nat.min_def]; split <;> omega)
      (fun j v hj => by
        rw [← enc37_drop, List.getElem?_drop, ← ht, List.getElem?_take] at hj
        split at hj
        · rw [Addr.add_lit]
          have hh' : w.drew.heap[g]? = some (.cells cur 74 (0, 0)) := hh
          simp only [World.cell?, hh']
          simpa using hj
        · cases hj) (by rw [hdl]; omega)
  have hS := shift_list cur.toList l0 x i hi (by rw [hcl]; exact hsz) ht
  have hA1' : A1 = cur.toList.take ((i + 1) * 3) ++ enc37 (l0.drop i) ++ cur.toList.drop ((i + 1) * 3 + (l0.length - i) * 3) := by rw [hA1, hdl]
  simp only [] at hS
  rw [← hA1'] at hS
  obtain ⟨hS1, hS2, hS3⟩ := hS
  obtain ⟨A2, hA2⟩ : ∃ A2, A2 = A1.take (i * 3) ++ enc37 [x] ++ A1.drop (i * 3 + 3) := ⟨_, rfl⟩
  rw [← hA2] at hS2 hS3
  obtain ⟨W1, hW1⟩ : ∃ W1, W1 = w.drew.setRow g A1.toArray := ⟨_, rfl⟩
  have hh1 : W1.heap[g]? = some (.cells A1.toArray 74 (0, 0)) := by rw [hW1]; exact setRow_heap w.drew g cur _ 74 (0, 0) hh
  have hh3 : W1.heap[g2]? = some (.cells cur2 74 (0, 0)) := by
    rw [hW1]
    exact (setRow_other w.drew g g2 A1.toArray hne).trans hh2
  have hcp2 : ∀ (W : World), W.heap = W1.heap → ∀ ty dc, (Builtin.copy_ #[31, 31] ty #[.slice (some ⟨g, i * 3, none⟩) (l0.length + 1 - i) dc, .slice (some ⟨g2, 0, none⟩) 1 c2]).run Tryz.prog W = .ok (goInt 1) (W.setRow g A2.toArray) := fun W hW ty dc => by
    rw [hA2]
    exact run_copy37 W ty g (i * 3) (l0.length + 1 - i) dc ⟨g2, 0, none⟩ 1 c2 A1.toArray [x] (by rw [hW]; exact hh1) (z23_)
      (fun j v hj => by
        rw [← ht2, List.getElem?_take] at hj
        split at hj
        · rw [Addr.add_lit]
          have hh' : W.heap[g2]? = some (.cells cur2 74 (0, 0)) := by rw [hW]; exact hh3
          simp only [World.cell?, hh']
          simpa using hj
        · cases hj) (by simp only [List.size_toArray, hS1, hcl, List.length_singleton]; omega)
  rw [← hW1] at hcp1
  have HW1 := Aside0.mk hW1
  have HS2 := Aside0.mk hS2
  have HS3 := Aside0.mk hS3
  have HH1 := Aside0.mk hh1
  have HBB := Aside0.mk hB
  clear hA1 hA1' hA2 hW1 hS1 hS2 hS3 hh1 hh3
  go_enter Tryz.func75, Tryz.ntmps75
  go_wp2_with (simp only [hov])
  go_region_law_o (refine step_copy_runI rfl _ _ 31 31 rfl _ _ (z27_) (z27_) (hcp1 _ _ _) ?_)
  go_wp2_with (at_builtin; refine wpList_copy_runI _ rfl _ _ 31 31 rfl _ _ rfl rfl (hcp2 _ (fun _ => rfl) _ _) ?_)
  go_ret
  have hwb : Below w0.heap.size w0 (W1.setRow g A2.toArray) := by
    rw [HW1.out]
    exact below_setRow (below_setRow (by repeat (first | (with_reducible first | exact HBB.out | apply below_drew1) | exact HBB.out)) hb _) hb _
  have hk2 : ∀ j, ¬ P0_ j → (W1.setRow g A2.toArray).heap[j]? = w.heap[j]? := fun j hj => by
    have hjg : j ≠ g := fun e => hj (e ▸ hP)
    rw [setRow_other _ _ _ _ hjg, HW1.out, setRow_other _ _ _ _ hjg]
    rfl
  have hwk : Kept w (W1.setRow g A2.toArray) P0_ := ⟨by rw [setRow_size, HW1.out, setRow_size]; exact Nat.le_refl _, fun j _ hj => hk2 j hj⟩
  exact ⟨_, rfl, R_make37 hb hP (setRow_heap W1 g A1.toArray A2.toArray 74 (0, 0) HH1.out) (by simp; omega) hcap hcm (by simp [HS2.out]; exact hcs) (by simpa using HS3.out), hwb, hwk⟩
set_option maxRecDepth 100000 in
/-- append(s[:i], make([]Bucket, m)...) where there is no room: a new row. -/
theorem run_grow37 (w : World) (ty : TypeId) (g cap m : Nat) (l : List S74) (hcells : ∀ j u, (enc37 l)[j]? = some u → w.cell? ((⟨g, 0, none⟩ : Addr).add j) = some u) (hcap : cap < l.length + m) (hbytes : (l.length + m) * 24 ≤ 140737488355328) (hm0 : 0 < m) :
    ∃ w1 cur2 cap2, (Builtin.append_ #[31, 3] ty #[.slice (some ⟨g, 0, none⟩) l.length cap, .int .i64 m]).run Tryz.prog w = .ok (.slice (some ⟨w.heap.size, 0, none⟩) (l.length + m) cap2) w1 ∧
      w1.heap[w.heap.size]? = some (.cells cur2 74 (0, 0)) ∧ l.length + m ≤ cap2 ∧ cap2 ≤ maxLen ∧ cur2.size = cap2 * 3 ∧ cur2.toList.take (l.length * 3) = enc37 l ∧ Below w.heap.size w w1 := by
  obtain ⟨i, hi, hzz⟩ := Option.map_eq_some_iff.1 info74
  simp only [Prod.mk.injEq] at hzz
  obtain ⟨hz, hsize, hby⟩ := hzz
  have hle : l.length + m ≤ 140737488355328 := by omega
  have h63 : l.length + m ≤ maxLen := by simp only [maxLen]; omega
  have hw : IntKind.i64.wrap (m : Int) = m := by rw [IntKind.wrap_i64]; omega
  have hneg : ¬ ((m : Int) < 0) := by omega
  have hbig : ¬ (281474976710656 < (m : Int) * (i.bytes : Int)) := by rw [hby]; omega
  have hn : ¬ (l.length + m ≤ cap) := by omega
  have h63' : ¬ (9223372036854775807 < ((l.length : Int) + (m : Int))) := by omega
  have hfit := growslice_fits hcap hbytes
  have h48' : ¬ (281474976710656 < Builtin.nextslicecap (l.length + m) cap * i.bytes) := by rw [hby]; omega
  have hmz : ¬ (m * i.size = 0) := by rw [hsize]; omega
  have hfo : (Builtin.firstCells i.size l.length (.slice (some ⟨g, 0, none⟩) l.length cap)).run Tryz.prog w.drew = .ok (enc37 l).toArray w.drew := run_firstCells_some (P := Tryz.prog) w.drew i.size l.length _ l.length cap (enc37 l) (by rw [enc37_len, hsize]) (by simpa using hcells)
  have hge := grownCap_ge w (l.length + m) cap 74
  have hcm : grownCap w (l.length + m) cap 74 ≤ maxLen := grownCap_le_maxLen w (l.length + m) cap 74 h63
  have hzs : (Value.agg #[.int .i64 0, .int .i64 0, .int .i64 0]).cells.size = 3 := rfl
  refine ⟨w.drew.alloc (.cells ((enc37 l).toArray ++ Builtin.zeroCells (Value.agg #[.int .i64 0, .int .i64 0, .int .i64 0]).cells m ++ Builtin.zeroCells (Value.agg #[.int .i64 0, .int .i64 0, .int .i64 0]).cells (grownCap w (l.length + m) cap 74 - (l.length + m))) 74), _, grownCap w (l.length + m) cap 74, ?_, heap_alloc_new w.drew _, hge, hcm, ?_, ?_, ?_⟩
  · simp [Builtin.append_, run_underlying Tryz.underlying31, run_underlying Tryz.underlying3, sizeOf, typeInfo, zeroValue, hi, hz, asInt, asIntOf, hw, hneg, hbig, hn, h63', h48', Question.forced, hfo, newRow, grownCap, hmz]
  · simp only [Array.size_append, List.size_toArray, size_zeroCells, hzs, enc37_len, ← Nat.add_mul]
    congr 1
    omega
  · simp only [Array.toList_append, List.append_assoc]
    exact take_cat (by rw [enc37_len])
  · exact below_alloc (by repeat (first | (with_reducible first | exact Below.refl _ _ | apply below_drew1) | exact Below.refl _ _)) _
set_option maxHeartbeats 8000000 in
set_option maxRecDepth 100000 in
theorem insert_grow (P0_ : Nat → Prop) (g cap : Nat) (cur : Array Value) (l0 : List S74) (i : Nat) (x : S74) (g2 c2 : Nat) (cur2 : Array Value) (w0 w : World) (hB : Below w0.heap.size w0 w) (hh : w.heap[g]? = some (.cells cur 74 (0, 0))) (hi : i < l0.length) (hnc : l0.length ≤ cap) (hcap : cap < l0.length + 1) (hcs : cur.size = cap * 3) (ht : cur.toList.take (l0.length * 3) = enc37 l0) (hl : l0.length < 1000000)
    (hh2 : w.heap[g2]? = some (.cells cur2 74 (0, 0))) (ht2 : cur2.toList.take (1 * 3) = enc37 [x]) :
    Calls Tryz.prog 75 #[.slice (some ⟨g, 0, none⟩) l0.length cap, .int .i64 i, .slice (some ⟨g2, 0, none⟩) 1 c2] w fun e w' => ∃ v0_ : Value, e = .returned v0_ ∧ Kd.R k74 74 w' w0.heap.size (fun k_ => P0_ k_ ∨ w.heap.size ≤ k_) v0_ (l0.take i ++ [x] ++ l0.drop i) ∧ Below w0.heap.size w0 w' ∧ Kept w w' P0_ := by
  have t25 := Tryz.underlying31
  have mixed : Tryz.prog.follows .mixedOrders = true := by kernel_rfl
  have hcell : ∀ j u, (enc37 l0)[j]? = some u → w.cell? ((⟨g, 0, none⟩ : Addr).add j) = some u := fun j u hj => by
    rw [← ht, List.getElem?_take] at hj
    split at hj
    · rw [Addr.add_lit]
      simp only [World.cell?, hh]
      simpa using hj
    · cases hj
  have hlt : (l0.take i).length = i := by rw [List.length_take]; omega
  obtain ⟨w1, cur3, cap2, hrun, hh3, hge, hcm, hcs3, ht3, hb1⟩ := run_grow37 w 31 g cap (l0.length + 1 - i) (l0.take i) (fun j u hj => hcell j u (by
    rw [← enc37_take, List.getElem?_take] at hj
    split at hj
    · exact hj
    · cases hj)) (by rw [hlt]; omega) (by rw [hlt]; omega) (by omega)
  rw [hlt] at hrun hge ht3
  rw [show i + (l0.length + 1 - i) = l0.length + 1 by omega] at hrun hge
  rw [show ((l0.length + 1 - i : Nat) : Int) = (l0.length : Int) + 1 - (i : Int) by omega] at hrun
  obtain ⟨gn, hgn⟩ : ∃ gn, gn = w.heap.size := ⟨_, rfl⟩
  rw [← hgn] at hrun hh3
  have hlg : g < w.heap.size := (Array.getElem?_eq_some_iff.1 hh).1
  have hlg2 : g2 < w.heap.size := (Array.getElem?_eq_some_iff.1 hh2).1
  have hcl : cur3.toList.length = cap2 * 3 := by rw [Array.length_toList]; exact hcs3
  have hsz : (l0.length + 1) * 3 ≤ cap2 * 3 := Nat.mul_le_mul_right 3 hge
  have hS := fresh_list cur3.toList l0 x i hi (by rw [hcl]; exact hsz) ht3
  simp only [] at hS
  obtain ⟨A1, hA1⟩ : ∃ A1, A1 = cur3.toList.take (i * 3) ++ enc37 [x] ++ cur3.toList.drop (i * 3 + 3) := ⟨_, rfl⟩
  rw [← hA1] at hS
  obtain ⟨A2, hA2⟩ : ∃ A2, A2 = A1.take ((i + 1) * 3) ++ enc37 (l0.drop i) ++ A1.drop ((i + 1) * 3 + (l0.length - i) * 3) := ⟨_, rfl⟩
  rw [← hA2] at hS
  obtain ⟨hS1, hS2, hS3⟩ := hS
  have hdl : (l0.drop i).length = l0.length - i := List.length_drop
  have hcp1 : ∀ ty dc, (Builtin.copy_ #[31, 31] ty #[.slice (some ⟨gn, i * 3, none⟩) (l0.length + 1 - i) dc, .slice (some ⟨g2, 0, none⟩) 1 c2]).run Tryz.prog w1 = .ok (goInt 1) (w1.setRow gn A1.toArray) := fun ty dc => by
    rw [hA1]
    exact run_copy37 w1 ty gn (i * 3) (l0.length + 1 - i) dc ⟨g2, 0, none⟩ 1 c2 cur3 [x] hh3 (z23_)
      (fun j v hj => by
        rw [← ht2, List.getElem?_take] at hj
        split at hj
        · rw [Addr.add_lit]
          have hh' : w1.heap[g2]? = some (.cells cur2 74 (0, 0)) := (hb1.block g2 hlg2).trans hh2
          simp only [World.cell?, hh']
          simpa using hj
        · cases hj) (by simp only [← Array.length_toList, hcl, List.length_singleton]; omega)
  obtain ⟨W1, hW1⟩ : ∃ W1, W1 = w1.setRow gn A1.toArray := ⟨_, rfl⟩
  have hh4 : W1.heap[gn]? = some (.cells A1.toArray 74 (0, 0)) := by rw [hW1]; exact setRow_heap w1 gn cur3 _ 74 (0, 0) hh3
  have hh5 : W1.heap[g]? = some (.cells cur 74 (0, 0)) := by
    rw [hW1]
    exact (setRow_other w1 gn g A1.toArray (by omega)).trans ((hb1.block g hlg).trans hh)
  rw [← hW1] at hcp1
  have hcp2 : ∀ ty dc sc, (Builtin.copy_ #[31, 31] ty #[.slice (some ⟨gn, (i + 1) * 3, none⟩) (l0.length - i) dc, .slice (some ⟨g, i * 3, none⟩) (l0.length - i) sc]).run Tryz.prog W1.drew = .ok (goInt (l0.drop i).length) (W1.drew.setRow gn A2.toArray) := fun ty dc sc => by
    rw [hA2, ← hdl]
    exact run_copy37 W1.drew ty gn ((i + 1) * 3) (l0.drop i).length dc ⟨g, i * 3, none⟩ (l0.drop i).length sc A1.toArray (l0.drop i) hh4 (by simp)
      (fun j v hj => by
        rw [← enc37_drop, List.getElem?_drop, ← ht, List.getElem?_take] at hj
        split at hj
        · rw [Addr.add_lit]
          have hh' : W1.drew.heap[g]? = some (.cells cur 74 (0, 0)) := hh5
          simp only [World.cell?, hh']
          simpa using hj
        · cases hj) (by rw [hdl]; simp only [List.size_toArray, hS1, hcl]; omega)
  have HW1 := Aside0.mk hW1
  have HS2 := Aside0.mk hS2
  have HS3 := Aside0.mk hS3
  have HH4 := Aside0.mk hh4
  have HBB := Aside0.mk hB
  have HB1 := Aside0.mk hb1
  have HGN := Aside0.mk hgn
  have HCL := Aside0.mk hcl
  have HCM := Aside0.mk hcm
  have HGE := Aside0.mk hge
  clear hA1 hA2 hW1 hS1 hS2 hS3 hh4 hh5 hcell hgn hdl hcl ht3
  have hw1 : IntKind.i64.wrap ((i : Int) + 1) = (i : Int) + 1 := by rw [IntKind.wrap_i64]; omega
  have hw2 : IntKind.i64.wrap ((l0.length : Int) + 1) = (l0.length : Int) + 1 := by rw [IntKind.wrap_i64]; omega
  have hw3 : IntKind.i64.wrap ((l0.length : Int) + 1 - (i : Int)) = (l0.length : Int) + 1 - (i : Int) := by rw [IntKind.wrap_i64]; omega
  have hb1' : (0 : Int) ≤ (i : Int) + 1 := by omega
  have htn : ((i : Int) + 1).toNat = i + 1 := by omega
  have hb2 : ¬ (cap2 = i + 1) := by omega
  have hb3 : (i : Int) ≤ (l0.length : Int) + 1 := by omega
  have hb5 : (i : Int) + 1 ≤ (l0.length : Int) + 1 := by omega
  have hb4 : ¬ (cap2 = i) := by omega
  have hb6 : ¬ (cap = i) := by omega
  have hb7 : i ≤ cap := by omega
  have hb8 : i ≤ l0.length := by omega
  go_enter Tryz.func75, Tryz.ntmps75
  go_wp2_with (first | (at_builtin; refine Lib.wpList_append_run _ rfl _ _ 31 3 rfl _ _ rfl rfl _ _ hrun ?_) | (at_builtin; refine wpList_copy_runI _ rfl _ _ 31 31 rfl _ _ rfl rfl (hcp1 _ _) ?_))
  go_region_law_o (refine step_copy_runI rfl _ _ 31 31 rfl _ _ (z27_) (z27_) (hcp2 _ _ _) ?_)
  go_wp2
  go_ret
  have hbase : w0.heap.size ≤ gn := by rw [HGN.out]; exact HBB.out.size
  have hwb : Below w0.heap.size w0 (W1.drew.setRow gn A2.toArray) := by
    rw [HW1.out]
    exact below_setRow (by repeat (first | (with_reducible first | apply below_drew1) | exact below_setRow (below_step HBB.out HB1.out) hbase _)) hbase _
  have hk2 : ∀ j, j < w.heap.size → (W1.drew.setRow gn A2.toArray).heap[j]? = w.heap[j]? := fun j hj => by
    have hjg : j ≠ gn := by rw [HGN.out]; omega
    rw [setRow_other _ _ _ _ hjg, HW1.out]
    exact (setRow_other w1 gn j A1.toArray hjg).trans (HB1.out.block j hj)
  have hsize : w.heap.size ≤ (W1.drew.setRow gn A2.toArray).heap.size := by
    rw [setRow_size, HW1.out]
    show w.heap.size ≤ (w1.setRow gn A1.toArray).heap.size
    rw [setRow_size]
    exact HB1.out.size
  have hwk : Kept w (W1.drew.setRow gn A2.toArray) P0_ := ⟨hsize, fun j hj _ => hk2 j hj⟩
  exact ⟨_, rfl, R_make37 hbase (Or.inr (by rw [HGN.out]; exact Nat.le_refl _)) (setRow_heap W1.drew gn A1.toArray A2.toArray 74 (0, 0) HH4.out) (by simp; omega) HGE.out HCM.out (by simp [HS2.out]; rw [← HCL.out, Array.length_toList]) (by simpa using HS3.out), hwb, hwk⟩
set_option maxHeartbeats 8000000 in
set_option maxRecDepth 100000 in
theorem insert_end (P0_ : Nat → Prop) (u9000_ : Value) (l0 : List S74) (A2 : Option Addr) (c2 : Nat) (l2 : List S74) (w0 w : World) (okv : Nat → Prop) (hB : Below w0.heap.size w0 w) (ho0 : Kd.R k74 74 w w0.heap.size P0_ u9000_ l0) (hr2 : Kd.R k74 74 w w0.heap.size okv (.slice A2 l2.length c2) l2) (hl2 : l2.length = 1) (hl : l0.length < 1000000) :
    Calls Tryz.prog 75 #[u9000_, .int .i64 (l0.length : Int), .slice A2 l2.length c2] w fun e w' => ∃ v0_ : Value, e = .returned (v0_) ∧ Kd.R k74 74 w' w0.heap.size (fun k_ => (P0_ k_ ∨ w.heap.size ≤ k_)) v0_ (l0 ++ l2) ∧ Below w0.heap.size w0 w' ∧ Kept w w' (fun k_ => P0_ k_) := by
  have HO0 := Aside0.mk (show Kd.R k74 74 w w0.heap.size (fun k_ => (P0_ k_ ∨ w.heap.size ≤ k_)) u9000_ l0 from Kd.R_mono ho0 (fun k_ hk => (.inl hk)))
  have HR2 := Aside0.mk hr2
  have HK := Aside0.mk (Kept.refl w (fun k_ => P0_ k_))
  have HB := Aside0.mk hB
  have HP := Aside0.mk ho0.1
  obtain ⟨A0, c0, rfl⟩ := Kd.R_slice ho0
  clear hB ho0 hr2
  have hne1 : ¬ ((1 : Int) = 0) := by omega
  obtain ⟨i0_, hi0_, _, hsz_, _⟩ := info_parts info74
  have hcutf_ := cut_from (P := Tryz.prog) 31 74 .i64 Tryz.underlying31 hi0_ 3 hsz_ A0 l0.length c0 (l0.length : Int) (by omega) (by omega)
  generalize hAc_ : (if c0 = (l0.length : Int).toNat then A0 else A0.map (·.add ((l0.length : Int).toNat * 3))) = Ac_ at hcutf_
  have hl2' : (l2.length : Int) = 1 := by omega
  clear hi0_ hsz_ hAc_
  go_enter Tryz.func75, Tryz.ntmps75
  go_wp2_with (first | ((with_reducible refine gate_builtin (b := .append) (xs := #[.tmp 23, .tmp 24]) rfl ?_); at_builtin; refine Kd.R_append_rows k74 (w0 := w0) w0.heap.size rfl (.tmp 23) (.tmp 24) 31 74 (.agg #[(.int .i64 0), (.int .i64 0), (.int .i64 0)]) 24 rfl Tryz.underlying31 info74 rfl (by decide) (by omega) (.slice A0 l0.length c0) l0 l2 _ _ _ (fun k_ => (P0_ k_ ∨ w.heap.size ≤ k_)) (fun _ => False) rfl rfl ?aO ?aR (fun _ _ h => h) (fun _ h => h.elim) ?aF ?aB ?aS ?aL ?_; (case aR => exact (Kd.R_reads' HR2.out).2.2); (case aB => exact HB.out); (case aF => exact (fun k_ hk => (.inr hk))); (case aO => exact HO0.out); (case aS => exact HB.out.size); (case aL => omega); intro v162 w5 ho hb hg hat; have n0_ := Aside0.mk (hb); have n1_ := Aside0.mk (Kept.of_grown (S := (fun k_ => P0_ k_)) hg HK.out (fun k_ e_ => .inl (HP.out k_ e_))); have n2_ := Aside0.mk (ho); clear HB; clear HK; clear HO0; have HB := n0_; have HK := n1_; have HO163 := n2_; clear n0_ n1_ n2_; clear ho hb hg hat))
  go_ret
  exact ⟨_, rfl, HO163.out, HB.out, HK.out⟩
theorem impl_Bucket_75.calls (P0_ : Nat → Prop) (u9000_ : Value) (l0 : List (S74)) (a1 : Int) (A2 : Option Addr) (c2 : Nat) (l2 : List (S74)) (r : List (S74)) (w0 w : World) {okv : Nat → Prop} (hB : Below w0.heap.size w0 w) (ho0 : Kd.R k74 74 w w0.heap.size P0_ u9000_ l0) (hr2 : Kd.R k74 74 w w0.heap.size okv (.slice A2 l2.length c2) l2) (hne2 : ∀ k_, okv k_ → ¬ P0_ k_) (h : impl_Bucket_75.f l0 a1 l2 = some r) :
    Calls Tryz.prog 75 #[u9000_, .int .i64 a1, .slice A2 l2.length c2] w fun e w' => ∃ v0_ : Value, e = .returned (v0_) ∧ Kd.R k74 74 w' w0.heap.size (fun k_ => (P0_ k_ ∨ w.heap.size ≤ k_)) v0_ r ∧ Below w0.heap.size w0 w' ∧ Kept w w' (fun k_ => P0_ k_) := by
  unfold impl_Bucket_75.f at h
  by_cases hc : 0 ≤ a1 ∧ a1 ≤ (l0.length : Int) ∧ l2.length = 1 ∧ l0.length < 1000000
  rotate_left
  · rw [if_neg hc] at h; cases h
  rw [if_pos hc] at h
  obtain ⟨h0, h1, hl2, hl⟩ := hc
  obtain rfl := Option.some.inj h
  obtain ⟨i, rfl⟩ := Int.eq_ofNat_of_zero_le h0
  rw [Int.toNat_natCast]
  by_cases he : i = l0.length
  · subst he
    rw [List.take_of_length_le (Nat.le_refl _), List.drop_of_length_le (Nat.le_refl _), List.append_nil]
    exact insert_end P0_ u9000_ l0 A2 c2 l2 w0 w okv hB ho0 hr2 hl2 hl
  · have hi : i < l0.length := by omega
    obtain ⟨A0, c0, rfl⟩ := Kd.R_slice ho0
    obtain ⟨g, cur, rfl, hb, hP, hh, _, hnc, hcm, hcs, ht⟩ := R_open37 ho0 (by omega)
    obtain ⟨g2, cur2, rfl, _, hokv, hh2, _, hnc2, _, hcs2, ht2⟩ := R_open37 hr2 (by omega)
    obtain ⟨x, rfl⟩ : ∃ x, l2 = [x] := by
      match l2, hl2 with
      | [x], _ => exact ⟨x, rfl⟩
    have hne : g2 ≠ g := fun e => hne2 g2 hokv (e ▸ hP)
    by_cases hroom : l0.length + 1 ≤ c0
    · exact (insert_room P0_ g c0 cur l0 i x g2 c2 cur2 w0 w hB hb hP hh hi hroom hcm hcs ht hl hne hh2 hnc2 hcs2 ht2).mono fun e w' ⟨v, e1, e2, e3, e4⟩ => ⟨v, e1, Kd.R_mono e2 (fun _ hk => .inl hk), e3, e4⟩
    · exact insert_grow P0_ g c0 cur l0 i x g2 c2 cur2 w0 w hB hh hi hnc (by omega) hcs ht hl hh2 ht2

/-! ### impl_TakeToken: function 45 -/
mutual
def impl_TakeToken.j0 : Nat → List (S74) → Int → Int → Int → Bool → Option ((List (S74)) × Bool × Bool)
  | 0, _, _, _, _, _ => none
  | k + 1, x0, x1, x2, x9, x24 => if x24 = true then (some (([] : List (S74)), false, false)) else ((impl_bucketPlace.f k x0 x1).bind fun bt292 => ((impl_Bucket_74.f x0).bind fun t294 => (if bt292.2 = true then (if 0 ≤ bt292.1 then (if bt292.1 < (x0.length : Int) then (impl_TakeToken.j1 k x9 bt292.1 bt292.2 t294 (decide (x2 < ((rd_T74 x0 bt292.1).f2))) x1 (wrap64 (x9 - 1)) x2) else (none)) else (none)) else (impl_TakeToken.j1 k x9 bt292.1 bt292.2 t294 false x1 (wrap64 (x9 - 1)) x2))))
def impl_TakeToken.j1 : Nat → Int → Int → Bool → List (S74) → Bool → Int → Int → Int → Option ((List (S74)) × Bool × Bool)
  | 0, _, _, _, _, _, _, _, _ => none
  | k + 1, x9, x10, x11, x12, x43, x298000, x298001, x298002 => if x43 = true then (some (([] : List (S74)), false, false)) else (if x9 = 0 then (some (x12, false, true)) else (if x11 = true then (if 0 ≤ x10 then (if x10 < (x12.length : Int) then ((some (x12.set (x10 : Int).toNat (⟨x298000, x298001, x298002⟩ : S74) : List (S74))).bind fun y299 => ((impl_ValidBuckets.f y299).bind fun t300 => (if t300 = true then (some (y299, true, true)) else (some (([] : List (S74)), false, false))))) else (none)) else (none)) else ((impl_Bucket_75.f x12 x10 (([(⟨x298000, x298001, x298002⟩ : S74)] : List (S74)))).bind fun t304 => ((impl_ValidBuckets.f t304).bind fun t307 => (if t307 = true then (some (t304, true, true)) else (some (([] : List (S74)), false, false)))))))
end
def impl_TakeToken.f (k : Nat) (l0 : List (S74)) (a1 : Int) (a2 : Int) : Option ((List (S74)) × Bool × Bool) := (impl_TokensAt.f k l0 a1 a2).bind fun t290 => (if t290 < 0 then (impl_TakeToken.j0 k l0 a1 a2 t290 true) else ((impl_within.f a1 0 99).bind fun t291 => (impl_TakeToken.j0 k l0 a1 a2 t290 (!t291))))
theorem impl_TakeToken.mono_l : ∀ k, (∀ y0 y1 y2 y3 y4, LeO (impl_TakeToken.j0 k y0 y1 y2 y3 y4) (impl_TakeToken.j0 (k + 1) y0 y1 y2 y3 y4)) ∧ (∀ y0 y1 y2 y3 y4 y5 y6 y7, LeO (impl_TakeToken.j1 k y0 y1 y2 y3 y4 y5 y6 y7) (impl_TakeToken.j1 (k + 1) y0 y1 y2 y3 y4 y5 y6 y7))
  | 0 => ⟨fun _ _ _ _ _ r h => by simp [impl_TakeToken.j0] at h, fun _ _ _ _ _ _ _ _ r h => by simp [impl_TakeToken.j1] at h⟩
  | k + 1 => by
    obtain ⟨ih0, ih1⟩ := impl_TakeToken.mono_l k
    refine ⟨?_, ?_⟩
    · intro y0 y1 y2 y3 y4
      unfold impl_TakeToken.j0
      repeat' first
      | (with_reducible exact ih0 _ _ _ _ _)
      | (with_reducible exact ih1 _ _ _ _ _ _ _ _)
      | (with_reducible exact impl_TokensAt.mono _ _ _ _)
      | (with_reducible exact impl_bucketPlace.mono _ _ _)
      | (with_reducible exact LeO.refl _)
      | (with_reducible exact LeO.none _)
      | (with_reducible refine LeO.ite ?_ ?_)
      | (with_reducible refine LeO.bind ?_ (fun _ => ?_))
      | exact ih0 _ _ _ _ _
      | exact ih1 _ _ _ _ _ _ _ _
      | exact impl_TokensAt.mono _ _ _ _
      | exact impl_bucketPlace.mono _ _ _
      | exact LeO.none _
      | refine LeO.ite ?_ ?_
      | refine LeO.bind ?_ (fun _ => ?_)
    · intro y0 y1 y2 y3 y4 y5 y6 y7
      unfold impl_TakeToken.j1
      repeat' first
      | (with_reducible exact ih0 _ _ _ _ _)
      | (with_reducible exact ih1 _ _ _ _ _ _ _ _)
      | (with_reducible exact impl_TokensAt.mono _ _ _ _)
      | (with_reducible exact impl_bucketPlace.mono _ _ _)
      | (with_reducible exact LeO.refl _)
      | (with_reducible exact LeO.none _)
      | (with_reducible refine LeO.ite ?_ ?_)
      | (with_reducible refine LeO.bind ?_ (fun _ => ?_))
      | exact ih0 _ _ _ _ _
      | exact ih1 _ _ _ _ _ _ _ _
      | exact impl_TokensAt.mono _ _ _ _
      | exact impl_bucketPlace.mono _ _ _
      | exact LeO.none _
      | refine LeO.ite ?_ ?_
      | refine LeO.bind ?_ (fun _ => ?_)
theorem impl_TakeToken.mono : ∀ a0 a1 a2 k, LeO (impl_TakeToken.f k a0 a1 a2) (impl_TakeToken.f (k + 1) a0 a1 a2) := by
  intro a0 a1 a2 k
  obtain ⟨ih0, ih1⟩ := impl_TakeToken.mono_l k
  unfold impl_TakeToken.f
  repeat' first
      | (with_reducible exact ih0 _ _ _ _ _)
      | (with_reducible exact ih1 _ _ _ _ _ _ _ _)
      | (with_reducible exact impl_TokensAt.mono _ _ _ _)
      | (with_reducible exact impl_bucketPlace.mono _ _ _)
      | (with_reducible exact LeO.refl _)
      | (with_reducible exact LeO.none _)
      | (with_reducible refine LeO.ite ?_ ?_)
      | (with_reducible refine LeO.bind ?_ (fun _ => ?_))
      | exact ih0 _ _ _ _ _
      | exact ih1 _ _ _ _ _ _ _ _
      | exact impl_TokensAt.mono _ _ _ _
      | exact impl_bucketPlace.mono _ _ _
      | exact LeO.none _
      | refine LeO.ite ?_ ?_
      | refine LeO.bind ?_ (fun _ => ?_)
set_option maxHeartbeats 8000000 in
set_option maxRecDepth 100000 in
theorem impl_TakeToken.calls (k : Nat) (A0 : Option Addr) (c0 : Nat) (l0 : List (S74)) (a1 : Int) (a2 : Int) (r1 : List (S74)) (r2 : Bool) (r3 : Bool) (w : World) (hr0 : Kd.C k74 w A0 l0.length l0) (hc0 : l0.length ≤ c0) (h : impl_TakeToken.f k l0 a1 a2 = some (r1, r2, r3)) :
    Calls Tryz.prog 45 #[.slice A0 l0.length c0, .int .i64 a1, .int .i64 a2] w fun e w' => ∃ v0_ : Value, e = .returned (.tuple #[v0_, .bool r2, .bool r3]) ∧ Kd.R k74 74 w' w.heap.size (fun _ => True) v0_ r1 ∧ Below w.heap.size w w' := by
  have hu74 := Tryz.underlying74
  have HR0 := Aside0.mk hr0
  have HC0 := Aside0.mk hc0
  clear hr0 hc0
  have HB := Aside0.mk (Below.refl w.heap.size w)
  have H : ((impl_TokensAt.f k l0 a1 a2).bind fun t290 => (if t290 < 0 then (impl_TakeToken.j0 k l0 a1 a2 t290 true) else ((impl_within.f a1 0 99).bind fun t291 => (impl_TakeToken.j0 k l0 a1 a2 t290 (!t291))))) = some (r1, r2, r3) := h
  clear h
  replace H := Option.bind_eq_some_iff.mp H
  obtain ⟨t290, A40, H⟩ := H
  replace H : (if t290 < 0 then (impl_TakeToken.j0 k l0 a1 a2 t290 true) else ((impl_within.f a1 0 99).bind fun t291 => (impl_TakeToken.j0 k l0 a1 a2 t290 (!t291)))) = some (r1, r2, r3) := H
  have A4 := Aside0.mk A40
  clear A40
  have HC5 := Aside0.mk H
  clear H
  go_enter Tryz.func45, Tryz.ntmps45
  go_upto_region 2 with (first | ((with_reducible refine gate_callee (f := 72) rfl ?_); refine goesL_ (some 17) rfl rfl Tryz.func72 (by kernel_rfl) rfl #[.slice A0 l0.length c0, .int .i64 a1, .int .i64 a2] rfl (z10_) ?_; (with_reducible refine (impl_TokensAt.calls k _ _ l0 a1 a2 t290 _ ?side1 ?side2 A4.out).mono ?_); (case side1 => repeat (first | exact HR0.out | (with_reducible refine Kd.C_alloc ?_ _) | (with_reducible refine Kd.C_drewN ?_ _) | (with_reducible refine Kd.C_drew ?_))); (case side2 => exact HC0.out); rintro e w6 ⟨rfl, hb⟩; refine ⟨_, rfl, ?_⟩; have n0_ := Aside0.mk (below_step (z12_) hb); clear HB; have HB := n0_; clear n0_; (try clear hb); (try clear hb2); (try clear hk); (try clear hi)))
  (try simp only [Act.put, List.setIfInBounds_toArray, List.set_cons_zero, List.set_cons_succ])
  go_cut [24] (fun v24 wc => ∃ (kq : Nat) (x24_4 : Bool), v24 = .bool x24_4 ∧ Aside0 (impl_TakeToken.j0 kq l0 a1 a2 t290 x24_4 = some (r1, r2, r3)) ∧ Aside0 (kq ≤ k) ∧ Aside0 (Below w.heap.size w wc))
  case first =>
    have H := HC5.out
    clear HC5
    by_cases c7 : t290 < 0
    · rw [if_pos c7] at H
      have c7b0 : decide (t290 < 0) = true := decide_eq_true c7
      clear c7
      (first | rw [c7b0] | (simp only [i64_w, i32_w]; rw [c7b0]) | skip)
      have H' := Aside0.mk H
      clear H
      go_wp2
      go_meet
      case rel => exact ⟨_, (true), (z25_), H', ⟨z26_⟩, ⟨z12_⟩⟩
    · rw [if_neg c7] at H
      have c7b0 : decide (t290 < 0) = false := decide_eq_false c7
      clear c7
      (first | rw [c7b0] | (simp only [i64_w, i32_w]; rw [c7b0]) | skip)
      replace H := Option.bind_eq_some_iff.mp H
      obtain ⟨t291, A80, H⟩ := H
      replace H : (impl_TakeToken.j0 k l0 a1 a2 t290 (!t291)) = some (r1, r2, r3) := H
      have A8 := Aside0.mk A80
      clear A80
      have H' := Aside0.mk H
      clear H
      go_wp2_with (first | (go_at_call 49; (with_reducible refine (impl_within.calls a1 0 99 t291 _ A8.out).mono ?_); rintro e w' ⟨rfl, ⟨nd, rfl⟩⟩))
      go_meet
      case rel => exact ⟨_, (!t291), (z25_), H', ⟨z26_⟩, ⟨z12_⟩⟩
  case rest =>
    clear HC5
    try clear p2
    try clear c4
    try clear c7
    try clear c7b0
    obtain ⟨kq, x24_4, rfl, HA, HJ4, HB⟩ := hcut
    cases kq with
    | zero => exact absurd HA.out (by simp [impl_TakeToken.j0])
    | succ kj4 =>
      have H := HA.out
      clear HA
      simp only [impl_TakeToken.j0] at H
      by_cases c9 : x24_4 = true
      · subst c9
        have H1 : (some (([] : List (S74)), false, false)) = some (r1, r2, r3) := by rw [if_pos rfl] at H; exact H
        clear H
        have H := H1
        clear H1
        simp only [Option.some.injEq, Prod.mk.injEq] at H
        obtain ⟨rfl, rfl, rfl⟩ := H
        go_wp2
        go_ret3
        exact ⟨_, z20_, z9_, z12_⟩
      · replace c9 := Bool.eq_false_iff.mpr c9
        subst c9
        have H1 : ((impl_bucketPlace.f kj4 l0 a1).bind fun bt292 => ((impl_Bucket_74.f l0).bind fun t294 => (if bt292.2 = true then (if 0 ≤ bt292.1 then (if bt292.1 < (l0.length : Int) then (impl_TakeToken.j1 kj4 t290 bt292.1 bt292.2 t294 (decide (a2 < ((rd_T74 l0 bt292.1).f2))) a1 (wrap64 (t290 - 1)) a2) else (none)) else (none)) else (impl_TakeToken.j1 kj4 t290 bt292.1 bt292.2 t294 false a1 (wrap64 (t290 - 1)) a2)))) = some (r1, r2, r3) := by rw [if_neg (show ¬ (false = true) by decide)] at H; exact H
        clear H
        have H := H1
        clear H1
        replace H := Option.bind_eq_some_iff.mp H
        obtain ⟨⟨t292, t293⟩, A100, H⟩ := H
        replace H : ((impl_Bucket_74.f l0).bind fun t294 => (if t293 = true then (if 0 ≤ t292 then (if t292 < (l0.length : Int) then (impl_TakeToken.j1 kj4 t290 t292 t293 t294 (decide (a2 < ((rd_T74 l0 t292).f2))) a1 (wrap64 (t290 - 1)) a2) else (none)) else (none)) else (impl_TakeToken.j1 kj4 t290 t292 t293 t294 false a1 (wrap64 (t290 - 1)) a2))) = some (r1, r2, r3) := H
        have A10 := Aside0.mk A100
        clear A100
        replace H := Option.bind_eq_some_iff.mp H
        obtain ⟨t294, A110, H⟩ := H
        replace H : (if t293 = true then (if 0 ≤ t292 then (if t292 < (l0.length : Int) then (impl_TakeToken.j1 kj4 t290 t292 t293 t294 (decide (a2 < ((rd_T74 l0 t292).f2))) a1 (wrap64 (t290 - 1)) a2) else (none)) else (none)) else (impl_TakeToken.j1 kj4 t290 t292 t293 t294 false a1 (wrap64 (t290 - 1)) a2)) = some (r1, r2, r3) := H
        have A11 := Aside0.mk A110
        clear A110
        have HC12 := Aside0.mk H
        clear H
        go_upto_region 7 with (first | ((with_reducible refine gate_callee (f := 73) rfl ?_); refine goesL_ (some 28) rfl rfl Tryz.func73 (by kernel_rfl) rfl #[.slice A0 l0.length c0, .int .i64 a1] rfl (z10_) ?_; (with_reducible refine (impl_bucketPlace.calls kj4 _ _ l0 a1 t292 t293 _ ?side1 ?side2 A10.out).mono ?_); (case side1 => exact z4_); (case side2 => exact HC0.out); rintro e w13 ⟨rfl, hb⟩; refine ⟨_, rfl, ?_⟩; have n0_ := Aside0.mk (below_step (z12_) hb); clear HB; have HB := n0_; clear n0_; (try clear hb); (try clear hb2); (try clear hk); (try clear hi)) | ((with_reducible refine gate_callee (f := 74) rfl ?_); refine goesL_ (some 32) rfl rfl Tryz.func74 (by kernel_rfl) rfl #[.slice A0 l0.length c0] rfl (z10_) ?_; (with_reducible refine (impl_Bucket_74.calls _ _ l0 t294 _ ?side1 ?side2 A11.out).mono ?_); (case side1 => exact z4_); (case side2 => exact HC0.out); rintro e w14 ⟨v295, rfl, ho0, hb⟩; refine ⟨_, rfl, ?_⟩; have n0_ := Aside0.mk (Kd.R_lower ho0 (below_size (z12_))); have n1_ := Aside0.mk (below_step (z12_) hb); clear HB; have HO296 := n0_; have HB := n1_; clear n0_ n1_; (try clear hb); (try clear hb2); (try clear hk); (try clear hi); (try clear ho0)) | ((with_reducible refine gate_dst (N := 13) rfl ?_); refine box_event ?hg (N := 13) ?hd (cs := #[.int .i64 0, .int .i64 0, .int .i64 0]) (t := 74) ?hr ?_; (case hd => rfl); (case hg => rfl); (case hr => first | (go_simp; done) | (go_simp; rfl)); intro gb297 hg w15 hbox hb; have n0_ := Aside0.mk (Kd.R_below (Kd.R_elderB (by (with_reducible repeat (first | apply Kd.R_alloc | apply Kd.R_drewN | apply Kd.R_drew)); exact HO296.out) gb297 (Nat.le_of_eq hg.symm)) hb); have n1_ := Aside0.mk (below_step (z12_) hb); have n2_ := Aside0.mk (hbox); have n3_ := Aside0.mk ((z7_ : w.heap.size ≤ gb297)); have n4_ := Aside0.mk ((z7_ : w.heap.size ≤ gb297)); clear HO296; clear HB; have HO296 := n0_; have HB := n1_; have BK297 := n2_; have GW297 := n3_; have GE297 := n4_; clear n0_ n1_ n2_ n3_ n4_; clear hb hbox hg; have hcz16_0 : w15.cell? ⟨gb297, 0, none⟩ = some (.int .i64 0) := (blk_cell BK297.out 0).trans rfl; have hcz16_1 : w15.cell? ⟨gb297, 1, none⟩ = some (.int .i64 0) := (blk_cell BK297.out 1).trans rfl; have hcz16_2 : w15.cell? ⟨gb297, 2, none⟩ = some (.int .i64 0) := (blk_cell BK297.out 2).trans rfl; have hfz16_0 := blk_frozen BK297.out 0; have hfz16_1 := blk_frozen BK297.out 1; have hfz16_2 := blk_frozen BK297.out 2))
        (try simp only [Act.put, List.setIfInBounds_toArray, List.set_cons_zero, List.set_cons_succ])
        go_cut [43] (fun v43 wc => ∃ (kq : Nat) (x43_11 : Bool), v43 = .bool x43_11 ∧ Aside0 (impl_TakeToken.j1 kq t290 t292 t293 t294 x43_11 a1 (wrap64 (t290 - 1)) a2 = some (r1, r2, r3)) ∧ Aside0 (kq ≤ kj4) ∧ Aside0 (Kd.R k74 74 wc w.heap.size (fun k_ => k_ ≠ gb297) v295 t294) ∧ Aside0 (wc.heap[gb297]? = some (.cells #[.int .i64 a1, .int .i64 (wrap64 (t290 - 1)), .int .i64 a2] 74 (0, 0))) ∧ Aside0 (Below w.heap.size w wc))
        case first =>
          have H := HC12.out
          clear HC12
          by_cases c17 : t293 = true
          · subst c17
            have H1 : (if 0 ≤ t292 then (if t292 < (l0.length : Int) then (impl_TakeToken.j1 kj4 t290 t292 true t294 (decide (a2 < ((rd_T74 l0 t292).f2))) a1 (wrap64 (t290 - 1)) a2) else (none)) else (none)) = some (r1, r2, r3) := by rw [if_pos rfl] at H; exact H
            clear H
            have H := H1
            clear H1
            by_cases c18 : 0 ≤ t292
            · rw [if_pos c18] at H
              have c18b0 : decide (0 ≤ t292) = true := decide_eq_true c18
              clear c18
              (first | rw [c18b0] | (simp only [i64_w, i32_w]; rw [c18b0]) | skip)
              by_cases c19 : t292 < (l0.length : Int)
              · rw [if_pos c19] at H
                have c19b0 : decide (t292 < (l0.length : Int)) = true := decide_eq_true c19
                clear c19
                have H' := Aside0.mk H
                clear H
                have p298 : 0 ≤ (t292 : Int) := of_decide_eq_true (z24_)
                have q298 : t292 < (l0.length : Int) := of_decide_eq_true (z24_)
                obtain ⟨ad298, e298, hx298_0, hx298_1, hx298_2⟩ := at_T74 HR0.out t292 p298 q298
                cases e298
                have hn298_0 : ad298.block ≠ gb297 := Nat.ne_of_lt (Nat.lt_of_lt_of_le (z21_) GW297.out)
                have hn298_1 : ad298.block ≠ gb297 := Nat.ne_of_lt (Nat.lt_of_lt_of_le (z21_) GW297.out)
                have hn298_2 : ad298.block ≠ gb297 := Nat.ne_of_lt (Nat.lt_of_lt_of_le (z21_) GW297.out)
                replace hx298_0 := (HB.out.cell (World.block_lt_of_cell? w _ hx298_0)).trans hx298_0
                replace hx298_1 := (HB.out.cell (World.block_lt_of_cell? w _ hx298_1)).trans hx298_1
                replace hx298_2 := (HB.out.cell (World.block_lt_of_cell? w _ hx298_2)).trans hx298_2
                replace hx298_0 := (cell_far (p := ⟨gb297, 0, none⟩) (z13_) (.int .i64 a1)).trans hx298_0
                replace hx298_1 := (cell_far (p := ⟨gb297, 0, none⟩) (z13_) (.int .i64 a1)).trans hx298_1
                replace hx298_2 := (cell_far (p := ⟨gb297, 0, none⟩) (z13_) (.int .i64 a1)).trans hx298_2
                replace hx298_0 := (cell_far (p := ⟨gb297, 1, none⟩) (z14_) (.int .i64 (wrap64 (t290 - 1)))).trans hx298_0
                replace hx298_1 := (cell_far (p := ⟨gb297, 1, none⟩) (z14_) (.int .i64 (wrap64 (t290 - 1)))).trans hx298_1
                replace hx298_2 := (cell_far (p := ⟨gb297, 1, none⟩) (z14_) (.int .i64 (wrap64 (t290 - 1)))).trans hx298_2
                replace hx298_0 := (cell_far (p := ⟨gb297, 2, none⟩) (z15_) (.int .i64 a2)).trans hx298_0
                replace hx298_1 := (cell_far (p := ⟨gb297, 2, none⟩) (z15_) (.int .i64 a2)).trans hx298_1
                replace hx298_2 := (cell_far (p := ⟨gb297, 2, none⟩) (z15_) (.int .i64 a2)).trans hx298_2
                clear hn298_0
                clear hn298_1
                clear hn298_2
                replace p298 := eq_true p298
                replace q298 := eq_true q298
                go_wp2
                go_meet
                case rel => exact ⟨_, (decide (a2 < ((rd_T74 l0 t292).f2))), (z25_), H', ⟨by have := HJ4.out; first | omega | exact Nat.le_refl _⟩, ⟨z2_⟩, ⟨z1_⟩, ⟨z8_⟩⟩
              · rw [if_neg c19] at H
                exact absurd H (by simp)
            · rw [if_neg c18] at H
              exact absurd H (by simp)
          · replace c17 := Bool.eq_false_iff.mpr c17
            subst c17
            have H1 : (impl_TakeToken.j1 kj4 t290 t292 false t294 false a1 (wrap64 (t290 - 1)) a2) = some (r1, r2, r3) := by rw [if_neg (show ¬ (false = true) by decide)] at H; exact H
            clear H
            have H := H1
            clear H1
            have H' := Aside0.mk H
            clear H
            go_wp2
            go_meet
            case rel => exact ⟨_, (false), (z25_), H', ⟨by have := HJ4.out; first | omega | exact Nat.le_refl _⟩, ⟨z2_⟩, ⟨z1_⟩, ⟨z8_⟩⟩
        case rest =>
          clear HC12
          try clear c1
          try clear p2
          try clear q2
          try clear hx2
          try clear c4
          try clear p6
          try clear c7
          try clear c7b0
          try clear c9
          try clear c17
          try clear c18
          try clear c18b0
          try clear c19
          try clear c19b0
          try clear hcz16_0
          try clear hcz16_1
          try clear hcz16_2
          try clear hfz16_0
          try clear hfz16_1
          try clear hfz16_2
          try clear hx298_0
          try clear hx298_1
          try clear hx298_2
          try clear p2
          try clear p298
          try clear q298
          obtain ⟨kq, x43_11, rfl, HA, HJ11, HO_12, BK297, HB⟩ := hcut
          cases kq with
          | zero => exact absurd HA.out (by simp [impl_TakeToken.j1])
          | succ kj11 =>
            have H := HA.out
            clear HA
            simp only [impl_TakeToken.j1] at H
            by_cases c20 : x43_11 = true
            · subst c20
              have H1 : (some (([] : List (S74)), false, false)) = some (r1, r2, r3) := by rw [if_pos rfl] at H; exact H
              clear H
              have H := H1
              clear H1
              simp only [Option.some.injEq, Prod.mk.injEq] at H
              obtain ⟨rfl, rfl, rfl⟩ := H
              go_wp2
              go_ret3
              exact ⟨_, z20_, z9_, z8_⟩
            · replace c20 := Bool.eq_false_iff.mpr c20
              subst c20
              have H1 : (if t290 = 0 then (some (t294, false, true)) else (if t293 = true then (if 0 ≤ t292 then (if t292 < (t294.length : Int) then ((some (t294.set (t292 : Int).toNat (⟨a1, (wrap64 (t290 - 1)), a2⟩ : S74) : List (S74))).bind fun y299 => ((impl_ValidBuckets.f y299).bind fun t300 => (if t300 = true then (some (y299, true, true)) else (some (([] : List (S74)), false, false))))) else (none)) else (none)) else ((impl_Bucket_75.f t294 t292 (([(⟨a1, (wrap64 (t290 - 1)), a2⟩ : S74)] : List (S74)))).bind fun t304 => ((impl_ValidBuckets.f t304).bind fun t307 => (if t307 = true then (some (t304, true, true)) else (some (([] : List (S74)), false, false))))))) = some (r1, r2, r3) := by rw [if_neg (show ¬ (false = true) by decide)] at H; exact H
              clear H
              have H := H1
              clear H1
              by_cases c21 : t290 = 0
              · rw [if_pos c21] at H
                have c21b0 : (t290 == 0) = true := beq_iff_eq.mpr c21
                have c21b1 : (t290 != 0) = false := bne_eq_false_iff_eq.mpr c21
                clear c21
                simp only [Option.some.injEq, Prod.mk.injEq] at H
                obtain ⟨rfl, rfl, rfl⟩ := H
                go_wp2
                go_ret3
                exact ⟨_, z20_, z11_, z8_⟩
              · rw [if_neg c21] at H
                have c21b0 : (t290 == 0) = false := beq_eq_false_iff_ne.mpr c21
                have c21b1 : (t290 != 0) = true := bne_iff_ne.mpr c21
                by_cases c22 : t293 = true
                · subst c22
                  have H1 : (if 0 ≤ t292 then (if t292 < (t294.length : Int) then ((some (t294.set (t292 : Int).toNat (⟨a1, (wrap64 (t290 - 1)), a2⟩ : S74) : List (S74))).bind fun y299 => ((impl_ValidBuckets.f y299).bind fun t300 => (if t300 = true then (some (y299, true, true)) else (some (([] : List (S74)), false, false))))) else (none)) else (none)) = some (r1, r2, r3) := by rw [if_pos rfl] at H; exact H
                  clear H
                  have H := H1
                  clear H1
                  by_cases c23 : 0 ≤ t292
                  · rw [if_pos c23] at H
                    have c23b0 : decide (0 ≤ t292) = true := decide_eq_true c23
                    clear c23
                    by_cases c24 : t292 < (t294.length : Int)
                    · rw [if_pos c24] at H
                      have c24b0 : decide (t292 < (t294.length : Int)) = true := decide_eq_true c24
                      clear c24
                      obtain ⟨y299, hy299⟩ : ∃ y_ : List (S74), y_ = (t294.set (t292 : Int).toNat (⟨a1, (wrap64 (t290 - 1)), a2⟩ : S74)) := ⟨_, rfl⟩
                      replace H : ((impl_ValidBuckets.f y299).bind fun t300 => (if t300 = true then (some (y299, true, true)) else (some (([] : List (S74)), false, false)))) = some (r1, r2, r3) := by first | (rw [hy299]; with_reducible exact H) | (have H2_ := (Option.bind_some _ _).symm.trans H; rw [hy299]; with_reducible exact H2_) | (have H2_ := (Option.bind_some _ _).symm.trans H; with_reducible exact H2_) | with_reducible exact H | (rw [hy299]; exact H) | exact H
                      have Ny299 := Aside0.mk hy299
                      clear hy299
                      replace H := Option.bind_eq_some_iff.mp H
                      obtain ⟨t300, A260, H⟩ := H
                      replace H : (if t300 = true then (some (y299, true, true)) else (some (([] : List (S74)), false, false))) = some (r1, r2, r3) := H
                      have A26 := Aside0.mk A260
                      clear A260
                      by_cases c27 : t300 = true
                      · subst c27
                        have H1 : (some (y299, true, true)) = some (r1, r2, r3) := by rw [if_pos rfl] at H; exact H
                        clear H
                        have H := H1
                        clear H1
                        simp only [Option.some.injEq, Prod.mk.injEq] at H
                        obtain ⟨rfl, rfl, rfl⟩ := H
                        have hcz28_0 : wc.cell? ⟨gb297, 0, none⟩ = some (.int .i64 a1) := (blk_cell BK297.out 0).trans rfl
                        have hcz28_1 : wc.cell? ⟨gb297, 1, none⟩ = some (.int .i64 (wrap64 (t290 - 1))) := (blk_cell BK297.out 1).trans rfl
                        have hcz28_2 : wc.cell? ⟨gb297, 2, none⟩ = some (.int .i64 a2) := (blk_cell BK297.out 2).trans rfl
                        have hfz28_0 := blk_frozen BK297.out 0
                        have hfz28_1 := blk_frozen BK297.out 1
                        have hfz28_2 := blk_frozen BK297.out 2
                        have p25 : 0 ≤ (t292 : Int) := of_decide_eq_true (z24_)
                        have q25 : (t292 : Int) < ((t294.length : Int) : Int) := of_decide_eq_true (z24_)
                        obtain ⟨go25, co25, eo25, gb25, gl25, cl25, HG25⟩ := Kd.R_form HO_12.out (by omega)
                        (first | cases eo25 | (injection eo25 with ea_ en_ ec_; (first | subst ea_ | (injection ea_ with ea_; subst ea_)); subst ec_; clear en_))
                        have GB25 := Aside0.mk gb25
                        have GG25 := Aside0.mk HG25
                        clear gb25 gl25 HG25
                        obtain ⟨ce25, hcl25, hM25, hcc25, hfr25⟩ := Kd.R_elem HO_12.out z74 (t292 : Int) p25 q25
                        obtain rfl := k74_openM hM25
                        have hx25_0 : wc.cell? ⟨go25, (t292 : Int).toNat * 3, none⟩ = some (.int .i64 ((rd_T74 t294 t292).f0)) := hcc25 0 _ rfl
                        have hx25_1 : wc.cell? ⟨go25, (t292 : Int).toNat * 3 + 1, none⟩ = some (.int .i64 ((rd_T74 t294 t292).f1)) := hcc25 1 _ rfl
                        have hx25_2 : wc.cell? ⟨go25, (t292 : Int).toNat * 3 + 2, none⟩ = some (.int .i64 ((rd_T74 t294 t292).f2)) := hcc25 2 _ rfl
                        have hf25_0 : wc.frozen? ⟨go25, (t292 : Int).toNat * 3, none⟩ = false := hfr25 0
                        have hf25_1 : wc.frozen? ⟨go25, (t292 : Int).toNat * 3 + 1, none⟩ = false := hfr25 1
                        have hf25_2 : wc.frozen? ⟨go25, (t292 : Int).toNat * 3 + 2, none⟩ = false := hfr25 2
                        clear hcl25 hcc25 hfr25 hM25
                        replace p25 := eq_true p25
                        replace q25 := eq_true q25
                        have HX29 := Aside0.mk (show Kd.R k74 74 wc w.heap.size (fun k_ => k_ ≠ gb297) (.slice (some ⟨go25, 0, none⟩) t294.length co25) t294 from (z17_))
                        obtain ⟨ce29, hcl29, hM29, hcc29, hfr29⟩ := Kd.R_elem HX29.out z74 (t292 : Int) (of_decide_eq_true (z24_)) (by have h_ : (t292 : Int) < ((t294.length : Int) : Int) := of_decide_eq_true (z24_); first | exact h_ | (have e_ := (Kd.R_reads' HO_12.out).1; omega) | simpa using h_)
                        obtain rfl := k74_openM hM29
                        have HP29 := Kd.R_seg HX29.out (t292 : Int) (of_decide_eq_true (z24_)) (by have h_ : (t292 : Int) < ((t294.length : Int) : Int) := of_decide_eq_true (z24_); first | exact h_ | (have e_ := (Kd.R_reads' HO_12.out).1; omega) | simpa using h_) (seg := [.int .i64 a1, .int .i64 (wrap64 (t290 - 1)), .int .i64 a2]) (j := 0) hcl29 hcc29 (show 3 ≤ 3 from by decide) (x' := (⟨a1, (wrap64 (t290 - 1)), a2⟩ : S74)) (k74_mkM _ _ _ (⟨a1, (wrap64 (t290 - 1)), a2⟩ : S74) ) (fun _ hk => hk)
                        have hx29_0 := hcc29 0 _ rfl
                        (try simp only [show (k74).sz = 3 from rfl, Nat.mul_one, Nat.add_zero] at hx29_0)
                        have hf29_0 := hfr29 0
                        (try simp only [show (k74).sz = 3 from rfl, Nat.mul_one, Nat.add_zero] at hf29_0)
                        have hx29_1 := hcc29 1 _ rfl
                        (try simp only [show (k74).sz = 3 from rfl, Nat.mul_one, Nat.add_zero] at hx29_1)
                        have hf29_1 := hfr29 1
                        (try simp only [show (k74).sz = 3 from rfl, Nat.mul_one, Nat.add_zero] at hf29_1)
                        have hx29_2 := hcc29 2 _ rfl
                        (try simp only [show (k74).sz = 3 from rfl, Nat.mul_one, Nat.add_zero] at hx29_2)
                        have hf29_2 := hfr29 2
                        (try simp only [show (k74).sz = 3 from rfl, Nat.mul_one, Nat.add_zero] at hf29_2)
                        clear hcl29 hcc29 hfr29 hM29
                        go_wp2_with (first | ((with_reducible refine gate_store (t := 74) (p := 63) rfl ?_); refine store_event (t := 74) (p := 63) (v := ?vo_w30) (w1 := (((wc.setCell ⟨go25, (t292 : Int).toNat * 3, none⟩ (.int .i64 a1)).setCell ⟨go25, (t292 : Int).toNat * 3 + 1, none⟩ (.int .i64 (wrap64 (t290 - 1)))).setCell ⟨go25, (t292 : Int).toNat * 3 + 2, none⟩ (.int .i64 a2))) ?hg ?ho ?hn ?hr ?_; (case ho => rfl); (case hg => rfl); (case hn => rfl); (case hr => first | (go_simp; done) | (go_simp; rfl)); intro w30 hw; have hg : wc.grownBy w30 (some go25) := (by rw [hw]; exact HP29.2); have hp_ : Kd.R k74 74 w30 w.heap.size (fun k_ => k_ ≠ gb297) (.slice (some ⟨go25, 0, none⟩) t294.length co25) y299 := (by rw [hw, Ny299.out]; exact HP29.1); clear HP29; have n0_ := Aside0.mk (hp_); have n1_ := Aside0.mk (blk_grown (g := gb297) (o := .cells #[.int .i64 a1, .int .i64 (wrap64 (t290 - 1)), .int .i64 a2] 74 (0, 0)) (z16_) hg (Kd.R_away HO_12.out (fun _ hk => hk))); have n2_ := Aside0.mk ((z22_ : Below w.heap.size w w30)); clear HO_12; clear BK297; clear HB; have HO_12 := n0_; have BK297 := n1_; have HB := n2_; clear n0_ n1_ n2_; clear hg hw hp_) | ((with_reducible refine gate_callee (f := 76) rfl ?_); refine goesL_ (some 65) rfl rfl Tryz.func76 (by kernel_rfl) rfl #[.slice (some ⟨go25, 0, none⟩) y299.length co25] rfl (z3_) ?_; (with_reducible refine (impl_ValidBuckets.calls _ _ y299 true _ ?side1 ?side2 A26.out).mono ?_); (case side1 => exact z5_); (case side2 => rw [show y299.length = t294.length from (Kd.R_reads' HO_12.out).1.symm]; exact (Kd.R_reads' HO_12.out).2.1); rintro e w31 ⟨rfl, hb⟩; refine ⟨_, rfl, ?_⟩; have n0_ := Aside0.mk (Kd.R_below (z17_) hb); have n1_ := Aside0.mk (blk_below (g := gb297) (o := .cells #[.int .i64 a1, .int .i64 (wrap64 (t290 - 1)), .int .i64 a2] 74 (0, 0)) (z16_) hb); have n2_ := Aside0.mk (below_step (z8_) hb); clear HO_12; clear BK297; clear HB; have HO_12 := n0_; have BK297 := n1_; have HB := n2_; clear n0_ n1_ n2_; (try clear hb); (try clear hb2); (try clear hk); (try clear hi)))
                        go_ret3
                        exact ⟨_, z20_, z11_, z8_⟩
                      · replace c27 := Bool.eq_false_iff.mpr c27
                        subst c27
                        have H1 : (some (([] : List (S74)), false, false)) = some (r1, r2, r3) := by rw [if_neg (show ¬ (false = true) by decide)] at H; exact H
                        clear H
                        have H := H1
                        clear H1
                        simp only [Option.some.injEq, Prod.mk.injEq] at H
                        obtain ⟨rfl, rfl, rfl⟩ := H
                        have hcz32_0 : wc.cell? ⟨gb297, 0, none⟩ = some (.int .i64 a1) := (blk_cell BK297.out 0).trans rfl
                        have hcz32_1 : wc.cell? ⟨gb297, 1, none⟩ = some (.int .i64 (wrap64 (t290 - 1))) := (blk_cell BK297.out 1).trans rfl
                        have hcz32_2 : wc.cell? ⟨gb297, 2, none⟩ = some (.int .i64 a2) := (blk_cell BK297.out 2).trans rfl
                        have hfz32_0 := blk_frozen BK297.out 0
                        have hfz32_1 := blk_frozen BK297.out 1
                        have hfz32_2 := blk_frozen BK297.out 2
                        have p25 : 0 ≤ (t292 : Int) := of_decide_eq_true (z24_)
                        have q25 : (t292 : Int) < ((t294.length : Int) : Int) := of_decide_eq_true (z24_)
                        obtain ⟨go25, co25, eo25, gb25, gl25, cl25, HG25⟩ := Kd.R_form HO_12.out (by omega)
                        (first | cases eo25 | (injection eo25 with ea_ en_ ec_; (first | subst ea_ | (injection ea_ with ea_; subst ea_)); subst ec_; clear en_))
                        have GB25 := Aside0.mk gb25
                        have GG25 := Aside0.mk HG25
                        clear gb25 gl25 HG25
                        obtain ⟨ce25, hcl25, hM25, hcc25, hfr25⟩ := Kd.R_elem HO_12.out z74 (t292 : Int) p25 q25
                        obtain rfl := k74_openM hM25
                        have hx25_0 : wc.cell? ⟨go25, (t292 : Int).toNat * 3, none⟩ = some (.int .i64 ((rd_T74 t294 t292).f0)) := hcc25 0 _ rfl
                        have hx25_1 : wc.cell? ⟨go25, (t292 : Int).toNat * 3 + 1, none⟩ = some (.int .i64 ((rd_T74 t294 t292).f1)) := hcc25 1 _ rfl
                        have hx25_2 : wc.cell? ⟨go25, (t292 : Int).toNat * 3 + 2, none⟩ = some (.int .i64 ((rd_T74 t294 t292).f2)) := hcc25 2 _ rfl
                        have hf25_0 : wc.frozen? ⟨go25, (t292 : Int).toNat * 3, none⟩ = false := hfr25 0
                        have hf25_1 : wc.frozen? ⟨go25, (t292 : Int).toNat * 3 + 1, none⟩ = false := hfr25 1
                        have hf25_2 : wc.frozen? ⟨go25, (t292 : Int).toNat * 3 + 2, none⟩ = false := hfr25 2
                        clear hcl25 hcc25 hfr25 hM25
                        replace p25 := eq_true p25
                        replace q25 := eq_true q25
                        have HX33 := Aside0.mk (show Kd.R k74 74 wc w.heap.size (fun k_ => k_ ≠ gb297) (.slice (some ⟨go25, 0, none⟩) t294.length co25) t294 from (z17_))
                        obtain ⟨ce33, hcl33, hM33, hcc33, hfr33⟩ := Kd.R_elem HX33.out z74 (t292 : Int) (of_decide_eq_true (z24_)) (by have h_ : (t292 : Int) < ((t294.length : Int) : Int) := of_decide_eq_true (z24_); first | exact h_ | (have e_ := (Kd.R_reads' HO_12.out).1; omega) | simpa using h_)
                        obtain rfl := k74_openM hM33
                        have HP33 := Kd.R_seg HX33.out (t292 : Int) (of_decide_eq_true (z24_)) (by have h_ : (t292 : Int) < ((t294.length : Int) : Int) := of_decide_eq_true (z24_); first | exact h_ | (have e_ := (Kd.R_reads' HO_12.out).1; omega) | simpa using h_) (seg := [.int .i64 a1, .int .i64 (wrap64 (t290 - 1)), .int .i64 a2]) (j := 0) hcl33 hcc33 (show 3 ≤ 3 from by decide) (x' := (⟨a1, (wrap64 (t290 - 1)), a2⟩ : S74)) (k74_mkM _ _ _ (⟨a1, (wrap64 (t290 - 1)), a2⟩ : S74) ) (fun _ hk => hk)
                        have hx33_0 := hcc33 0 _ rfl
                        (try simp only [show (k74).sz = 3 from rfl, Nat.mul_one, Nat.add_zero] at hx33_0)
                        have hf33_0 := hfr33 0
                        (try simp only [show (k74).sz = 3 from rfl, Nat.mul_one, Nat.add_zero] at hf33_0)
                        have hx33_1 := hcc33 1 _ rfl
                        (try simp only [show (k74).sz = 3 from rfl, Nat.mul_one, Nat.add_zero] at hx33_1)
                        have hf33_1 := hfr33 1
                        (try simp only [show (k74).sz = 3 from rfl, Nat.mul_one, Nat.add_zero] at hf33_1)
                        have hx33_2 := hcc33 2 _ rfl
                        (try simp only [show (k74).sz = 3 from rfl, Nat.mul_one, Nat.add_zero] at hx33_2)
                        have hf33_2 := hfr33 2
                        (try simp only [show (k74).sz = 3 from rfl, Nat.mul_one, Nat.add_zero] at hf33_2)
                        clear hcl33 hcc33 hfr33 hM33
                        go_wp2_with (first | ((with_reducible refine gate_store (t := 74) (p := 63) rfl ?_); refine store_event (t := 74) (p := 63) (v := ?vo_w34) (w1 := (((wc.setCell ⟨go25, (t292 : Int).toNat * 3, none⟩ (.int .i64 a1)).setCell ⟨go25, (t292 : Int).toNat * 3 + 1, none⟩ (.int .i64 (wrap64 (t290 - 1)))).setCell ⟨go25, (t292 : Int).toNat * 3 + 2, none⟩ (.int .i64 a2))) ?hg ?ho ?hn ?hr ?_; (case ho => rfl); (case hg => rfl); (case hn => rfl); (case hr => first | (go_simp; done) | (go_simp; rfl)); intro w34 hw; have hg : wc.grownBy w34 (some go25) := (by rw [hw]; exact HP33.2); have hp_ : Kd.R k74 74 w34 w.heap.size (fun k_ => k_ ≠ gb297) (.slice (some ⟨go25, 0, none⟩) t294.length co25) y299 := (by rw [hw, Ny299.out]; exact HP33.1); clear HP33; have n0_ := Aside0.mk (hp_); have n1_ := Aside0.mk (blk_grown (g := gb297) (o := .cells #[.int .i64 a1, .int .i64 (wrap64 (t290 - 1)), .int .i64 a2] 74 (0, 0)) (z16_) hg (Kd.R_away HO_12.out (fun _ hk => hk))); have n2_ := Aside0.mk ((z22_ : Below w.heap.size w w34)); clear HO_12; clear BK297; clear HB; have HO_12 := n0_; have BK297 := n1_; have HB := n2_; clear n0_ n1_ n2_; clear hg hw hp_) | ((with_reducible refine gate_callee (f := 76) rfl ?_); refine goesL_ (some 65) rfl rfl Tryz.func76 (by kernel_rfl) rfl #[.slice (some ⟨go25, 0, none⟩) y299.length co25] rfl (z3_) ?_; (with_reducible refine (impl_ValidBuckets.calls _ _ y299 false _ ?side1 ?side2 A26.out).mono ?_); (case side1 => exact z5_); (case side2 => rw [show y299.length = t294.length from (Kd.R_reads' HO_12.out).1.symm]; exact (Kd.R_reads' HO_12.out).2.1); rintro e w35 ⟨rfl, hb⟩; refine ⟨_, rfl, ?_⟩; have n0_ := Aside0.mk (Kd.R_below (z17_) hb); have n1_ := Aside0.mk (blk_below (g := gb297) (o := .cells #[.int .i64 a1, .int .i64 (wrap64 (t290 - 1)), .int .i64 a2] 74 (0, 0)) (z16_) hb); have n2_ := Aside0.mk (below_step (z8_) hb); clear HO_12; clear BK297; clear HB; have HO_12 := n0_; have BK297 := n1_; have HB := n2_; clear n0_ n1_ n2_; (try clear hb); (try clear hb2); (try clear hk); (try clear hi)))
                        go_ret3
                        exact ⟨_, z20_, z9_, z8_⟩
                    · rw [if_neg c24] at H
                      exact absurd H (by simp)
                  · rw [if_neg c23] at H
                    exact absurd H (by simp)
                · replace c22 := Bool.eq_false_iff.mpr c22
                  subst c22
                  have H1 : ((impl_Bucket_75.f t294 t292 (([(⟨a1, (wrap64 (t290 - 1)), a2⟩ : S74)] : List (S74)))).bind fun t304 => ((impl_ValidBuckets.f t304).bind fun t307 => (if t307 = true then (some (t304, true, true)) else (some (([] : List (S74)), false, false))))) = some (r1, r2, r3) := by rw [if_neg (show ¬ (false = true) by decide)] at H; exact H
                  clear H
                  have H := H1
                  clear H1
                  obtain ⟨y301, hy301⟩ : ∃ y_ : List (S74), y_ = (([(⟨a1, (wrap64 (t290 - 1)), a2⟩ : S74)] : List (S74))) := ⟨_, rfl⟩
                  replace H : ((impl_Bucket_75.f t294 t292 y301).bind fun t304 => ((impl_ValidBuckets.f t304).bind fun t307 => (if t307 = true then (some (t304, true, true)) else (some (([] : List (S74)), false, false))))) = some (r1, r2, r3) := by first | (rw [hy301]; with_reducible exact H) | (have H2_ := (Option.bind_some _ _).symm.trans H; rw [hy301]; with_reducible exact H2_) | (have H2_ := (Option.bind_some _ _).symm.trans H; with_reducible exact H2_) | with_reducible exact H | (rw [hy301]; exact H) | exact H
                  have Ny301 := Aside0.mk hy301
                  clear hy301
                  replace H := Option.bind_eq_some_iff.mp H
                  obtain ⟨t304, A360, H⟩ := H
                  replace H : ((impl_ValidBuckets.f t304).bind fun t307 => (if t307 = true then (some (t304, true, true)) else (some (([] : List (S74)), false, false)))) = some (r1, r2, r3) := H
                  have A36 := Aside0.mk A360
                  clear A360
                  replace H := Option.bind_eq_some_iff.mp H
                  obtain ⟨t307, A370, H⟩ := H
                  replace H : (if t307 = true then (some (t304, true, true)) else (some (([] : List (S74)), false, false))) = some (r1, r2, r3) := H
                  have A37 := Aside0.mk A370
                  clear A370
                  by_cases c38 : t307 = true
                  · subst c38
                    have H1 : (some (t304, true, true)) = some (r1, r2, r3) := by rw [if_pos rfl] at H; exact H
                    clear H
                    have H := H1
                    clear H1
                    simp only [Option.some.injEq, Prod.mk.injEq] at H
                    obtain ⟨rfl, rfl, rfl⟩ := H
                    have hcz39_0 : wc.cell? ⟨gb297, 0, none⟩ = some (.int .i64 a1) := (blk_cell BK297.out 0).trans rfl
                    have hcz39_1 : wc.cell? ⟨gb297, 1, none⟩ = some (.int .i64 (wrap64 (t290 - 1))) := (blk_cell BK297.out 1).trans rfl
                    have hcz39_2 : wc.cell? ⟨gb297, 2, none⟩ = some (.int .i64 a2) := (blk_cell BK297.out 2).trans rfl
                    have hfz39_0 := blk_frozen BK297.out 0
                    have hfz39_1 := blk_frozen BK297.out 1
                    have hfz39_2 := blk_frozen BK297.out 2
                    go_wp2_with (first | ((with_reducible refine gate_dst (N := 41) rfl ?_); refine Kd.R_lit k74 _ 74 ?hg (N := 41) ?hd (xs := ([(⟨a1, (wrap64 (t290 - 1)), a2⟩ : S74)] : List (S74))) (inner := [.int .i64 a1, .int .i64 (wrap64 (t290 - 1)), .int .i64 a2]) (ok := fun _ => True) (okp := fun _ => True) ?hr ?hp (fun _ hk => hk) trivial (Below.refl _ _) (Nat.le_refl _) (by simp) ?_; (case hd => rfl); (case hg => rfl); (case hr => first | (go_simp; done) | (go_simp; rfl)); (case hp => exact (Reps.c3 (show Kd.M k74 _ _ _ (⟨a1, (wrap64 (t290 - 1)), a2⟩ : S74) [.int .i64 a1, .int .i64 (wrap64 (t290 - 1)), .int .i64 a2] from (k74_mkM _ _ _ (⟨a1, (wrap64 (t290 - 1)), a2⟩ : S74) )) (Reps.none _ _))); intro v302 w40 ho41 hb hg_ hnew_; clear hg_ hnew_; (first | rw [← Ny301.out] at ho41 | (simp only [Int.reduceToNat] at ho41; rw [← Ny301.out] at ho41)); have n0_ := Aside0.mk (Kd.R_elder' (z17_) (Kd.R_base ho41) hb); have n1_ := Aside0.mk (Kd.R_lower (Kd.R_newB (Kd.R_new' ho41 (Kd.R_lt (z17_))) (g := gb297) (o := .cells #[.int .i64 a1, .int .i64 (wrap64 (t290 - 1)), .int .i64 a2] 74 (0, 0)) (z16_)) (below_size (z8_))); have n2_ := Aside0.mk (blk_below (g := gb297) (o := .cells #[.int .i64 a1, .int .i64 (wrap64 (t290 - 1)), .int .i64 a2] 74 (0, 0)) (z16_) hb); have n3_ := Aside0.mk (below_step (z8_) hb); clear HO_12; clear BK297; clear HB; have HO_12 := n0_; have HO303 := n1_; have BK297 := n2_; have HB := n3_; clear n0_ n1_ n2_ n3_; clear hb ho41; obtain ⟨Ao42, co42, eo42⟩ := Kd.R_slice HO_12.out; subst eo42; obtain ⟨Ao43, co43, eo43⟩ := Kd.R_slice HO303.out; subst eo43) | ((with_reducible refine gate_callee (f := 75) rfl ?_); refine goesL_ (some 42) rfl rfl Tryz.func75 (by kernel_rfl) rfl #[.slice Ao42 t294.length co42, .int .i64 t292, .slice Ao43 y301.length co43] rfl (z10_) ?_; (with_reducible refine (impl_Bucket_75.calls (fun k_ => some k_ = (.slice Ao42 t294.length co42 : Value).ownBlock) (.slice Ao42 t294.length co42) t294 t292 _ _ y301 t304 w _ (okv := ?okv1) ?side1 ?side2 ?side3 ?side5 A36.out).mono ?_); (case side1 => exact z8_); (case side2 => exact Kd.R_tight rfl HO_12.out); (case side3 => exact HO303.out); (case side5 => exact (fun k_ hk_ hs_ => (hk_.1.2) hs_)); rintro e w44 ⟨v305, rfl, ho0, hb, hkp⟩; refine ⟨_, rfl, ?_⟩; have n0_ := Aside0.mk (blk_kept (z16_) hkp (fun hs_ => (fun e_ => (Kd.R_away HO_12.out (fun _ hk => hk.1)) e_) hs_)); have n1_ := Aside0.mk (Kd.R_mono (ok' := fun k_ => k_ ≠ gb297 ∧ some k_ ≠ (v305 : Value).ownBlock) (Kd.R_keptB (HO303.out) hkp (fun k_ hk_ hs_ => (hk_.1.2) hs_)) (fun k_ hk_ => ⟨hk_.1.2, fun e_ => Or.elim (ho0.1 k_ e_.symm) (fun hs_ => hk_.2.1 hs_) (fun hn_ => Nat.not_le.2 hk_.2.2 hn_)⟩)); have n2_ := Aside0.mk (Kd.R_mono (ok' := fun k_ => some k_ ≠ (.slice Ao43 y301.length co43 : Value).ownBlock ∧ k_ ≠ gb297) ho0 (fun k_ hk_ => ⟨Or.elim hk_ (fun hs_ => fun e_ => (((HO303.out).1 k_ e_.symm).1.2) hs_) (fun hn_ => (Kd.fresh' (Kd.R_lt (z18_)) k_ hn_)), Or.elim hk_ (fun hs_ => fun e_ => (Kd.R_away HO_12.out (fun _ hk => hk.1)) (by rw [← e_]; exact hs_)) (fun hn_ => (Kd.freshB (g := gb297) (o := .cells #[.int .i64 a1, .int .i64 (wrap64 (t290 - 1)), .int .i64 a2] 74 (0, 0)) (z16_) k_ hn_))⟩)); have n3_ := Aside0.mk (hb); clear BK297; clear HO303; clear HB; clear HO_12; have BK297 := n0_; have HO303 := n1_; have HO306 := n2_; have HB := n3_; clear n0_ n1_ n2_ n3_; (try clear hb); (try clear hkp); (try clear ho0); obtain ⟨Ao45, co45, eo45⟩ := Kd.R_slice HO306.out; subst eo45) | ((with_reducible refine gate_callee (f := 76) rfl ?_); refine goesL_ (some 65) rfl rfl Tryz.func76 (by kernel_rfl) rfl #[.slice Ao45 t304.length co45] rfl (z10_) ?_; (with_reducible refine (impl_ValidBuckets.calls _ _ t304 true _ ?side1 ?side2 A37.out).mono ?_); (case side1 => exact z6_); (case side2 => exact (Kd.R_reads' HO306.out).2.1); rintro e w46 ⟨rfl, hb⟩; refine ⟨_, rfl, ?_⟩; have n0_ := Aside0.mk (Kd.R_below (z18_) hb); have n1_ := Aside0.mk (Kd.R_below (z19_) hb); have n2_ := Aside0.mk (blk_below (g := gb297) (o := .cells #[.int .i64 a1, .int .i64 (wrap64 (t290 - 1)), .int .i64 a2] 74 (0, 0)) (z16_) hb); have n3_ := Aside0.mk (below_step (z8_) hb); clear HO303; clear HO306; clear BK297; clear HB; have HO303 := n0_; have HO306 := n1_; have BK297 := n2_; have HB := n3_; clear n0_ n1_ n2_ n3_; (try clear hb); (try clear hb2); (try clear hk); (try clear hi)))
                    go_ret3
                    exact ⟨_, z20_, by (with_reducible repeat (first | apply Kd.R_alloc | apply Kd.R_drewN | apply Kd.R_drew)); exact Kd.R_mono HO306.out (fun _ hk => trivial), z8_⟩
                  · replace c38 := Bool.eq_false_iff.mpr c38
                    subst c38
                    have H1 : (some (([] : List (S74)), false, false)) = some (r1, r2, r3) := by rw [if_neg (show ¬ (false = true) by decide)] at H; exact H
                    clear H
                    have H := H1
                    clear H1
                    simp only [Option.some.injEq, Prod.mk.injEq] at H
                    obtain ⟨rfl, rfl, rfl⟩ := H
                    have hcz47_0 : wc.cell? ⟨gb297, 0, none⟩ = some (.int .i64 a1) := (blk_cell BK297.out 0).trans rfl
                    have hcz47_1 : wc.cell? ⟨gb297, 1, none⟩ = some (.int .i64 (wrap64 (t290 - 1))) := (blk_cell BK297.out 1).trans rfl
                    have hcz47_2 : wc.cell? ⟨gb297, 2, none⟩ = some (.int .i64 a2) := (blk_cell BK297.out 2).trans rfl
                    have hfz47_0 := blk_frozen BK297.out 0
                    have hfz47_1 := blk_frozen BK297.out 1
                    have hfz47_2 := blk_frozen BK297.out 2
                    go_wp2_with (first | ((with_reducible refine gate_dst (N := 41) rfl ?_); refine Kd.R_lit k74 _ 74 ?hg (N := 41) ?hd (xs := ([(⟨a1, (wrap64 (t290 - 1)), a2⟩ : S74)] : List (S74))) (inner := [.int .i64 a1, .int .i64 (wrap64 (t290 - 1)), .int .i64 a2]) (ok := fun _ => True) (okp := fun _ => True) ?hr ?hp (fun _ hk => hk) trivial (Below.refl _ _) (Nat.le_refl _) (by simp) ?_; (case hd => rfl); (case hg => rfl); (case hr => first | (go_simp; done) | (go_simp; rfl)); (case hp => exact (Reps.c3 (show Kd.M k74 _ _ _ (⟨a1, (wrap64 (t290 - 1)), a2⟩ : S74) [.int .i64 a1, .int .i64 (wrap64 (t290 - 1)), .int .i64 a2] from (k74_mkM _ _ _ (⟨a1, (wrap64 (t290 - 1)), a2⟩ : S74) )) (Reps.none _ _))); intro v302 w48 ho49 hb hg_ hnew_; clear hg_ hnew_; (first | rw [← Ny301.out] at ho49 | (simp only [Int.reduceToNat] at ho49; rw [← Ny301.out] at ho49)); have n0_ := Aside0.mk (Kd.R_elder' (z17_) (Kd.R_base ho49) hb); have n1_ := Aside0.mk (Kd.R_lower (Kd.R_newB (Kd.R_new' ho49 (Kd.R_lt (z17_))) (g := gb297) (o := .cells #[.int .i64 a1, .int .i64 (wrap64 (t290 - 1)), .int .i64 a2] 74 (0, 0)) (z16_)) (below_size (z8_))); have n2_ := Aside0.mk (blk_below (g := gb297) (o := .cells #[.int .i64 a1, .int .i64 (wrap64 (t290 - 1)), .int .i64 a2] 74 (0, 0)) (z16_) hb); have n3_ := Aside0.mk (below_step (z8_) hb); clear HO_12; clear BK297; clear HB; have HO_12 := n0_; have HO303 := n1_; have BK297 := n2_; have HB := n3_; clear n0_ n1_ n2_ n3_; clear hb ho49; obtain ⟨Ao50, co50, eo50⟩ := Kd.R_slice HO_12.out; subst eo50; obtain ⟨Ao51, co51, eo51⟩ := Kd.R_slice HO303.out; subst eo51) | ((with_reducible refine gate_callee (f := 75) rfl ?_); refine goesL_ (some 42) rfl rfl Tryz.func75 (by kernel_rfl) rfl #[.slice Ao50 t294.length co50, .int .i64 t292, .slice Ao51 y301.length co51] rfl (z10_) ?_; (with_reducible refine (impl_Bucket_75.calls (fun k_ => some k_ = (.slice Ao50 t294.length co50 : Value).ownBlock) (.slice Ao50 t294.length co50) t294 t292 _ _ y301 t304 w _ (okv := ?okv2) ?side1 ?side2 ?side3 ?side5 A36.out).mono ?_); (case side1 => exact z8_); (case side2 => exact Kd.R_tight rfl HO_12.out); (case side3 => exact HO303.out); (case side5 => exact (fun k_ hk_ hs_ => (hk_.1.2) hs_)); rintro e w52 ⟨v305, rfl, ho0, hb, hkp⟩; refine ⟨_, rfl, ?_⟩; have n0_ := Aside0.mk (blk_kept (z16_) hkp (fun hs_ => (fun e_ => (Kd.R_away HO_12.out (fun _ hk => hk.1)) e_) hs_)); have n1_ := Aside0.mk (Kd.R_mono (ok' := fun k_ => k_ ≠ gb297 ∧ some k_ ≠ (v305 : Value).ownBlock) (Kd.R_keptB (HO303.out) hkp (fun k_ hk_ hs_ => (hk_.1.2) hs_)) (fun k_ hk_ => ⟨hk_.1.2, fun e_ => Or.elim (ho0.1 k_ e_.symm) (fun hs_ => hk_.2.1 hs_) (fun hn_ => Nat.not_le.2 hk_.2.2 hn_)⟩)); have n2_ := Aside0.mk (Kd.R_mono (ok' := fun k_ => some k_ ≠ (.slice Ao51 y301.length co51 : Value).ownBlock ∧ k_ ≠ gb297) ho0 (fun k_ hk_ => ⟨Or.elim hk_ (fun hs_ => fun e_ => (((HO303.out).1 k_ e_.symm).1.2) hs_) (fun hn_ => (Kd.fresh' (Kd.R_lt (z18_)) k_ hn_)), Or.elim hk_ (fun hs_ => fun e_ => (Kd.R_away HO_12.out (fun _ hk => hk.1)) (by rw [← e_]; exact hs_)) (fun hn_ => (Kd.freshB (g := gb297) (o := .cells #[.int .i64 a1, .int .i64 (wrap64 (t290 - 1)), .int .i64 a2] 74 (0, 0)) (z16_) k_ hn_))⟩)); have n3_ := Aside0.mk (hb); clear BK297; clear HO303; clear HB; clear HO_12; have BK297 := n0_; have HO303 := n1_; have HO306 := n2_; have HB := n3_; clear n0_ n1_ n2_ n3_; (try clear hb); (try clear hkp); (try clear ho0); obtain ⟨Ao53, co53, eo53⟩ := Kd.R_slice HO306.out; subst eo53) | ((with_reducible refine gate_callee (f := 76) rfl ?_); refine goesL_ (some 65) rfl rfl Tryz.func76 (by kernel_rfl) rfl #[.slice Ao53 t304.length co53] rfl (z10_) ?_; (with_reducible refine (impl_ValidBuckets.calls _ _ t304 false _ ?side1 ?side2 A37.out).mono ?_); (case side1 => exact z6_); (case side2 => exact (Kd.R_reads' HO306.out).2.1); rintro e w54 ⟨rfl, hb⟩; refine ⟨_, rfl, ?_⟩; have n0_ := Aside0.mk (Kd.R_below (z18_) hb); have n1_ := Aside0.mk (Kd.R_below (z19_) hb); have n2_ := Aside0.mk (blk_below (g := gb297) (o := .cells #[.int .i64 a1, .int .i64 (wrap64 (t290 - 1)), .int .i64 a2] 74 (0, 0)) (z16_) hb); have n3_ := Aside0.mk (below_step (z8_) hb); clear HO303; clear HO306; clear BK297; clear HB; have HO303 := n0_; have HO306 := n1_; have BK297 := n2_; have HB := n3_; clear n0_ n1_ n2_ n3_; (try clear hb); (try clear hb2); (try clear hk); (try clear hi)))
                    go_ret3
                    exact ⟨_, z20_, z9_, z8_⟩

end Go.Proofs.YtdggcfpimjdckaaGreatDoor.PFnExactRunSession
