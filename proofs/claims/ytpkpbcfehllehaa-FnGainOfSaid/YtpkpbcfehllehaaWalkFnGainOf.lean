/- The walk of FnGainOf: down the ways that its plain law leaves, out of the print's own text; no condition of its own. -/
import Derived.Test.YtpkpbcfehllehaaPFnGainOfx
namespace Go.Proofs.Ytpkpbcfehllehaa.PFnGainOf
open Go.RowKit Go.Proofs.YtpkpbcfehllehaaW.PrintWords Go.Proofs.YtpkpbcfehllehaaW.PrintLast Go.Proofs.YtpkpbcfehllehaaW.PrintMore
attribute [local go_sem] max2_int min2_int max_two min_two max_three min_three max_four min_four
set_option linter.unusedVariables false
set_option linter.unusedSimpArgs false


/-! ### laws_FnGainOf: function 7 -/
def laws_FnGainOf.j0 : Nat → List (S40) → Int → Bool → Int → Bool → Bool → Option (Bool)
  | 0, _, _, _, _, _, _ => none
  | k + 1, x3, x4, x5, x6, x7, x44 => if x44 = true then (if x4 = x6 then (some (x5 == x7)) else (some false)) else (if 0 ≤ (wrap64 ((wrap64 ((x3.length : Int) / 2)) + 1)) then (if (wrap64 ((wrap64 ((x3.length : Int) / 2)) + 1)) ≤ (x3.length : Int) then ((impl_GainOf.f k (x3.take ((wrap64 ((wrap64 ((x3.length : Int) / 2)) + 1)) : Int).toNat)).bind fun bt232 => (if 0 ≤ (wrap64 ((x3.length : Int) / 2)) then (if (wrap64 ((x3.length : Int) / 2)) ≤ (x3.length : Int) then ((impl_GainOf.f k (x3.drop ((wrap64 ((x3.length : Int) / 2)) : Int).toNat)).bind fun bt238 => (if bt232.2 = true then (if bt238.2 = true then (some ((wrap64 (bt232.1 + bt238.1)) == x4)) else (some false)) else (some false))) else (none)) else (none))) else (none)) else (none))
def laws_FnGainOf.f (k : Nat) (l0 : List Int) : Option (Bool) := if (l0.length : Int) > 1048576 then (some true) else ((spec_DrawGainOf.f k l0).bind fun t221 => ((impl_GainOf.f k t221).bind fun bt224 => ((spec_GainOf.f k t221).bind fun bt226 => (if bt224.1 = bt226.1 then (if (bt224.2 != bt226.2) = true then (laws_FnGainOf.j0 k t221 bt224.1 bt224.2 bt226.1 bt226.2 true) else (if bt224.2 = true then (laws_FnGainOf.j0 k t221 bt224.1 bt224.2 bt226.1 bt226.2 (decide ((t221.length : Int) < 3))) else (laws_FnGainOf.j0 k t221 bt224.1 bt224.2 bt226.1 bt226.2 true))) else (laws_FnGainOf.j0 k t221 bt224.1 bt224.2 bt226.1 bt226.2 true)))))
set_option maxHeartbeats 8000000 in
set_option maxRecDepth 100000 in
theorem laws_FnGainOf.calls (k : Nat) (A0 : Option Addr) (c0 : Nat) (l0 : List Int) (r : Bool) (w : World) (hr0 : Kd.C (Kd.int .u8) w A0 l0.length l0) (hc0 : l0.length ≤ c0) (m : List S40) (hd : spec_DrawGainOf.f k l0 = some m) (HQ : Aside0 (∀ r r', impl_GainOf.f k m = some r → spec_GainOf.f k m = some r' → r = r')) (hr : r = true) (h : laws_FnGainOf.f k l0 = some r) :
    Calls Try.prog 7 #[.slice A0 l0.length c0] w fun e w' => e = .returned (.bool r) ∧ Below w.heap.size w w' := by
  have HR0 := Aside0.mk hr0
  have HC0 := Aside0.mk hc0
  clear hr0 hc0
  have Hr := Aside0.mk hr
  have HD := Aside0.mk hd
  clear hr hd
  have HB := Aside0.mk (Below.refl w.heap.size w)
  have H : (if (l0.length : Int) > 1048576 then (some true) else ((spec_DrawGainOf.f k l0).bind fun t221 => ((impl_GainOf.f k t221).bind fun bt224 => ((spec_GainOf.f k t221).bind fun bt226 => (if bt224.1 = bt226.1 then (if (bt224.2 != bt226.2) = true then (laws_FnGainOf.j0 k t221 bt224.1 bt224.2 bt226.1 bt226.2 true) else (if bt224.2 = true then (laws_FnGainOf.j0 k t221 bt224.1 bt224.2 bt226.1 bt226.2 (decide ((t221.length : Int) < 3))) else (laws_FnGainOf.j0 k t221 bt224.1 bt224.2 bt226.1 bt226.2 true))) else (laws_FnGainOf.j0 k t221 bt224.1 bt224.2 bt226.1 bt226.2 true)))))) = some r := h
  clear h
  by_cases c2 : (l0.length : Int) > 1048576
  · rw [if_pos c2] at H
    have c2b0 : decide (1048576 < (l0.length : Int)) = true := decide_eq_true c2
    have c2b1 : decide (1048576 < l0.length) = true := decide_eq_true (by omega)
    clear c2
    obtain rfl := Option.some.inj H
    go_enter Try.func7, Try.ntmps7
    go_wp2
    go_ret
    exact ⟨by first | rfl | (simp [errW_none, errW_some] <;> rfl) | (simp [*, errW_none, errW_some] <;> rfl), by repeat (first | (with_reducible first | exact HB.out | apply below_alloc | apply pw_below_drewN | apply below_drew1) | exact HB.out)⟩
  · rw [if_neg c2] at H
    have c2b0 : decide (1048576 < (l0.length : Int)) = false := decide_eq_false c2
    have c2b1 : decide (1048576 < l0.length) = false := decide_eq_false (by omega)
    clear c2
    replace H := Option.bind_eq_some_iff.mp H
    obtain ⟨t221, A30, H⟩ := H
    replace H : ((impl_GainOf.f k t221).bind fun bt224 => ((spec_GainOf.f k t221).bind fun bt226 => (if bt224.1 = bt226.1 then (if (bt224.2 != bt226.2) = true then (laws_FnGainOf.j0 k t221 bt224.1 bt224.2 bt226.1 bt226.2 true) else (if bt224.2 = true then (laws_FnGainOf.j0 k t221 bt224.1 bt224.2 bt226.1 bt226.2 (decide ((t221.length : Int) < 3))) else (laws_FnGainOf.j0 k t221 bt224.1 bt224.2 bt226.1 bt226.2 true))) else (laws_FnGainOf.j0 k t221 bt224.1 bt224.2 bt226.1 bt226.2 true)))) = some r := H
    have A3 := Aside0.mk A30
    clear A30
    replace H := Option.bind_eq_some_iff.mp H
    obtain ⟨⟨t224, t225⟩, A40, H⟩ := H
    replace H : ((spec_GainOf.f k t221).bind fun bt226 => (if t224 = bt226.1 then (if (t225 != bt226.2) = true then (laws_FnGainOf.j0 k t221 t224 t225 bt226.1 bt226.2 true) else (if t225 = true then (laws_FnGainOf.j0 k t221 t224 t225 bt226.1 bt226.2 (decide ((t221.length : Int) < 3))) else (laws_FnGainOf.j0 k t221 t224 t225 bt226.1 bt226.2 true))) else (laws_FnGainOf.j0 k t221 t224 t225 bt226.1 bt226.2 true))) = some r := H
    have A4 := Aside0.mk A40
    clear A40
    replace H := Option.bind_eq_some_iff.mp H
    obtain ⟨⟨t226, t227⟩, A50, H⟩ := H
    replace H : (if t224 = t226 then (if (t225 != t227) = true then (laws_FnGainOf.j0 k t221 t224 t225 t226 t227 true) else (if t225 = true then (laws_FnGainOf.j0 k t221 t224 t225 t226 t227 (decide ((t221.length : Int) < 3))) else (laws_FnGainOf.j0 k t221 t224 t225 t226 t227 true))) else (laws_FnGainOf.j0 k t221 t224 t225 t226 t227 true)) = some r := H
    have A5 := Aside0.mk A50
    clear A50
    have Q : Aside0 (t224 = t226 ∧ t225 = t227) := ⟨by have z1 := Option.some.inj (HD.out.symm.trans A3.out); subst z1; have zz := HQ.out _ _ A4.out A5.out; simpa using zz⟩
    have HC6 := Aside0.mk H
    clear H
    go_enter Try.func7, Try.ntmps7
    go_upto_region 6 with (first | ((with_reducible refine gate_callee (f := 27) rfl ?_); refine goesL_ (some 17) rfl rfl Try.func27 (by kernel_rfl) rfl #[.slice A0 l0.length c0] rfl (by (try simp only [List.map_toArray, List.map_cons, List.map_nil]); first | done | rfl | (simp only [List.length_drop, List.length_take]; rfl)) ?_; (with_reducible refine (spec_DrawGainOf.calls k _ _ l0 t221 _ ?side1 ?side2 A3.out).mono ?_); (case side1 => repeat (first | exact HR0.out | (with_reducible refine Kd.C_alloc ?_ _) | (with_reducible refine Kd.C_drewN ?_ _) | (with_reducible refine Kd.C_drew ?_))); (case side2 => exact HC0.out); rintro e w7 ⟨v222, rfl, ho0, hb⟩; refine ⟨_, rfl, ?_⟩; have n0_ := Aside0.mk (Kd.R_lower ho0 (below_size (by repeat (first | (with_reducible first | exact HB.out | apply below_alloc | apply pw_below_drewN | apply below_drew1) | exact HB.out)))); have n1_ := Aside0.mk (below_step (by repeat (first | (with_reducible first | exact HB.out | apply below_alloc | apply pw_below_drewN | apply below_drew1) | exact HB.out)) hb); clear HB; have HO223 := n0_; have HB := n1_; clear n0_ n1_; (try clear hb); (try clear hb2); (try clear hk); (try clear hi); (try clear ho0); obtain ⟨Ao8, co8, eo8⟩ := Kd.R_slice HO223.out; subst eo8) | ((with_reducible refine gate_callee (f := 21) rfl ?_); refine goesL_ (some 20) rfl rfl Try.func21 (by kernel_rfl) rfl #[.slice Ao8 t221.length co8] rfl (by (try simp only [List.map_toArray, List.map_cons, List.map_nil]); first | done | rfl | (simp only [List.length_drop, List.length_take]; rfl)) ?_; (with_reducible refine (impl_GainOf.calls k _ _ t221 t224 t225 _ ?side1 ?side2 A4.out).mono ?_); (case side1 => repeat (first | exact (Kd.R_reads' HO223.out).2.2 | (with_reducible refine Kd.C_alloc ?_ _) | (with_reducible refine Kd.C_drewN ?_ _) | (with_reducible refine Kd.C_drew ?_))); (case side2 => exact (Kd.R_reads' HO223.out).2.1); rintro e w9 ⟨rfl, hb⟩; refine ⟨_, rfl, ?_⟩; have n0_ := Aside0.mk (Kd.R_below (by (with_reducible repeat (first | apply Kd.R_alloc | apply Kd.R_drewN | apply Kd.R_drew)); exact HO223.out) hb); have n1_ := Aside0.mk (below_step (by repeat (first | (with_reducible first | exact HB.out | apply below_alloc | apply pw_below_drewN | apply below_drew1) | exact HB.out)) hb); clear HO223; clear HB; have HO223 := n0_; have HB := n1_; clear n0_ n1_; (try clear hb); (try clear hb2); (try clear hk); (try clear hi)) | ((with_reducible refine gate_callee (f := 19) rfl ?_); refine goesL_ (some 25) rfl rfl Try.func19 (by kernel_rfl) rfl #[.slice Ao8 t221.length co8] rfl (by (try simp only [List.map_toArray, List.map_cons, List.map_nil]); first | done | rfl | (simp only [List.length_drop, List.length_take]; rfl)) ?_; (with_reducible refine (spec_GainOf.calls k _ _ t221 t226 t227 _ ?side1 ?side2 A5.out).mono ?_); (case side1 => repeat (first | exact (Kd.R_reads' HO223.out).2.2 | (with_reducible refine Kd.C_alloc ?_ _) | (with_reducible refine Kd.C_drewN ?_ _) | (with_reducible refine Kd.C_drew ?_))); (case side2 => exact (Kd.R_reads' HO223.out).2.1); rintro e w10 ⟨rfl, hb⟩; refine ⟨_, rfl, ?_⟩; have n0_ := Aside0.mk (Kd.R_below (by (with_reducible repeat (first | apply Kd.R_alloc | apply Kd.R_drewN | apply Kd.R_drew)); exact HO223.out) hb); have n1_ := Aside0.mk (below_step (by repeat (first | (with_reducible first | exact HB.out | apply below_alloc | apply pw_below_drewN | apply below_drew1) | exact HB.out)) hb); clear HO223; clear HB; have HO223 := n0_; have HB := n1_; clear n0_ n1_; (try clear hb); (try clear hb2); (try clear hk); (try clear hi)))
    (try simp only [Act.put, List.setIfInBounds_toArray, List.set_cons_zero, List.set_cons_succ])
    go_cut [44] (fun v44 wc => ∃ (kq : Nat) (x44_5 : Bool), v44 = .bool x44_5 ∧ Aside0 (laws_FnGainOf.j0 kq t221 t224 t225 t226 t227 x44_5 = some r) ∧ Aside0 (kq ≤ k) ∧ Aside0 (Kd.R k40 40 wc w.heap.size (fun _ => True) (.slice Ao8 t221.length co8) t221) ∧ Aside0 (Below w.heap.size w wc))
    case first =>
      have H := HC6.out
      clear HC6
      have c11 : t224 = t226 := Q.out.1
      rw [if_pos c11] at H
      have c11b0 : (t224 == t226) = true := beq_iff_eq.mpr c11
      have c11b1 : (t224 != t226) = false := bne_eq_false_iff_eq.mpr c11
      clear c11
      (first | rw [c11b0] | (simp only [i64_w, i32_w]; rw [c11b0]) | skip)
      have c12 : ¬ ((t225 != t227) = true) := by rw [Q.out.2]; simp
      rw [if_neg c12] at H
      have c12b0 : (t225 != t227) = false := by simpa using c12
      (try (have c12b1 : decide (t225 = t227) = true := by simpa using c12))
      (try (have c12b2 : (t225 == t227) = true := by simpa using c12))
      clear c12
      by_cases c13 : t225 = true
      · subst c13
        have H1 : (laws_FnGainOf.j0 k t221 t224 true t226 t227 (decide ((t221.length : Int) < 3))) = some r := by rw [if_pos rfl] at H; exact H
        clear H
        have H := H1
        clear H1
        have H' := Aside0.mk H
        clear H
        go_wp2
        go_meet
        case rel => exact ⟨_, (decide ((t221.length : Int) < 3)), (by first | rfl | (simp; done) | (simp [*]; done)), H', ⟨by first | omega | exact Nat.le_refl _⟩, ⟨by (with_reducible repeat (first | apply Kd.R_alloc | apply Kd.R_drewN | apply Kd.R_drew)); exact HO223.out⟩, ⟨by repeat (first | (with_reducible first | exact HB.out | apply below_alloc | apply pw_below_drewN | apply below_drew1) | exact HB.out)⟩⟩
      · replace c13 := Bool.eq_false_iff.mpr c13
        subst c13
        have H1 : (laws_FnGainOf.j0 k t221 t224 false t226 t227 true) = some r := by rw [if_neg (show ¬ (false = true) by decide)] at H; exact H
        clear H
        have H := H1
        clear H1
        have H' := Aside0.mk H
        clear H
        go_wp2
        go_meet
        case rel => exact ⟨_, (true), (by first | rfl | (simp; done) | (simp [*]; done)), H', ⟨by first | omega | exact Nat.le_refl _⟩, ⟨by (with_reducible repeat (first | apply Kd.R_alloc | apply Kd.R_drewN | apply Kd.R_drew)); exact HO223.out⟩, ⟨by repeat (first | (with_reducible first | exact HB.out | apply below_alloc | apply pw_below_drewN | apply below_drew1) | exact HB.out)⟩⟩
    case rest =>
      clear HC6
      try clear c1
      try clear c2
      try clear c2b0
      try clear c2b1
      try clear p2
      try clear c7
      try clear c11
      try clear c11b0
      try clear c11b1
      try clear c12
      try clear c12b0
      try clear c12b1
      try clear c12b2
      try clear c13
      obtain ⟨kq, x44_5, rfl, HA, HJ5, HO_3, HB⟩ := hcut
      cases kq with
      | zero => exact absurd HA.out (by simp [laws_FnGainOf.j0])
      | succ kj5 =>
        have H := HA.out
        clear HA
        simp only [laws_FnGainOf.j0] at H
        by_cases c14 : x44_5 = true
        · subst c14
          have H1 : (if t224 = t226 then (some (t225 == t227)) else (some false)) = some r := by rw [if_pos rfl] at H; exact H
          clear H
          have H := H1
          clear H1
          have c15 : t224 = t226 := Q.out.1
          rw [if_pos c15] at H
          have c15b0 : (t224 == t226) = true := beq_iff_eq.mpr c15
          have c15b1 : (t224 != t226) = false := bne_eq_false_iff_eq.mpr c15
          clear c15
          obtain rfl := Option.some.inj H
          go_wp2
          go_ret
          exact ⟨by first | rfl | (simp [errW_none, errW_some] <;> rfl) | (simp [*, errW_none, errW_some] <;> rfl), by repeat (first | (with_reducible first | exact HB.out | apply below_alloc | apply pw_below_drewN | apply below_drew1) | exact HB.out)⟩
        · replace c14 := Bool.eq_false_iff.mpr c14
          subst c14
          have H1 : (if 0 ≤ (wrap64 ((wrap64 ((t221.length : Int) / 2)) + 1)) then (if (wrap64 ((wrap64 ((t221.length : Int) / 2)) + 1)) ≤ (t221.length : Int) then ((impl_GainOf.f kj5 (t221.take ((wrap64 ((wrap64 ((t221.length : Int) / 2)) + 1)) : Int).toNat)).bind fun bt232 => (if 0 ≤ (wrap64 ((t221.length : Int) / 2)) then (if (wrap64 ((t221.length : Int) / 2)) ≤ (t221.length : Int) then ((impl_GainOf.f kj5 (t221.drop ((wrap64 ((t221.length : Int) / 2)) : Int).toNat)).bind fun bt238 => (if bt232.2 = true then (if bt238.2 = true then (some ((wrap64 (bt232.1 + bt238.1)) == t224)) else (some false)) else (some false))) else (none)) else (none))) else (none)) else (none)) = some r := by rw [if_neg (show ¬ (false = true) by decide)] at H; exact H
          clear H
          have H := H1
          clear H1
          obtain ⟨ji16, hji16⟩ : ∃ j_ : Int, (wrap64 ((wrap64 ((t221.length : Int) / 2)) + 1)) = j_ := ⟨_, rfl⟩
          replace H : (if 0 ≤ (ji16) then (if (ji16) ≤ (t221.length : Int) then ((impl_GainOf.f kj5 (t221.take ((ji16) : Int).toNat)).bind fun bt232 => (if 0 ≤ (wrap64 ((t221.length : Int) / 2)) then (if (wrap64 ((t221.length : Int) / 2)) ≤ (t221.length : Int) then ((impl_GainOf.f kj5 (t221.drop ((wrap64 ((t221.length : Int) / 2)) : Int).toNat)).bind fun bt238 => (if bt232.2 = true then (if bt238.2 = true then (some ((wrap64 (bt232.1 + bt238.1)) == t224)) else (some false)) else (some false))) else (none)) else (none))) else (none)) else (none)) = some r := by first | (rw [hji16] at H; exact H) | (simp only [hji16] at H ⊢; exact H)
          have hji16w : (IntKind.i64.wrap ((wrap64 ((t221.length : Int) / 2)) + 1)) = ji16 := (i64_w _).trans hji16
          have c17 : 0 ≤ (ji16) := by apply Decidable.byContradiction; intro cc; rw [if_neg cc] at H; cases H
          rw [if_pos c17] at H
          have c17b0 := eq_true c17
          have c17b1 : decide (0 ≤ (ji16)) = true := decide_eq_true c17
          clear c17
          have c18 : (ji16) ≤ (t221.length : Int) := by apply Decidable.byContradiction; intro cc; rw [if_neg cc] at H; cases H
          rw [if_pos c18] at H
          have c18b0 := eq_true c18
          have c18b1 : decide ((ji16) ≤ (t221.length : Int)) = true := decide_eq_true c18
          clear c18
          obtain ⟨y228, hy228⟩ : ∃ y_ : List (S40), y_ = (t221.take ((ji16) : Int).toNat) := ⟨_, rfl⟩
          replace H : ((impl_GainOf.f kj5 y228).bind fun bt232 => (if 0 ≤ (wrap64 ((t221.length : Int) / 2)) then (if (wrap64 ((t221.length : Int) / 2)) ≤ (t221.length : Int) then ((impl_GainOf.f kj5 (t221.drop ((wrap64 ((t221.length : Int) / 2)) : Int).toNat)).bind fun bt238 => (if bt232.2 = true then (if bt238.2 = true then (some ((wrap64 (bt232.1 + bt238.1)) == t224)) else (some false)) else (some false))) else (none)) else (none))) = some r := by first | (rw [hy228]; with_reducible exact H) | (have H2_ := (Option.bind_some _ _).symm.trans H; rw [hy228]; with_reducible exact H2_) | (have H2_ := (Option.bind_some _ _).symm.trans H; with_reducible exact H2_) | with_reducible exact H | (rw [hy228]; exact H) | exact H
          have Ny228 := Aside0.mk hy228
          clear hy228
          replace H := Option.bind_eq_some_iff.mp H
          obtain ⟨⟨t232, t233⟩, A190, H⟩ := H
          replace H : (if 0 ≤ (wrap64 ((t221.length : Int) / 2)) then (if (wrap64 ((t221.length : Int) / 2)) ≤ (t221.length : Int) then ((impl_GainOf.f kj5 (t221.drop ((wrap64 ((t221.length : Int) / 2)) : Int).toNat)).bind fun bt238 => (if t233 = true then (if bt238.2 = true then (some ((wrap64 (t232 + bt238.1)) == t224)) else (some false)) else (some false))) else (none)) else (none)) = some r := H
          have A19 := Aside0.mk A190
          clear A190
          obtain ⟨ji20, hji20⟩ : ∃ j_ : Int, (wrap64 ((t221.length : Int) / 2)) = j_ := ⟨_, rfl⟩
          replace H : (if 0 ≤ (ji20) then (if (ji20) ≤ (t221.length : Int) then ((impl_GainOf.f kj5 (t221.drop ((ji20) : Int).toNat)).bind fun bt238 => (if t233 = true then (if bt238.2 = true then (some ((wrap64 (t232 + bt238.1)) == t224)) else (some false)) else (some false))) else (none)) else (none)) = some r := by first | (rw [hji20] at H; exact H) | (simp only [hji20] at H ⊢; exact H)
          (try rw [hji20] at A19)
          have hji20w : (IntKind.i64.wrap ((t221.length : Int) / 2)) = ji20 := (i64_w _).trans hji20
          have hj_ : wrap64 (ji20 + 1) = ji16 := by rw [← hji20]; exact hji16
          have hjw_ : IntKind.i64.wrap (ji20 + 1) = ji16 := (i64_w _).trans hj_
          have c21 : 0 ≤ (ji20) := by apply Decidable.byContradiction; intro cc; rw [if_neg cc] at H; cases H
          rw [if_pos c21] at H
          have c21b0 := eq_true c21
          have c21b1 : decide (0 ≤ (ji20)) = true := decide_eq_true c21
          clear c21
          have c22 : (ji20) ≤ (t221.length : Int) := by apply Decidable.byContradiction; intro cc; rw [if_neg cc] at H; cases H
          rw [if_pos c22] at H
          have c22b0 := eq_true c22
          have c22b1 : decide ((ji20) ≤ (t221.length : Int)) = true := decide_eq_true c22
          clear c22
          obtain ⟨y234, hy234⟩ : ∃ y_ : List (S40), y_ = (t221.drop ((ji20) : Int).toNat) := ⟨_, rfl⟩
          replace H : ((impl_GainOf.f kj5 y234).bind fun bt238 => (if t233 = true then (if bt238.2 = true then (some ((wrap64 (t232 + bt238.1)) == t224)) else (some false)) else (some false))) = some r := by first | (rw [hy234]; with_reducible exact H) | (have H2_ := (Option.bind_some _ _).symm.trans H; rw [hy234]; with_reducible exact H2_) | (have H2_ := (Option.bind_some _ _).symm.trans H; with_reducible exact H2_) | with_reducible exact H | (rw [hy234]; exact H) | exact H
          have Ny234 := Aside0.mk hy234
          clear hy234
          replace H := Option.bind_eq_some_iff.mp H
          obtain ⟨⟨t238, t239⟩, A230, H⟩ := H
          replace H : (if t233 = true then (if t239 = true then (some ((wrap64 (t232 + t238)) == t224)) else (some false)) else (some false)) = some r := H
          have A23 := Aside0.mk A230
          clear A230
          have c24 : t233 = true := by apply Decidable.byContradiction; intro cc; rw [if_neg cc] at H; have zz := (Option.some.inj H).trans Hr.out; cases zz
          subst c24
          have H1 : (if t239 = true then (some ((wrap64 (t232 + t238)) == t224)) else (some false)) = some r := by rw [if_pos rfl] at H; exact H
          clear H
          have H := H1
          clear H1
          have c25 : t239 = true := by apply Decidable.byContradiction; intro cc; rw [if_neg cc] at H; have zz := (Option.some.inj H).trans Hr.out; cases zz
          subst c25
          have H1 : (some ((wrap64 (t232 + t238)) == t224)) = some r := by rw [if_pos rfl] at H; exact H
          clear H
          have H := H1
          clear H1
          obtain rfl := Option.some.inj H
          have q26 : ((ji16) : Int) ≤ ((t221.length : Int) : Int) := of_decide_eq_true (by first | (with_reducible assumption) | assumption)
          obtain ⟨i026, hi026, _, hsz26, _⟩ := info_parts info40
          have hroom26 : t221.length ≤ co8 := (Kd.R_reads' HO_3.out).2.1
          have hC26 : Kd.C k40 _ Ao8 t221.length t221 := (Kd.R_reads' HO_3.out).2.2
          have hcut26 := cut_to (P := Try.prog) 33 40 .i64 Try.underlying33 hi026 Ao8 t221.length co8 (ji16) (of_decide_eq_true (by first | (with_reducible assumption) | assumption)) q26 hroom26
          have hr26 := Kd.C_take (m := ((ji16) : Int).toNat) hC26 (by omega)
          have hy26 : y228.length = ((ji16) : Int).toNat := (by rw [Ny228.out, List.length_take]; omega)
          rw [← Ny228.out] at hr26
          rw [← hy26] at hcut26
          have HR231 := Aside0.mk hr26
          have HC231 := Aside0.mk (show y228.length ≤ co8 from by omega)
          clear hr26 hC26 hroom26 hi026 hsz26
          have KY26 := Aside0.mk hy26
          clear hy26
          have KL26 := Aside0.mk (show ((ji16) : Int).toNat ≤ t221.length from by omega)
          replace q26 := eq_true q26
          go_wp2_with (first | ((with_reducible refine gate_callee (f := 21) rfl ?_); refine goesL_ (some 61) rfl rfl Try.func21 (by kernel_rfl) rfl #[.slice Ao8 y228.length co8] rfl (by (try simp only [List.map_toArray, List.map_cons, List.map_nil]); first | done | rfl | (simp only [List.length_drop, List.length_take]; rfl)) ?_; (with_reducible refine (impl_GainOf.calls kj5 _ _ y228 t232 true _ ?side1 ?side2 A19.out).mono ?_); (case side1 => repeat (first | exact (by repeat (first | (with_reducible exact HR231.out) | (with_reducible refine Kd.C_alloc ?_ _) | (with_reducible refine Kd.C_drewN ?_ _) | (with_reducible refine Kd.C_drew ?_) | exact HR231.out)) | (with_reducible refine Kd.C_alloc ?_ _) | (with_reducible refine Kd.C_drewN ?_ _) | (with_reducible refine Kd.C_drew ?_))); (case side2 => exact HC231.out); rintro e w27 ⟨rfl, hb⟩; refine ⟨_, rfl, ?_⟩; have n0_ := Aside0.mk (Kd.R_below (by (with_reducible repeat (first | apply Kd.R_alloc | apply Kd.R_drewN | apply Kd.R_drew)); exact HO_3.out) hb); have n1_ := Aside0.mk (Kd.C_below (by repeat (first | (with_reducible exact HR231.out) | (with_reducible refine Kd.C_alloc ?_ _) | (with_reducible refine Kd.C_drewN ?_ _) | (with_reducible refine Kd.C_drew ?_) | exact HR231.out)) hb); have n2_ := Aside0.mk (below_step (by repeat (first | (with_reducible first | exact HB.out | apply below_alloc | apply pw_below_drewN | apply below_drew1) | exact HB.out)) hb); clear HO_3; clear HR231; clear HB; have HO_3 := n0_; have HR231 := n1_; have HB := n2_; clear n0_ n1_ n2_; (try clear hb); (try clear hb2); (try clear hk); (try clear hi); have q28 : ((ji20) : Int) ≤ ((t221.length : Int) : Int) := of_decide_eq_true (by first | (with_reducible assumption) | assumption); obtain ⟨i028, hi028, _, hsz28, _⟩ := info_parts info40; have hroom28 : t221.length ≤ co8 := (Kd.R_reads' HO_3.out).2.1; have hC28 : Kd.C k40 _ Ao8 t221.length t221 := (Kd.R_reads' HO_3.out).2.2; have q028 : (0 : Int) ≤ ((ji20) : Int) := of_decide_eq_true (by first | (with_reducible assumption) | assumption); have hcut28 := cut_from (P := Try.prog) 33 40 .i64 Try.underlying33 hi028 2 hsz28 Ao8 t221.length co8 (ji20) q028 q28; have hr28 := Kd.C_drop (m := ((ji20) : Int).toNat) (c := co8) hC28 (by omega) hroom28; obtain ⟨A28, hA28⟩ : ∃ A1, A1 = (if co8 = ((ji20) : Int).toNat then Ao8 else (Ao8 : Option Addr).map (·.add (((ji20) : Int).toNat * 2))) := ⟨_, rfl⟩; obtain ⟨c28, hc28⟩ : ∃ c1, c1 = co8 - ((ji20) : Int).toNat := ⟨_, rfl⟩; have hy28 : y234.length = t221.length - ((ji20) : Int).toNat := (by rw [Ny234.out, List.length_drop] <;> omega); rw [show (t221).drop ((ji20) : Int).toNat = y234 from Ny234.out.symm] at hr28; replace hr28 : Kd.C k40 _ A28 y234.length y234 := (by rw [hA28]; exact hr28); rw [← hy28, ← hA28, ← hc28] at hcut28; have HR237 := Aside0.mk hr28; have HC237 := Aside0.mk (show y234.length ≤ c28 from by rw [hy28, hc28]; exact Nat.sub_le_sub_right hroom28 _); clear hr28 hC28 hroom28 hi028 hsz28 hc28; have KY28 := Aside0.mk hy28; have KA28 := Aside0.mk hA28; clear hy28 hA28; have KL28 := Aside0.mk (show ((ji20) : Int).toNat ≤ t221.length from by omega); replace q28 := eq_true q28) | ((with_reducible refine gate_callee (f := 21) rfl ?_); refine goesL_ (some 68) rfl rfl Try.func21 (by kernel_rfl) rfl #[.slice A28 y234.length c28] rfl (by (try simp only [List.map_toArray, List.map_cons, List.map_nil]); first | done | rfl | (simp only [List.length_drop, List.length_take]; rfl)) ?_; (with_reducible refine (impl_GainOf.calls kj5 _ _ y234 t238 true _ ?side1 ?side2 A23.out).mono ?_); (case side1 => repeat (first | exact (by repeat (first | (with_reducible exact HR237.out) | (with_reducible refine Kd.C_alloc ?_ _) | (with_reducible refine Kd.C_drewN ?_ _) | (with_reducible refine Kd.C_drew ?_) | exact HR237.out)) | (with_reducible refine Kd.C_alloc ?_ _) | (with_reducible refine Kd.C_drewN ?_ _) | (with_reducible refine Kd.C_drew ?_))); (case side2 => exact HC237.out); rintro e w29 ⟨rfl, hb⟩; refine ⟨_, rfl, ?_⟩; have n0_ := Aside0.mk (Kd.R_below (by (with_reducible repeat (first | apply Kd.R_alloc | apply Kd.R_drewN | apply Kd.R_drew)); exact HO_3.out) hb); have n1_ := Aside0.mk (Kd.C_below (by repeat (first | (with_reducible exact HR231.out) | (with_reducible refine Kd.C_alloc ?_ _) | (with_reducible refine Kd.C_drewN ?_ _) | (with_reducible refine Kd.C_drew ?_) | exact HR231.out)) hb); have n2_ := Aside0.mk (Kd.C_below (by repeat (first | (with_reducible exact HR237.out) | (with_reducible refine Kd.C_alloc ?_ _) | (with_reducible refine Kd.C_drewN ?_ _) | (with_reducible refine Kd.C_drew ?_) | exact HR237.out)) hb); have n3_ := Aside0.mk (below_step (by repeat (first | (with_reducible first | exact HB.out | apply below_alloc | apply pw_below_drewN | apply below_drew1) | exact HB.out)) hb); clear HO_3; clear HR231; clear HR237; clear HB; have HO_3 := n0_; have HR231 := n1_; have HR237 := n2_; have HB := n3_; clear n0_ n1_ n2_ n3_; (try clear hb); (try clear hb2); (try clear hk); (try clear hi)))
          go_ret
          exact ⟨by first | rfl | (simp [errW_none, errW_some] <;> rfl) | (simp only [← hji16, ← hji20]; first | rfl | (simp [errW_none, errW_some] <;> rfl)) | (simp [*, errW_none, errW_some] <;> rfl), by repeat (first | (with_reducible first | exact HB.out | apply below_alloc | apply pw_below_drewN | apply below_drew1) | exact HB.out)⟩

end Go.Proofs.Ytpkpbcfehllehaa.PFnGainOf
