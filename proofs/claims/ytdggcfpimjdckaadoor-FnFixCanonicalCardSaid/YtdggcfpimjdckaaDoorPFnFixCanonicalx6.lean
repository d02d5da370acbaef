-- Out of a print of the walks, turned by a program of this session; Lean checks it.
import Derived.Test.YtdggcfpimjdckaaDoorPFnFixCanonicalx0
namespace Go.Proofs.YtdggcfpimjdckaaDoor.PFnFixCanonical
open Go.RowKit Go.Proofs.YtdggcfpimjdckaaDoorW.PrintWords Go.Proofs.YtdggcfpimjdckaaDoorW.PrintLast Go.Proofs.YtdggcfpimjdckaaDoorW.PrintMore
attribute [local go_sem] max2_int min2_int max_two min_two max_three min_three max_four min_four   -- for this text's walks alone
set_option linter.unusedVariables false
set_option linter.unusedSimpArgs false

abbrev bq6_0 : Array Bool := #[true, true, true, true, true, true, true, true, true, false, false]
abbrev bq6_1 : Array Bool := #[true, true, true, true, true, true, true, true, false, false, false]
/-! ### spec_decimal: function 54 -/
def spec_decimal.f : Nat → Int → Option (ByteArray)
  | 0, _ => none
  | k + 1, a0 => if a0 < 10 then (some (strOfNums (([(wrap64 (48 + a0)) % 256] : List Int)))) else ((spec_decimal.f k (wrap64 (Int.tdiv a0 10))).bind fun t154 => ((some (([(wrap64 (48 + (Int.tmod a0 10))) % 256] : List Int) : List Int)).bind fun y155 => (if t154.size + (strOfNums y155).size ≤ 9223372036854775807 then (some (t154 ++ (strOfNums y155))) else (none))))
theorem spec_decimal.mono_l : ∀ k, (∀ y0, LeO (spec_decimal.f k y0) (spec_decimal.f (k + 1) y0))
  | 0 => fun _ r h => by simp [spec_decimal.f] at h
  | k + 1 => by
    have ih0 := spec_decimal.mono_l k
    · intro y0
      unfold spec_decimal.f
      repeat' first
      | (with_reducible exact ih0 _)
      | (with_reducible exact LeO.refl _)
      | (with_reducible exact LeO.none _)
      | (with_reducible refine LeO.ite ?_ ?_)
      | (with_reducible refine LeO.bind ?_ (fun _ => ?_))
      | exact ih0 _
      | exact LeO.none _
      | refine LeO.ite ?_ ?_
      | refine LeO.bind ?_ (fun _ => ?_)
theorem spec_decimal.mono : ∀ a0 k, LeO (spec_decimal.f k a0) (spec_decimal.f (k + 1) a0) := by
  intro a0 k
  have ih0 := spec_decimal.mono_l k
  exact ih0 a0
def spec_decimal.T3 : Bool × List (List Nat × List Nat) := (true, [([], []), ([0], [0]), ([1], [1]), ([], []), ([3], [3]), ([4], [4]), ([5], [5]), ([6], [6]), ([7], [7]), ([2, 8], [2, 8]), ([9, 2, 0, 1, 2, 3, 4, 5, 6, 7, 8, 9], [9])])
def spec_decimal.B3 : List Nat := [0, 1, 3, 0, 8, 24, 56, 120, 248, 511, 1023]
theorem spec_decimal.tab3 : rtab .any (opsOf Tryd.f54 3) = spec_decimal.T3 := by kernel_rfl
theorem spec_decimal.bits3 : waitsOk spec_decimal.T3.2 spec_decimal.B3 = true := by kernel_rfl
set_option maxHeartbeats 8000000 in
set_option maxRecDepth 100000 in
theorem spec_decimal.calls (k : Nat) : ∀ (a0 : Int) (r : ByteArray) (w : World) (h : spec_decimal.f k a0 = some r),
    Calls Tryd.prog 54 #[.int .i64 a0] w fun e w' => e = .returned (.string r) ∧ Below w.heap.size w w' := by
  induction k using Nat.strongRecOn with
  | _ k ih =>
  intro a0 r w h
  cases k with
  | zero => exact absurd h (by simp [spec_decimal.f])
  | succ k =>
  simp only [spec_decimal.f] at h
  have HB := Aside0.mk (Below.refl w.heap.size w)
  have H : (if a0 < 10 then (some (strOfNums (([(wrap64 (48 + a0)) % 256] : List Int)))) else ((spec_decimal.f k (wrap64 (Int.tdiv a0 10))).bind fun t154 => ((some (([(wrap64 (48 + (Int.tmod a0 10))) % 256] : List Int) : List Int)).bind fun y155 => (if t154.size + (strOfNums y155).size ≤ 9223372036854775807 then (some (t154 ++ (strOfNums y155))) else (none))))) = some r := h
  clear h
  by_cases c2 : a0 < 10
  · rw [if_pos c2] at H
    have c2b0 : decide (a0 < 10) = true := decide_eq_true c2
    clear c2
    obtain ⟨y151, hy151⟩ : ∃ y_ : List Int, y_ = (([(wrap64 (48 + a0)) % 256] : List Int)) := ⟨_, rfl⟩
    replace H : (some (strOfNums y151)) = some r := by first | (rw [hy151]; with_reducible exact H) | (have H2_ := (Option.bind_some _ _).symm.trans H; rw [hy151]; with_reducible exact H2_) | (have H2_ := (Option.bind_some _ _).symm.trans H; with_reducible exact H2_) | with_reducible exact H | (rw [hy151]; exact H) | exact H
    have Ny151 := Aside0.mk hy151
    clear hy151
    obtain rfl := Option.some.inj H
    go_enter Tryd.func54, Tryd.ntmps54
    go_wp2_with (first | ((with_reducible refine gate_dst (N := 8) rfl ?_); refine Kd.R_lit (Kd.int .u8) _ 5 ?hg (N := 8) ?hd (xs := ([(wrap64 (48 + a0)) % 256] : List Int)) (inner := [.int .u8 ((wrap64 (48 + a0)) % 256)]) (ok := fun _ => True) (okp := fun _ => True) ?hr ?hp (fun _ hk => hk) trivial (Below.refl _ _) (Nat.le_refl _) (by simp) ?_; (case hd => rfl); (case hg => rfl); (case hr => first | (go_simp; done) | (go_simp; rfl)); (case hp => exact (Reps.one (show Kd.M (Kd.int .u8) _ _ _ ((wrap64 (48 + a0)) % 256) [.int .u8 ((wrap64 (48 + a0)) % 256)] from rfl) (Reps.none _ _))); intro v152 w3 ho4 hb hg_ hnew_; clear hg_ hnew_; (first | rw [← Ny151.out] at ho4 | (simp only [Int.reduceToNat] at ho4; rw [← Ny151.out] at ho4)); have n0_ := Aside0.mk (Kd.R_lower ho4 (below_size (by repeat (first | (with_reducible first | exact HB.out | apply below_alloc | apply pw_below_drewN | apply below_drew1) | exact HB.out)))); have n1_ := Aside0.mk (below_step (by repeat (first | (with_reducible first | exact HB.out | apply below_alloc | apply pw_below_drewN | apply below_drew1) | exact HB.out)) hb); clear HB; have HO153 := n0_; have HB := n1_; clear n0_ n1_; clear hb ho4; have hcv5 := own_string (P := Tryd.prog) Tryd.underlying22 Tryd.underlying5 Tryd.underlying9 (Kd.own_of_R HO153.out)))
    go_ret
    exact ⟨by first | rfl | (simp [errW_none, errW_some] <;> rfl) | (simp [*, errW_none, errW_some] <;> rfl), by repeat (first | (with_reducible first | exact HB.out | apply below_alloc | apply pw_below_drewN | apply below_drew1) | exact HB.out)⟩
  · rw [if_neg c2] at H
    have c2b0 : decide (a0 < 10) = false := decide_eq_false c2
    clear c2
    replace H := Option.bind_eq_some_iff.mp H
    obtain ⟨t154, A60, H⟩ := H
    replace H : ((some (([(wrap64 (48 + (Int.tmod a0 10))) % 256] : List Int) : List Int)).bind fun y155 => (if t154.size + (strOfNums y155).size ≤ 9223372036854775807 then (some (t154 ++ (strOfNums y155))) else (none))) = some r := H
    have A6 := Aside0.mk A60
    clear A60
    obtain ⟨y155, hy155⟩ : ∃ y_ : List Int, y_ = (([(wrap64 (48 + (Int.tmod a0 10))) % 256] : List Int)) := ⟨_, rfl⟩
    replace H : (if t154.size + (strOfNums y155).size ≤ 9223372036854775807 then (some (t154 ++ (strOfNums y155))) else (none)) = some r := by first | (rw [hy155]; with_reducible exact H) | (have H2_ := (Option.bind_some _ _).symm.trans H; rw [hy155]; with_reducible exact H2_) | (have H2_ := (Option.bind_some _ _).symm.trans H; with_reducible exact H2_) | with_reducible exact H | (rw [hy155]; exact H) | exact H
    have Ny155 := Aside0.mk hy155
    clear hy155
    by_cases c7 : t154.size + (strOfNums y155).size ≤ 9223372036854775807
    · rw [if_pos c7] at H
      have c7b0 := eq_true c7
      have c7b1 : decide (t154.size + (strOfNums y155).size ≤ 9223372036854775807) = true := decide_eq_true c7
      try have c7b2 : (9223372036854775807 < t154.size + (strOfNums y155).size) = False := eq_false (Nat.not_lt.2 c7)
      obtain rfl := Option.some.inj H
      go_enter Tryd.func54, Tryd.ntmps54
      try go_wp2
      have n0_ := Aside0.mk (below_drew1 HB.out)
      clear HB
      have HB := n0_
      clear n0_
      refine start_ (n := 11) (S := fun w' => True) (ds := []) #[false, false, false, false, false, false, false, false, false, false, false] (by kernel_rfl) rfl rfl trivial (fun hHeld => ?_); refine with_tabW spec_decimal.tab3 spec_decimal.bits3 (fun HT_ HW_ => ?_)
      generalize w.drew = w8 at HB hHeld ⊢
      refine pure_ (i := 0) (N := some 10) (v := ?_) (a' := ?_) #[true, false, false, false, false, false, false, false, false, false, false] rfl rfl (any_of HT_.out (by kernel_rfl)) (fun _ _ _ h => h) (Or.inl ⟨by rfl, ?_⟩) ?_ ?_
      rotate_left
      · intro w'
        go_simp
        with_reducible rfl
      rotate_left
      · simp only [Act.put, List.setIfInBounds_toArray, List.set_cons_zero, List.set_cons_succ, i64_w, i32_w]
        rfl
      refine pure_ (i := 1) (N := some 11) (v := ?_) (a' := ?_) #[true, true, false, false, false, false, false, false, false, false, false] rfl rfl (any_of HT_.out (by kernel_rfl)) (fun _ _ _ h => h) (Or.inl ⟨by rfl, ?_⟩) ?_ ?_
      rotate_left
      · intro w'
        go_simp
        with_reducible rfl
      rotate_left
      · simp only [Act.put, List.setIfInBounds_toArray, List.set_cons_zero, List.set_cons_succ, i64_w, i32_w]
        rfl
      refine pure_ (i := 3) (N := some 13) (v := ?_) (a' := ?_) #[true, true, false, true, false, false, false, false, false, false, false] rfl rfl (any_of HT_.out (by kernel_rfl)) (fun _ _ _ h => h) (Or.inl ⟨by rfl, ?_⟩) ?_ ?_
      rotate_left
      · intro w'
        go_simp
        with_reducible rfl
      rotate_left
      · simp only [Act.put, List.setIfInBounds_toArray, List.set_cons_zero, List.set_cons_succ, i64_w, i32_w]
        rfl
      refine pure_ (i := 4) (N := some 14) (v := ?_) (a' := ?_) #[true, true, false, true, true, false, false, false, false, false, false] rfl rfl (any_of HT_.out (by kernel_rfl)) (fun _ _ _ h => h) (Or.inl ⟨by rfl, ?_⟩) ?_ ?_
      rotate_left
      · intro w'
        go_simp
        with_reducible rfl
      rotate_left
      · simp only [Act.put, List.setIfInBounds_toArray, List.set_cons_zero, List.set_cons_succ, i64_w, i32_w]
        rfl
      refine pure_ (i := 5) (N := some 15) (v := ?_) (a' := ?_) #[true, true, false, true, true, true, false, false, false, false, false] rfl rfl (any_of HT_.out (by kernel_rfl)) (fun _ _ _ h => h) (Or.inl ⟨by rfl, ?_⟩) ?_ ?_
      rotate_left
      · intro w'
        go_simp
        with_reducible rfl
      rotate_left
      · simp only [Act.put, List.setIfInBounds_toArray, List.set_cons_zero, List.set_cons_succ, i64_w, i32_w]
        rfl
      refine pure_ (i := 6) (N := some 16) (v := ?_) (a' := ?_) #[true, true, false, true, true, true, true, false, false, false, false] rfl rfl (any_of HT_.out (by kernel_rfl)) (fun _ _ _ h => h) (Or.inl ⟨by rfl, ?_⟩) ?_ ?_
      rotate_left
      · intro w'
        go_simp
        with_reducible rfl
      rotate_left
      · simp only [Act.put, List.setIfInBounds_toArray, List.set_cons_zero, List.set_cons_succ, i64_w, i32_w]
        rfl
      refine join_ (σ := Value) 2 bq6_0 (fun s_ => [(12, .string t154), (17, s_), (18, .string (strOfNums y155))]) (fun s_ w' => (Kd.R (Kd.int .u8) 5 w' w.heap.size (fun _ => True) s_ y155) ∧ (Below w.heap.size w w')) ?_ ?_
      rotate_left
      · intro hCont
        refine two_ (i := 2) (j := 7) (Ni := some 12) (Nj := some 17) #[true, true, true, true, true, true, true, false, false, false, false] #[true, true, false, true, true, true, true, true, false, false, false] rfl rfl rfl rfl (two_of HT_.out (by kernel_rfl)) (by decide) (by decide) (fun K hK => ?_) (fun K hK => ?_)
        · skip
          refine goes_ Tryd.func54 (by kernel_rfl) rfl #[.int .i64 (wrap64 (Int.tdiv a0 10))] (by rfl) rfl rfl (by (try simp only [List.map_toArray, List.map_cons, List.map_nil]); first | done | rfl | (simp only [List.length_drop, List.length_take]; rfl)) ?_
          with_reducible refine (ih k (by omega) (wrap64 (Int.tdiv a0 10)) t154 _ A6.out).mono ?_
          rintro e w9 ⟨rfl, hb⟩
          refine ⟨_, rfl, ?_⟩
          have n0_ := Aside0.mk (below_step (by repeat (first | (with_reducible first | exact HB.out | apply below_alloc | apply pw_below_drewN | apply below_drew1) | exact HB.out)) hb)
          clear HB
          have HB := n0_
          clear n0_
          (try clear hb)
          (try clear hb2)
          (try clear hk)
          (try clear hi)
          refine hK.out _ _ trivial (fun hHeld => ?_)
          clear hK K
          refine norm_ (a' := ?_) ?_ ?_
          rotate_left
          · show Act.put _ (some 12) _ = _
            simp only [Act.put, List.setIfInBounds_toArray, List.set_cons_zero, List.set_cons_succ, i64_w, i32_w]
            rfl
          refine one_ (i := 7) (N := some 17) bq6_1 rfl rfl (one_of HT_.out (by kernel_rfl)) (by decide) (fun K hK => ?_)
          refine Kd.R_lit_step (Kd.int .u8) _ 5 ?hg (N := 17) ?hd (xs := ([(wrap64 (48 + (Int.tmod a0 10))) % 256] : List Int)) (inner := [.int .u8 ((wrap64 (48 + (Int.tmod a0 10))) % 256)]) (ok := fun _ => True) (okp := fun _ => True) ?hr ?hp (fun _ hk => hk) trivial (Below.refl _ _) (Nat.le_refl _) (by simp) ?_; (case hd => rfl); (case hg => rfl); (case hr => first | (go_simp; done) | (go_simp; rfl)); (case hp => exact (Reps.one (show Kd.M (Kd.int .u8) _ _ _ ((wrap64 (48 + (Int.tmod a0 10))) % 256) [.int .u8 ((wrap64 (48 + (Int.tmod a0 10))) % 256)] from rfl) (Reps.none _ _)))
          intro v156 w10 ho11 hb hg_ hnew_
          clear hg_ hnew_
          (first | rw [← Ny155.out] at ho11 | (simp only [Int.reduceToNat] at ho11; rw [← Ny155.out] at ho11))
          have n0_ := Aside0.mk (Kd.R_lower ho11 (below_size (by repeat (first | (with_reducible first | exact HB.out | apply below_alloc | apply pw_below_drewN | apply below_drew1) | exact HB.out))))
          have n1_ := Aside0.mk (below_step (by repeat (first | (with_reducible first | exact HB.out | apply below_alloc | apply pw_below_drewN | apply below_drew1) | exact HB.out)) hb)
          clear HB
          have HO157 := n0_
          have HB := n1_
          clear n0_ n1_
          clear hb ho11
          refine hK.out _ _ trivial (fun hHeld => ?_)
          clear hK K
          refine norm_ (a' := ?_) ?_ ?_
          rotate_left
          · show Act.put _ (some 17) _ = _
            simp only [Act.put, List.setIfInBounds_toArray, List.set_cons_zero, List.set_cons_succ, i64_w, i32_w]
            rfl
          refine one_ (i := 8) (N := some 18) bq6_0 rfl rfl (one_of HT_.out (by kernel_rfl)) (by decide) (fun K hK => ?_)
          have hcv12 := own_string (P := Tryd.prog) Tryd.underlying22 Tryd.underlying5 Tryd.underlying9 (Kd.own_of_R HO157.out)
          refine value_ (w1 := ?_) (v := ?_) (by rfl) rfl ?_ ?_
          rotate_left 2
          · go_simp
            constructor
            · rfl
            · rfl
          clear hcv12
          refine hK.out _ _ trivial (fun hHeld => ?_)
          clear hK K
          refine norm_ (a' := ?_) ?_ ?_
          rotate_left
          · show Act.put _ (some 18) _ = _
            simp only [Act.put, List.setIfInBounds_toArray, List.set_cons_zero, List.set_cons_succ, i64_w, i32_w]
            rfl
          exact norm_ (by simp only [putAll, Act.put, List.setIfInBounds_toArray, List.set_cons_zero, List.set_cons_succ]) (hCont (v156) _ ⟨(by (with_reducible repeat (first | apply Kd.R_alloc | apply Kd.R_drewN | apply Kd.R_drew)); exact HO157.out), (by repeat (first | (with_reducible first | exact HB.out | apply below_alloc | apply pw_below_drewN | apply below_drew1) | exact HB.out))⟩)
        · skip
          refine Kd.R_lit_step (Kd.int .u8) _ 5 ?hg (N := 17) ?hd (xs := ([(wrap64 (48 + (Int.tmod a0 10))) % 256] : List Int)) (inner := [.int .u8 ((wrap64 (48 + (Int.tmod a0 10))) % 256)]) (ok := fun _ => True) (okp := fun _ => True) ?hr ?hp (fun _ hk => hk) trivial (Below.refl _ _) (Nat.le_refl _) (by simp) ?_; (case hd => rfl); (case hg => rfl); (case hr => first | (go_simp; done) | (go_simp; rfl)); (case hp => exact (Reps.one (show Kd.M (Kd.int .u8) _ _ _ ((wrap64 (48 + (Int.tmod a0 10))) % 256) [.int .u8 ((wrap64 (48 + (Int.tmod a0 10))) % 256)] from rfl) (Reps.none _ _)))
          intro v156 w9 ho10 hb hg_ hnew_
          clear hg_ hnew_
          (first | rw [← Ny155.out] at ho10 | (simp only [Int.reduceToNat] at ho10; rw [← Ny155.out] at ho10))
          have n0_ := Aside0.mk (Kd.R_lower ho10 (below_size (by repeat (first | (with_reducible first | exact HB.out | apply below_alloc | apply pw_below_drewN | apply below_drew1) | exact HB.out))))
          have n1_ := Aside0.mk (below_step (by repeat (first | (with_reducible first | exact HB.out | apply below_alloc | apply pw_below_drewN | apply below_drew1) | exact HB.out)) hb)
          clear HB
          have HO157 := n0_
          have HB := n1_
          clear n0_ n1_
          clear hb ho10
          refine hK.out _ _ trivial (fun hHeld => ?_)
          clear hK K
          refine norm_ (a' := ?_) ?_ ?_
          rotate_left
          · show Act.put _ (some 17) _ = _
            simp only [Act.put, List.setIfInBounds_toArray, List.set_cons_zero, List.set_cons_succ, i64_w, i32_w]
            rfl
          refine two_ (i := 2) (j := 8) (Ni := some 12) (Nj := some 18) bq6_1 #[true, true, false, true, true, true, true, true, true, false, false] rfl rfl rfl rfl (two_of HT_.out (by kernel_rfl)) (by decide) (by decide) (fun K hK => ?_) (fun K hK => ?_)
          · skip
            refine goes_ Tryd.func54 (by kernel_rfl) rfl #[.int .i64 (wrap64 (Int.tdiv a0 10))] (by rfl) rfl rfl (by (try simp only [List.map_toArray, List.map_cons, List.map_nil]); first | done | rfl | (simp only [List.length_drop, List.length_take]; rfl)) ?_
            with_reducible refine (ih k (by omega) (wrap64 (Int.tdiv a0 10)) t154 _ A6.out).mono ?_
            rintro e w11 ⟨rfl, hb⟩
            refine ⟨_, rfl, ?_⟩
            have n0_ := Aside0.mk (Kd.R_below (by (with_reducible repeat (first | apply Kd.R_alloc | apply Kd.R_drewN | apply Kd.R_drew)); exact HO157.out) hb)
            have n1_ := Aside0.mk (below_step (by repeat (first | (with_reducible first | exact HB.out | apply below_alloc | apply pw_below_drewN | apply below_drew1) | exact HB.out)) hb)
            clear HO157
            clear HB
            have HO157 := n0_
            have HB := n1_
            clear n0_ n1_
            (try clear hb)
            (try clear hb2)
            (try clear hk)
            (try clear hi)
            refine hK.out _ _ trivial (fun hHeld => ?_)
            clear hK K
            refine norm_ (a' := ?_) ?_ ?_
            rotate_left
            · show Act.put _ (some 12) _ = _
              simp only [Act.put, List.setIfInBounds_toArray, List.set_cons_zero, List.set_cons_succ, i64_w, i32_w]
              rfl
            refine one_ (i := 8) (N := some 18) bq6_0 rfl rfl (one_of HT_.out (by kernel_rfl)) (by decide) (fun K hK => ?_)
            have hcv12 := own_string (P := Tryd.prog) Tryd.underlying22 Tryd.underlying5 Tryd.underlying9 (Kd.own_of_R HO157.out)
            refine value_ (w1 := ?_) (v := ?_) (by rfl) rfl ?_ ?_
            rotate_left 2
            · go_simp
              constructor
              · rfl
              · rfl
            clear hcv12
            refine hK.out _ _ trivial (fun hHeld => ?_)
            clear hK K
            refine norm_ (a' := ?_) ?_ ?_
            rotate_left
            · show Act.put _ (some 18) _ = _
              simp only [Act.put, List.setIfInBounds_toArray, List.set_cons_zero, List.set_cons_succ, i64_w, i32_w]
              rfl
            exact norm_ (by simp only [putAll, Act.put, List.setIfInBounds_toArray, List.set_cons_zero, List.set_cons_succ]) (hCont (v156) _ ⟨(by (with_reducible repeat (first | apply Kd.R_alloc | apply Kd.R_drewN | apply Kd.R_drew)); exact HO157.out), (by repeat (first | (with_reducible first | exact HB.out | apply below_alloc | apply pw_below_drewN | apply below_drew1) | exact HB.out))⟩)
          · skip
            have hcv11 := own_string (P := Tryd.prog) Tryd.underlying22 Tryd.underlying5 Tryd.underlying9 (Kd.own_of_R HO157.out)
            refine value_ (w1 := ?_) (v := ?_) (by rfl) rfl ?_ ?_
            rotate_left 2
            · go_simp
              constructor
              · rfl
              · rfl
            clear hcv11
            refine hK.out _ _ trivial (fun hHeld => ?_)
            clear hK K
            refine norm_ (a' := ?_) ?_ ?_
            rotate_left
            · show Act.put _ (some 18) _ = _
              simp only [Act.put, List.setIfInBounds_toArray, List.set_cons_zero, List.set_cons_succ, i64_w, i32_w]
              rfl
            refine one_ (i := 2) (N := some 12) bq6_0 rfl rfl (one_of HT_.out (by kernel_rfl)) (by decide) (fun K hK => ?_)
            refine goes_ Tryd.func54 (by kernel_rfl) rfl #[.int .i64 (wrap64 (Int.tdiv a0 10))] (by rfl) rfl rfl (by (try simp only [List.map_toArray, List.map_cons, List.map_nil]); first | done | rfl | (simp only [List.length_drop, List.length_take]; rfl)) ?_
            with_reducible refine (ih k (by omega) (wrap64 (Int.tdiv a0 10)) t154 _ A6.out).mono ?_
            rintro e w12 ⟨rfl, hb⟩
            refine ⟨_, rfl, ?_⟩
            have n0_ := Aside0.mk (Kd.R_below (by (with_reducible repeat (first | apply Kd.R_alloc | apply Kd.R_drewN | apply Kd.R_drew)); exact HO157.out) hb)
            have n1_ := Aside0.mk (below_step (by repeat (first | (with_reducible first | exact HB.out | apply below_alloc | apply pw_below_drewN | apply below_drew1) | exact HB.out)) hb)
            clear HO157
            clear HB
            have HO157 := n0_
            have HB := n1_
            clear n0_ n1_
            (try clear hb)
            (try clear hb2)
            (try clear hk)
            (try clear hi)
            refine hK.out _ _ trivial (fun hHeld => ?_)
            clear hK K
            refine norm_ (a' := ?_) ?_ ?_
            rotate_left
            · show Act.put _ (some 12) _ = _
              simp only [Act.put, List.setIfInBounds_toArray, List.set_cons_zero, List.set_cons_succ, i64_w, i32_w]
              rfl
            exact norm_ (by simp only [putAll, Act.put, List.setIfInBounds_toArray, List.set_cons_zero, List.set_cons_succ]) (hCont (v156) _ ⟨(by (with_reducible repeat (first | apply Kd.R_alloc | apply Kd.R_drewN | apply Kd.R_drew)); exact HO157.out), (by repeat (first | (with_reducible first | exact HB.out | apply below_alloc | apply pw_below_drewN | apply below_drew1) | exact HB.out))⟩)
      rintro v156 w13 ⟨h0_, h1_⟩
      have n0_ : Aside0 (Kd.R (Kd.int .u8) 5 w13 w.heap.size (fun _ => True) v156 y155) := ⟨h0_⟩
      have n1_ : Aside0 (Below w.heap.size w w13) := ⟨h1_⟩
      clear HB
      clear h0_ h1_
      have HO157 := n0_
      have HB := n1_
      clear n0_ n1_
      have hHeld := trivial
      refine norm_ (a' := ?_) ?_ ?_
      rotate_left
      · simp only [putAll, Act.put, List.setIfInBounds_toArray, List.set_cons_zero, List.set_cons_succ]
        rfl
      refine pure_ (i := 9) (N := some 19) (v := ?_) (a' := ?_) #[true, true, true, true, true, true, true, true, true, true, false] rfl rfl (any_of HT_.out (by kernel_rfl)) (fun _ _ _ h => h) (Or.inl ⟨by rfl, ?_⟩) ?_ ?_
      rotate_left
      · intro w'
        go_simp
        with_reducible rfl
      rotate_left
      · simp only [Act.put, List.setIfInBounds_toArray, List.set_cons_zero, List.set_cons_succ, i64_w, i32_w]
        rfl
      refine pure_ (i := 10) (N := some 2) (v := ?_) (a' := ?_) #[true, true, true, true, true, true, true, true, true, true, true] rfl rfl (any_of HT_.out (by kernel_rfl)) (fun _ _ _ h => h) (Or.inl ⟨by rfl, ?_⟩) ?_ ?_
      rotate_left
      · intro w'
        go_simp
        with_reducible rfl
      rotate_left
      · simp only [Act.put, List.setIfInBounds_toArray, List.set_cons_zero, List.set_cons_succ, i64_w, i32_w]
        rfl
      refine done_ (done_of HT_.out (by kernel_rfl)) ?_
      try go_wp2
      go_ret
      exact ⟨by first | rfl | (simp [errW_none, errW_some] <;> rfl) | (simp [*, errW_none, errW_some] <;> rfl), by repeat (first | (with_reducible first | exact HB.out | apply below_alloc | apply pw_below_drewN | apply below_drew1) | exact HB.out)⟩
    · rw [if_neg c7] at H
      exact absurd H (by simp)

/-! ### spec_digits: function 53 -/
def spec_digits.l0 : Nat → Int → ByteArray → Option (ByteArray)
  | 0, _, _ => none
  | k + 1, x1, x5 => if (x5.size : Int) < x1 then (if 1 + x5.size ≤ 9223372036854775807 then (spec_digits.l0 k x1 ((⟨#[48]⟩ : ByteArray) ++ x5)) else (none)) else (some x5)
def spec_digits.f (k : Nat) (a0 : Int) (a1 : Int) : Option (ByteArray) := (spec_decimal.f k a0).bind fun t158 => (spec_digits.l0 k a1 t158)
theorem spec_digits.mono_l : ∀ k, (∀ y0 y1, LeO (spec_digits.l0 k y0 y1) (spec_digits.l0 (k + 1) y0 y1))
  | 0 => fun _ _ r h => by simp [spec_digits.l0] at h
  | k + 1 => by
    have ih0 := spec_digits.mono_l k
    · intro y0 y1
      unfold spec_digits.l0
      repeat' first
      | (with_reducible exact ih0 _ _)
      | (with_reducible exact spec_decimal.mono _ _)
      | (with_reducible exact LeO.refl _)
      | (with_reducible exact LeO.none _)
      | (with_reducible refine LeO.ite ?_ ?_)
      | (with_reducible refine LeO.bind ?_ (fun _ => ?_))
      | exact ih0 _ _
      | exact spec_decimal.mono _ _
      | exact LeO.none _
      | refine LeO.ite ?_ ?_
      | refine LeO.bind ?_ (fun _ => ?_)
theorem spec_digits.mono : ∀ a0 a1 k, LeO (spec_digits.f k a0 a1) (spec_digits.f (k + 1) a0 a1) := by
  intro a0 a1 k
  have ih0 := spec_digits.mono_l k
  unfold spec_digits.f
  repeat' first
      | (with_reducible exact ih0 _ _)
      | (with_reducible exact spec_decimal.mono _ _)
      | (with_reducible exact LeO.refl _)
      | (with_reducible exact LeO.none _)
      | (with_reducible refine LeO.ite ?_ ?_)
      | (with_reducible refine LeO.bind ?_ (fun _ => ?_))
      | exact ih0 _ _
      | exact spec_decimal.mono _ _
      | exact LeO.none _
      | refine LeO.ite ?_ ?_
      | refine LeO.bind ?_ (fun _ => ?_)
set_option maxHeartbeats 8000000 in
set_option maxRecDepth 100000 in
theorem spec_digits.calls (k : Nat) (a0 : Int) (a1 : Int) (r : ByteArray) (w : World) (h : spec_digits.f k a0 a1 = some r) :
    Calls Tryd.prog 53 #[.int .i64 a0, .int .i64 a1] w fun e w' => e = .returned (.string r) ∧ Below w.heap.size w w' := by
  have HB := Aside0.mk (Below.refl w.heap.size w)
  have H : ((spec_decimal.f k a0).bind fun t158 => (spec_digits.l0 k a1 t158)) = some r := h
  clear h
  replace H := Option.bind_eq_some_iff.mp H
  obtain ⟨t158, A30, H⟩ := H
  replace H : (spec_digits.l0 k a1 t158) = some r := H
  have A3 := Aside0.mk A30
  clear A30
  have H' := Aside0.mk H
  clear H
  go_enter Tryd.func53, Tryd.ntmps53
  go_wp2_with (first | ((with_reducible refine gate_callee (f := 54) rfl ?_); refine goesL_ (some 7) rfl rfl Tryd.func54 (by kernel_rfl) rfl #[.int .i64 a0] rfl (by (try simp only [List.map_toArray, List.map_cons, List.map_nil]); first | done | rfl | (simp only [List.length_drop, List.length_take]; rfl)) ?_; (with_reducible refine (spec_decimal.calls k a0 t158 _ A3.out).mono ?_); rintro e w4 ⟨rfl, hb⟩; refine ⟨_, rfl, ?_⟩; have n0_ := Aside0.mk (below_step (by repeat (first | (with_reducible first | exact HB.out | apply below_alloc | apply pw_below_drewN | apply below_drew1) | exact HB.out)) hb); clear HB; have HB := n0_; clear n0_; (try clear hb); (try clear hb2); (try clear hk); (try clear hi)))
  go_loopg [5] k (fun kq v5 w' => ∃ (x5_1 : ByteArray), v5 = .string x5_1 ∧ Aside0 (spec_digits.l0 kq a1 x5_1 = some r) ∧ Aside0 (kq ≤ k) ∧ Aside0 (Below w.heap.size w w'))
  case atStart => exact ⟨(t158), (by first | rfl | (simp; done) | (simp [*]; done)), H', ⟨Nat.le_refl _⟩, ⟨by repeat (first | (with_reducible first | exact HB.out | apply below_alloc | apply pw_below_drewN | apply below_drew1) | exact HB.out)⟩⟩
  case round =>
    clear H'
    try clear p2
    obtain ⟨x5_1, rfl, HA, HK1, HB⟩ := hrel
    cases gk with
    | zero => exact absurd HA.out (by simp [spec_digits.l0])
    | succ k1 =>
      have H := HA.out
      clear HA
      simp only [spec_digits.l0] at H
      by_cases c5 : (x5_1.size : Int) < a1
      · rw [if_pos c5] at H
        have c5b0 : decide ((x5_1.size : Int) < a1) = true := decide_eq_true c5
        clear c5
        by_cases c6 : 1 + x5_1.size ≤ 9223372036854775807
        · rw [if_pos c6] at H
          have c6b0 := eq_true c6
          have c6b1 : decide (1 + x5_1.size ≤ 9223372036854775807) = true := decide_eq_true c6
          try have c6b2 : (9223372036854775807 < 1 + x5_1.size) = False := eq_false (Nat.not_lt.2 c6)
          have H' := Aside0.mk H
          clear H
          go_wp2
          go_roundg k1
          case measure => have := HK1.out; omega
          case rel => exact ⟨((⟨#[48]⟩ : ByteArray) ++ x5_1), (by first | rfl | (simp; done) | (simp [*]; done)), H', ⟨by have := HK1.out; omega⟩, ⟨by repeat (first | (with_reducible first | exact HB.out | apply below_alloc | apply pw_below_drewN | apply below_drew1) | exact HB.out)⟩⟩
        · rw [if_neg c6] at H
          exact absurd H (by simp)
      · rw [if_neg c5] at H
        have c5b0 : decide ((x5_1.size : Int) < a1) = false := decide_eq_false c5
        clear c5
        obtain rfl := Option.some.inj H
        go_wp2
        go_ret
        exact ⟨by first | rfl | (simp [errW_none, errW_some] <;> rfl) | (simp [*, errW_none, errW_some] <;> rfl), by repeat (first | (with_reducible first | exact HB.out | apply below_alloc | apply pw_below_drewN | apply below_drew1) | exact HB.out)⟩

/-! ### spec_formatFix: function 33 -/
def spec_formatFix.f (k : Nat) (a0_0 : Int) (a0_1 : Int) (a0_2 : Int) (a0_3 : Int) (a0_4 : Int) : Option (ByteArray) := (spec_digits.f k (wrap64 (Int.tdiv (mn a0_3 86399) 3600)) 2).bind fun t160 => ((spec_digits.f k (Int.tmod (wrap64 (Int.tdiv (mn a0_3 86399) 60)) 60) 2).bind fun t161 => (if t160.size + t161.size ≤ 9223372036854775807 then ((spec_digits.f k (wrap64 ((wrap64 ((Int.tmod (mn a0_3 86399) 60) + a0_3)) - (mn a0_3 86399))) 2).bind fun t162 => (if (t160 ++ t161).size + t162.size ≤ 9223372036854775807 then (if 4 + ((t160 ++ t161) ++ t162).size ≤ 9223372036854775807 then (if ((⟨#[70, 73, 88, 44]⟩ : ByteArray) ++ ((t160 ++ t161) ++ t162)).size + 1 ≤ 9223372036854775807 then ((spec_digits.f k a0_2 2).bind fun t163 => (if (((⟨#[70, 73, 88, 44]⟩ : ByteArray) ++ ((t160 ++ t161) ++ t162)) ++ (⟨#[44]⟩ : ByteArray)).size + t163.size ≤ 9223372036854775807 then (if ((((⟨#[70, 73, 88, 44]⟩ : ByteArray) ++ ((t160 ++ t161) ++ t162)) ++ (⟨#[44]⟩ : ByteArray)) ++ t163).size + 1 ≤ 9223372036854775807 then ((spec_digits.f k a0_1 2).bind fun t164 => (if (((((⟨#[70, 73, 88, 44]⟩ : ByteArray) ++ ((t160 ++ t161) ++ t162)) ++ (⟨#[44]⟩ : ByteArray)) ++ t163) ++ (⟨#[44]⟩ : ByteArray)).size + t164.size ≤ 9223372036854775807 then (if ((((((⟨#[70, 73, 88, 44]⟩ : ByteArray) ++ ((t160 ++ t161) ++ t162)) ++ (⟨#[44]⟩ : ByteArray)) ++ t163) ++ (⟨#[44]⟩ : ByteArray)) ++ t164).size + 1 ≤ 9223372036854775807 then ((spec_digits.f k a0_0 4).bind fun t165 => (if (((((((⟨#[70, 73, 88, 44]⟩ : ByteArray) ++ ((t160 ++ t161) ++ t162)) ++ (⟨#[44]⟩ : ByteArray)) ++ t163) ++ (⟨#[44]⟩ : ByteArray)) ++ t164) ++ (⟨#[44]⟩ : ByteArray)).size + t165.size ≤ 9223372036854775807 then (if ((((((((⟨#[70, 73, 88, 44]⟩ : ByteArray) ++ ((t160 ++ t161) ++ t162)) ++ (⟨#[44]⟩ : ByteArray)) ++ t163) ++ (⟨#[44]⟩ : ByteArray)) ++ t164) ++ (⟨#[44]⟩ : ByteArray)) ++ t165).size + 1 ≤ 9223372036854775807 then ((spec_decimal.f k a0_4).bind fun t166 => (if (((((((((⟨#[70, 73, 88, 44]⟩ : ByteArray) ++ ((t160 ++ t161) ++ t162)) ++ (⟨#[44]⟩ : ByteArray)) ++ t163) ++ (⟨#[44]⟩ : ByteArray)) ++ t164) ++ (⟨#[44]⟩ : ByteArray)) ++ t165) ++ (⟨#[44]⟩ : ByteArray)).size + t166.size ≤ 9223372036854775807 then (some ((((((((((⟨#[70, 73, 88, 44]⟩ : ByteArray) ++ ((t160 ++ t161) ++ t162)) ++ (⟨#[44]⟩ : ByteArray)) ++ t163) ++ (⟨#[44]⟩ : ByteArray)) ++ t164) ++ (⟨#[44]⟩ : ByteArray)) ++ t165) ++ (⟨#[44]⟩ : ByteArray)) ++ t166)) else (none))) else (none)) else (none))) else (none)) else (none))) else (none)) else (none))) else (none)) else (none)) else (none))) else (none)))
theorem spec_formatFix.mono : ∀ a0 a1 a2 a3 a4 k, LeO (spec_formatFix.f k a0 a1 a2 a3 a4) (spec_formatFix.f (k + 1) a0 a1 a2 a3 a4) := by
  intro a0 a1 a2 a3 a4 k
  unfold spec_formatFix.f
  repeat' first
      | (with_reducible exact spec_decimal.mono _ _)
      | (with_reducible exact spec_digits.mono _ _ _)
      | (with_reducible exact LeO.refl _)
      | (with_reducible exact LeO.none _)
      | (with_reducible refine LeO.ite ?_ ?_)
      | (with_reducible refine LeO.bind ?_ (fun _ => ?_))
      | exact spec_decimal.mono _ _
      | exact spec_digits.mono _ _ _
      | exact LeO.none _
      | refine LeO.ite ?_ ?_
      | refine LeO.bind ?_ (fun _ => ?_)
def spec_formatFix.T4 : Bool × List (List Nat × List Nat) := (true, [([], []), ([0], [0]), ([1], [1]), ([], []), ([3], [3]), ([4], [4]), ([5], [5]), ([2, 6], [2, 6]), ([7], [7]), ([], []), ([9], [9]), ([10], [10]), ([11, 6], [11]), ([8, 12], [8, 12]), ([13], [13]), ([], []), ([15], [15]), ([16], [16]), ([17, 12], [17]), ([14, 18], [14, 18]), ([19], [19]), ([], []), ([21], [21]), ([22, 18], [22]), ([20, 23], [20, 23]), ([24, 23, 0, 1, 2, 3, 4, 5, 6, 7, 8, 9, 10, 11, 12, 13, 14, 15, 16, 17, 18, 19, 20, 21, 22, 23, 24], [24])])
def spec_formatFix.B4 : List Nat := [0, 1, 3, 0, 8, 24, 56, 127, 255, 0, 512, 1536, 3704, 8191, 16383, 0, 32768, 98304, 237176, 524287, 1048575, 0, 2097152, 6790776, 16777215, 33554431]
theorem spec_formatFix.tab4 : rtab .any (opsOf Tryd.f33 4) = spec_formatFix.T4 := by kernel_rfl
theorem spec_formatFix.bits4 : waitsOk spec_formatFix.T4.2 spec_formatFix.B4 = true := by kernel_rfl
set_option maxHeartbeats 8000000 in
set_option maxRecDepth 100000 in
theorem spec_formatFix.calls (k : Nat) (a0_0 : Int) (a0_1 : Int) (a0_2 : Int) (a0_3 : Int) (a0_4 : Int) (r : ByteArray) (w : World) (h : spec_formatFix.f k a0_0 a0_1 a0_2 a0_3 a0_4 = some r) :
    Calls Tryd.prog 33 #[.agg #[.int .i64 a0_0, .int .i64 a0_1, .int .i64 a0_2, .int .i64 a0_3, .int .i64 a0_4]] w fun e w' => e = .returned (.string r) ∧ Below w.heap.size w w' := by
  have hu26 := Tryd.underlying26
  have HB := Aside0.mk (Below.refl w.heap.size w)
  have H : ((spec_digits.f k (wrap64 (Int.tdiv (mn a0_3 86399) 3600)) 2).bind fun t160 => ((spec_digits.f k (Int.tmod (wrap64 (Int.tdiv (mn a0_3 86399) 60)) 60) 2).bind fun t161 => (if t160.size + t161.size ≤ 9223372036854775807 then ((spec_digits.f k (wrap64 ((wrap64 ((Int.tmod (mn a0_3 86399) 60) + a0_3)) - (mn a0_3 86399))) 2).bind fun t162 => (if (t160 ++ t161).size + t162.size ≤ 9223372036854775807 then (if 4 + ((t160 ++ t161) ++ t162).size ≤ 9223372036854775807 then (if ((⟨#[70, 73, 88, 44]⟩ : ByteArray) ++ ((t160 ++ t161) ++ t162)).size + 1 ≤ 9223372036854775807 then ((spec_digits.f k a0_2 2).bind fun t163 => (if (((⟨#[70, 73, 88, 44]⟩ : ByteArray) ++ ((t160 ++ t161) ++ t162)) ++ (⟨#[44]⟩ : ByteArray)).size + t163.size ≤ 9223372036854775807 then (if ((((⟨#[70, 73, 88, 44]⟩ : ByteArray) ++ ((t160 ++ t161) ++ t162)) ++ (⟨#[44]⟩ : ByteArray)) ++ t163).size + 1 ≤ 9223372036854775807 then ((spec_digits.f k a0_1 2).bind fun t164 => (if (((((⟨#[70, 73, 88, 44]⟩ : ByteArray) ++ ((t160 ++ t161) ++ t162)) ++ (⟨#[44]⟩ : ByteArray)) ++ t163) ++ (⟨#[44]⟩ : ByteArray)).size + t164.size ≤ 9223372036854775807 then (if ((((((⟨#[70, 73, 88, 44]⟩ : ByteArray) ++ ((t160 ++ t161) ++ t162)) ++ (⟨#[44]⟩ : ByteArray)) ++ t163) ++ (⟨#[44]⟩ : ByteArray)) ++ t164).size + 1 ≤ 9223372036854775807 then ((spec_digits.f k a0_0 4).bind fun t165 => (if (((((((⟨#[70, 73, 88, 44]⟩ : ByteArray) ++ ((t160 ++ t161) ++ t162)) ++ (⟨#[44]⟩ : ByteArray)) ++ t163) ++ (⟨#[44]⟩ : ByteArray)) ++ t164) ++ (⟨#[44]⟩ : ByteArray)).size + t165.size ≤ 9223372036854775807 then (if ((((((((⟨#[70, 73, 88, 44]⟩ : ByteArray) ++ ((t160 ++ t161) ++ t162)) ++ (⟨#[44]⟩ : ByteArray)) ++ t163) ++ (⟨#[44]⟩ : ByteArray)) ++ t164) ++ (⟨#[44]⟩ : ByteArray)) ++ t165).size + 1 ≤ 9223372036854775807 then ((spec_decimal.f k a0_4).bind fun t166 => (if (((((((((⟨#[70, 73, 88, 44]⟩ : ByteArray) ++ ((t160 ++ t161) ++ t162)) ++ (⟨#[44]⟩ : ByteArray)) ++ t163) ++ (⟨#[44]⟩ : ByteArray)) ++ t164) ++ (⟨#[44]⟩ : ByteArray)) ++ t165) ++ (⟨#[44]⟩ : ByteArray)).size + t166.size ≤ 9223372036854775807 then (some ((((((((((⟨#[70, 73, 88, 44]⟩ : ByteArray) ++ ((t160 ++ t161) ++ t162)) ++ (⟨#[44]⟩ : ByteArray)) ++ t163) ++ (⟨#[44]⟩ : ByteArray)) ++ t164) ++ (⟨#[44]⟩ : ByteArray)) ++ t165) ++ (⟨#[44]⟩ : ByteArray)) ++ t166)) else (none))) else (none)) else (none))) else (none)) else (none))) else (none)) else (none))) else (none)) else (none)) else (none))) else (none)))) = some r := h
  clear h
  obtain ⟨ji2, hji2⟩ : ∃ j_ : Int, (mn a0_3 86399) = j_ := ⟨_, rfl⟩
  replace H : ((spec_digits.f k (wrap64 (Int.tdiv (ji2) 3600)) 2).bind fun t160 => ((spec_digits.f k (Int.tmod (wrap64 (Int.tdiv (ji2) 60)) 60) 2).bind fun t161 => (if t160.size + t161.size ≤ 9223372036854775807 then ((spec_digits.f k (wrap64 ((wrap64 ((Int.tmod (ji2) 60) + a0_3)) - (ji2))) 2).bind fun t162 => (if (t160 ++ t161).size + t162.size ≤ 9223372036854775807 then (if 4 + ((t160 ++ t161) ++ t162).size ≤ 9223372036854775807 then (if ((⟨#[70, 73, 88, 44]⟩ : ByteArray) ++ ((t160 ++ t161) ++ t162)).size + 1 ≤ 9223372036854775807 then ((spec_digits.f k a0_2 2).bind fun t163 => (if (((⟨#[70, 73, 88, 44]⟩ : ByteArray) ++ ((t160 ++ t161) ++ t162)) ++ (⟨#[44]⟩ : ByteArray)).size + t163.size ≤ 9223372036854775807 then (if ((((⟨#[70, 73, 88, 44]⟩ : ByteArray) ++ ((t160 ++ t161) ++ t162)) ++ (⟨#[44]⟩ : ByteArray)) ++ t163).size + 1 ≤ 9223372036854775807 then ((spec_digits.f k a0_1 2).bind fun t164 => (if (((((⟨#[70, 73, 88, 44]⟩ : ByteArray) ++ ((t160 ++ t161) ++ t162)) ++ (⟨#[44]⟩ : ByteArray)) ++ t163) ++ (⟨#[44]⟩ : ByteArray)).size + t164.size ≤ 9223372036854775807 then (if ((((((⟨#[70, 73, 88, 44]⟩ : ByteArray) ++ ((t160 ++ t161) ++ t162)) ++ (⟨#[44]⟩ : ByteArray)) ++ t163) ++ (⟨#[44]⟩ : ByteArray)) ++ t164).size + 1 ≤ 9223372036854775807 then ((spec_digits.f k a0_0 4).bind fun t165 => (if (((((((⟨#[70, 73, 88, 44]⟩ : ByteArray) ++ ((t160 ++ t161) ++ t162)) ++ (⟨#[44]⟩ : ByteArray)) ++ t163) ++ (⟨#[44]⟩ : ByteArray)) ++ t164) ++ (⟨#[44]⟩ : ByteArray)).size + t165.size ≤ 9223372036854775807 then (if ((((((((⟨#[70, 73, 88, 44]⟩ : ByteArray) ++ ((t160 ++ t161) ++ t162)) ++ (⟨#[44]⟩ : ByteArray)) ++ t163) ++ (⟨#[44]⟩ : ByteArray)) ++ t164) ++ (⟨#[44]⟩ : ByteArray)) ++ t165).size + 1 ≤ 9223372036854775807 then ((spec_decimal.f k a0_4).bind fun t166 => (if (((((((((⟨#[70, 73, 88, 44]⟩ : ByteArray) ++ ((t160 ++ t161) ++ t162)) ++ (⟨#[44]⟩ : ByteArray)) ++ t163) ++ (⟨#[44]⟩ : ByteArray)) ++ t164) ++ (⟨#[44]⟩ : ByteArray)) ++ t165) ++ (⟨#[44]⟩ : ByteArray)).size + t166.size ≤ 9223372036854775807 then (some ((((((((((⟨#[70, 73, 88, 44]⟩ : ByteArray) ++ ((t160 ++ t161) ++ t162)) ++ (⟨#[44]⟩ : ByteArray)) ++ t163) ++ (⟨#[44]⟩ : ByteArray)) ++ t164) ++ (⟨#[44]⟩ : ByteArray)) ++ t165) ++ (⟨#[44]⟩ : ByteArray)) ++ t166)) else (none))) else (none)) else (none))) else (none)) else (none))) else (none)) else (none))) else (none)) else (none)) else (none))) else (none)))) = some r := by first | (rw [hji2] at H; exact H) | (simp only [hji2] at H ⊢; exact H)
  (try (have hji2h : ji2 ≤ 86399 := by (rw [← hji2]; unfold mn; (repeat' split) <;> omega)))
  (try (have hji2g : ji2 ≤ 64 := by omega))
  have hji2_ : (if 86399 < a0_3 then 86399 else a0_3) = ji2 := hji2
  replace H := Option.bind_eq_some_iff.mp H
  obtain ⟨t160, A30, H⟩ := H
  replace H : ((spec_digits.f k (Int.tmod (wrap64 (Int.tdiv (ji2) 60)) 60) 2).bind fun t161 => (if t160.size + t161.size ≤ 9223372036854775807 then ((spec_digits.f k (wrap64 ((wrap64 ((Int.tmod (ji2) 60) + a0_3)) - (ji2))) 2).bind fun t162 => (if (t160 ++ t161).size + t162.size ≤ 9223372036854775807 then (if 4 + ((t160 ++ t161) ++ t162).size ≤ 9223372036854775807 then (if ((⟨#[70, 73, 88, 44]⟩ : ByteArray) ++ ((t160 ++ t161) ++ t162)).size + 1 ≤ 9223372036854775807 then ((spec_digits.f k a0_2 2).bind fun t163 => (if (((⟨#[70, 73, 88, 44]⟩ : ByteArray) ++ ((t160 ++ t161) ++ t162)) ++ (⟨#[44]⟩ : ByteArray)).size + t163.size ≤ 9223372036854775807 then (if ((((⟨#[70, 73, 88, 44]⟩ : ByteArray) ++ ((t160 ++ t161) ++ t162)) ++ (⟨#[44]⟩ : ByteArray)) ++ t163).size + 1 ≤ 9223372036854775807 then ((spec_digits.f k a0_1 2).bind fun t164 => (if (((((⟨#[70, 73, 88, 44]⟩ : ByteArray) ++ ((t160 ++ t161) ++ t162)) ++ (⟨#[44]⟩ : ByteArray)) ++ t163) ++ (⟨#[44]⟩ : ByteArray)).size + t164.size ≤ 9223372036854775807 then (if ((((((⟨#[70, 73, 88, 44]⟩ : ByteArray) ++ ((t160 ++ t161) ++ t162)) ++ (⟨#[44]⟩ : ByteArray)) ++ t163) ++ (⟨#[44]⟩ : ByteArray)) ++ t164).size + 1 ≤ 9223372036854775807 then ((spec_digits.f k a0_0 4).bind fun t165 => (if (((((((⟨#[70, 73, 88, 44]⟩ : ByteArray) ++ ((t160 ++ t161) ++ t162)) ++ (⟨#[44]⟩ : ByteArray)) ++ t163) ++ (⟨#[44]⟩ : ByteArray)) ++ t164) ++ (⟨#[44]⟩ : ByteArray)).size + t165.size ≤ 9223372036854775807 then (if ((((((((⟨#[70, 73, 88, 44]⟩ : ByteArray) ++ ((t160 ++ t161) ++ t162)) ++ (⟨#[44]⟩ : ByteArray)) ++ t163) ++ (⟨#[44]⟩ : ByteArray)) ++ t164) ++ (⟨#[44]⟩ : ByteArray)) ++ t165).size + 1 ≤ 9223372036854775807 then ((spec_decimal.f k a0_4).bind fun t166 => (if (((((((((⟨#[70, 73, 88, 44]⟩ : ByteArray) ++ ((t160 ++ t161) ++ t162)) ++ (⟨#[44]⟩ : ByteArray)) ++ t163) ++ (⟨#[44]⟩ : ByteArray)) ++ t164) ++ (⟨#[44]⟩ : ByteArray)) ++ t165) ++ (⟨#[44]⟩ : ByteArray)).size + t166.size ≤ 9223372036854775807 then (some ((((((((((⟨#[70, 73, 88, 44]⟩ : ByteArray) ++ ((t160 ++ t161) ++ t162)) ++ (⟨#[44]⟩ : ByteArray)) ++ t163) ++ (⟨#[44]⟩ : ByteArray)) ++ t164) ++ (⟨#[44]⟩ : ByteArray)) ++ t165) ++ (⟨#[44]⟩ : ByteArray)) ++ t166)) else (none))) else (none)) else (none))) else (none)) else (none))) else (none)) else (none))) else (none)) else (none)) else (none))) else (none))) = some r := H
  have A3 := Aside0.mk A30
  clear A30
  replace H := Option.bind_eq_some_iff.mp H
  obtain ⟨t161, A40, H⟩ := H
  replace H : (if t160.size + t161.size ≤ 9223372036854775807 then ((spec_digits.f k (wrap64 ((wrap64 ((Int.tmod (ji2) 60) + a0_3)) - (ji2))) 2).bind fun t162 => (if (t160 ++ t161).size + t162.size ≤ 9223372036854775807 then (if 4 + ((t160 ++ t161) ++ t162).size ≤ 9223372036854775807 then (if ((⟨#[70, 73, 88, 44]⟩ : ByteArray) ++ ((t160 ++ t161) ++ t162)).size + 1 ≤ 9223372036854775807 then ((spec_digits.f k a0_2 2).bind fun t163 => (if (((⟨#[70, 73, 88, 44]⟩ : ByteArray) ++ ((t160 ++ t161) ++ t162)) ++ (⟨#[44]⟩ : ByteArray)).size + t163.size ≤ 9223372036854775807 then (if ((((⟨#[70, 73, 88, 44]⟩ : ByteArray) ++ ((t160 ++ t161) ++ t162)) ++ (⟨#[44]⟩ : ByteArray)) ++ t163).size + 1 ≤ 9223372036854775807 then ((spec_digits.f k a0_1 2).bind fun t164 => (if (((((⟨#[70, 73, 88, 44]⟩ : ByteArray) ++ ((t160 ++ t161) ++ t162)) ++ (⟨#[44]⟩ : ByteArray)) ++ t163) ++ (⟨#[44]⟩ : ByteArray)).size + t164.size ≤ 9223372036854775807 then (if ((((((⟨#[70, 73, 88, 44]⟩ : ByteArray) ++ ((t160 ++ t161) ++ t162)) ++ (⟨#[44]⟩ : ByteArray)) ++ t163) ++ (⟨#[44]⟩ : ByteArray)) ++ t164).size + 1 ≤ 9223372036854775807 then ((spec_digits.f k a0_0 4).bind fun t165 => (if (((((((⟨#[70, 73, 88, 44]⟩ : ByteArray) ++ ((t160 ++ t161) ++ t162)) ++ (⟨#[44]⟩ : ByteArray)) ++ t163) ++ (⟨#[44]⟩ : ByteArray)) ++ t164) ++ (⟨#[44]⟩ : ByteArray)).size + t165.size ≤ 9223372036854775807 then (if ((((((((⟨#[70, 73, 88, 44]⟩ : ByteArray) ++ ((t160 ++ t161) ++ t162)) ++ (⟨#[44]⟩ : ByteArray)) ++ t163) ++ (⟨#[44]⟩ : ByteArray)) ++ t164) ++ (⟨#[44]⟩ : ByteArray)) ++ t165).size + 1 ≤ 9223372036854775807 then ((spec_decimal.f k a0_4).bind fun t166 => (if (((((((((⟨#[70, 73, 88, 44]⟩ : ByteArray) ++ ((t160 ++ t161) ++ t162)) ++ (⟨#[44]⟩ : ByteArray)) ++ t163) ++ (⟨#[44]⟩ : ByteArray)) ++ t164) ++ (⟨#[44]⟩ : ByteArray)) ++ t165) ++ (⟨#[44]⟩ : ByteArray)).size + t166.size ≤ 9223372036854775807 then (some ((((((((((⟨#[70, 73, 88, 44]⟩ : ByteArray) ++ ((t160 ++ t161) ++ t162)) ++ (⟨#[44]⟩ : ByteArray)) ++ t163) ++ (⟨#[44]⟩ : ByteArray)) ++ t164) ++ (⟨#[44]⟩ : ByteArray)) ++ t165) ++ (⟨#[44]⟩ : ByteArray)) ++ t166)) else (none))) else (none)) else (none))) else (none)) else (none))) else (none)) else (none))) else (none)) else (none)) else (none))) else (none)) = some r := H
  have A4 := Aside0.mk A40
  clear A40
  by_cases c5 : t160.size + t161.size ≤ 9223372036854775807
  · rw [if_pos c5] at H
    have c5b0 := eq_true c5
    have c5b1 : decide (t160.size + t161.size ≤ 9223372036854775807) = true := decide_eq_true c5
    try have c5b2 : (9223372036854775807 < t160.size + t161.size) = False := eq_false (Nat.not_lt.2 c5)
    replace H := Option.bind_eq_some_iff.mp H
    obtain ⟨t162, A60, H⟩ := H
    replace H : (if (t160 ++ t161).size + t162.size ≤ 9223372036854775807 then (if 4 + ((t160 ++ t161) ++ t162).size ≤ 9223372036854775807 then (if ((⟨#[70, 73, 88, 44]⟩ : ByteArray) ++ ((t160 ++ t161) ++ t162)).size + 1 ≤ 9223372036854775807 then ((spec_digits.f k a0_2 2).bind fun t163 => (if (((⟨#[70, 73, 88, 44]⟩ : ByteArray) ++ ((t160 ++ t161) ++ t162)) ++ (⟨#[44]⟩ : ByteArray)).size + t163.size ≤ 9223372036854775807 then (if ((((⟨#[70, 73, 88, 44]⟩ : ByteArray) ++ ((t160 ++ t161) ++ t162)) ++ (⟨#[44]⟩ : ByteArray)) ++ t163).size + 1 ≤ 9223372036854775807 then ((spec_digits.f k a0_1 2).bind fun t164 => (if (((((⟨#[70, 73, 88, 44]⟩ : ByteArray) ++ ((t160 ++ t161) ++ t162)) ++ (⟨#[44]⟩ : ByteArray)) ++ t163) ++ (⟨#[44]⟩ : ByteArray)).size + t164.size ≤ 9223372036854775807 then (if ((((((⟨#[70, 73, 88, 44]⟩ : ByteArray) ++ ((t160 ++ t161) ++ t162)) ++ (⟨#[44]⟩ : ByteArray)) ++ t163) ++ (⟨#[44]⟩ : ByteArray)) ++ t164).size + 1 ≤ 9223372036854775807 then ((spec_digits.f k a0_0 4).bind fun t165 => (if (((((((⟨#[70, 73, 88, 44]⟩ : ByteArray) ++ ((t160 ++ t161) ++ t162)) ++ (⟨#[44]⟩ : ByteArray)) ++ t163) ++ (⟨#[44]⟩ : ByteArray)) ++ t164) ++ (⟨#[44]⟩ : ByteArray)).size + t165.size ≤ 9223372036854775807 then (if ((((((((⟨#[70, 73, 88, 44]⟩ : ByteArray) ++ ((t160 ++ t161) ++ t162)) ++ (⟨#[44]⟩ : ByteArray)) ++ t163) ++ (⟨#[44]⟩ : ByteArray)) ++ t164) ++ (⟨#[44]⟩ : ByteArray)) ++ t165).size + 1 ≤ 9223372036854775807 then ((spec_decimal.f k a0_4).bind fun t166 => (if (((((((((⟨#[70, 73, 88, 44]⟩ : ByteArray) ++ ((t160 ++ t161) ++ t162)) ++ (⟨#[44]⟩ : ByteArray)) ++ t163) ++ (⟨#[44]⟩ : ByteArray)) ++ t164) ++ (⟨#[44]⟩ : ByteArray)) ++ t165) ++ (⟨#[44]⟩ : ByteArray)).size + t166.size ≤ 9223372036854775807 then (some ((((((((((⟨#[70, 73, 88, 44]⟩ : ByteArray) ++ ((t160 ++ t161) ++ t162)) ++ (⟨#[44]⟩ : ByteArray)) ++ t163) ++ (⟨#[44]⟩ : ByteArray)) ++ t164) ++ (⟨#[44]⟩ : ByteArray)) ++ t165) ++ (⟨#[44]⟩ : ByteArray)) ++ t166)) else (none))) else (none)) else (none))) else (none)) else (none))) else (none)) else (none))) else (none)) else (none)) else (none)) = some r := H
    have A6 := Aside0.mk A60
    clear A60
    by_cases c7 : (t160 ++ t161).size + t162.size ≤ 9223372036854775807
    · rw [if_pos c7] at H
      have c7b0 := eq_true c7
      have c7b1 : decide ((t160 ++ t161).size + t162.size ≤ 9223372036854775807) = true := decide_eq_true c7
      try have c7b2 : (9223372036854775807 < (t160 ++ t161).size + t162.size) = False := eq_false (Nat.not_lt.2 c7)
      try have c7b3 := c7b2
      try simp only [ByteArray.size_append, bsz, List.size_toArray, List.length_cons, List.length_nil, Nat.reduceAdd, Nat.zero_add, ByteArray.size_extract] at c7b3
      by_cases c8 : 4 + ((t160 ++ t161) ++ t162).size ≤ 9223372036854775807
      · rw [if_pos c8] at H
        have c8b0 := eq_true c8
        have c8b1 : decide (4 + ((t160 ++ t161) ++ t162).size ≤ 9223372036854775807) = true := decide_eq_true c8
        try have c8b2 : (9223372036854775807 < 4 + ((t160 ++ t161) ++ t162).size) = False := eq_false (Nat.not_lt.2 c8)
        try have c8b3 := c8b2
        try simp only [ByteArray.size_append, bsz, List.size_toArray, List.length_cons, List.length_nil, Nat.reduceAdd, Nat.zero_add, ByteArray.size_extract] at c8b3
        by_cases c9 : ((⟨#[70, 73, 88, 44]⟩ : ByteArray) ++ ((t160 ++ t161) ++ t162)).size + 1 ≤ 9223372036854775807
        · rw [if_pos c9] at H
          have c9b0 := eq_true c9
          have c9b1 : decide (((⟨#[70, 73, 88, 44]⟩ : ByteArray) ++ ((t160 ++ t161) ++ t162)).size + 1 ≤ 9223372036854775807) = true := decide_eq_true c9
          try have c9b2 : (9223372036854775807 < ((⟨#[70, 73, 88, 44]⟩ : ByteArray) ++ ((t160 ++ t161) ++ t162)).size + 1) = False := eq_false (Nat.not_lt.2 c9)
          try have c9b3 := c9b2
          try simp only [ByteArray.size_append, bsz, List.size_toArray, List.length_cons, List.length_nil, Nat.reduceAdd, Nat.zero_add, ByteArray.size_extract] at c9b3
          replace H := Option.bind_eq_some_iff.mp H
          obtain ⟨t163, A100, H⟩ := H
          replace H : (if (((⟨#[70, 73, 88, 44]⟩ : ByteArray) ++ ((t160 ++ t161) ++ t162)) ++ (⟨#[44]⟩ : ByteArray)).size + t163.size ≤ 9223372036854775807 then (if ((((⟨#[70, 73, 88, 44]⟩ : ByteArray) ++ ((t160 ++ t161) ++ t162)) ++ (⟨#[44]⟩ : ByteArray)) ++ t163).size + 1 ≤ 9223372036854775807 then ((spec_digits.f k a0_1 2).bind fun t164 => (if (((((⟨#[70, 73, 88, 44]⟩ : ByteArray) ++ ((t160 ++ t161) ++ t162)) ++ (⟨#[44]⟩ : ByteArray)) ++ t163) ++ (⟨#[44]⟩ : ByteArray)).size + t164.size ≤ 9223372036854775807 then (if ((((((⟨#[70, 73, 88, 44]⟩ : ByteArray) ++ ((t160 ++ t161) ++ t162)) ++ (⟨#[44]⟩ : ByteArray)) ++ t163) ++ (⟨#[44]⟩ : ByteArray)) ++ t164).size + 1 ≤ 9223372036854775807 then ((spec_digits.f k a0_0 4).bind fun t165 => (if (((((((⟨#[70, 73, 88, 44]⟩ : ByteArray) ++ ((t160 ++ t161) ++ t162)) ++ (⟨#[44]⟩ : ByteArray)) ++ t163) ++ (⟨#[44]⟩ : ByteArray)) ++ t164) ++ (⟨#[44]⟩ : ByteArray)).size + t165.size ≤ 9223372036854775807 then (if ((((((((⟨#[70, 73, 88, 44]⟩ : ByteArray) ++ ((t160 ++ t161) ++ t162)) ++ (⟨#[44]⟩ : ByteArray)) ++ t163) ++ (⟨#[44]⟩ : ByteArray)) ++ t164) ++ (⟨#[44]⟩ : ByteArray)) ++ t165).size + 1 ≤ 9223372036854775807 then ((spec_decimal.f k a0_4).bind fun t166 => (if (((((((((⟨#[70, 73, 88, 44]⟩ : ByteArray) ++ ((t160 ++ t161) ++ t162)) ++ (⟨#[44]⟩ : ByteArray)) ++ t163) ++ (⟨#[44]⟩ : ByteArray)) ++ t164) ++ (⟨#[44]⟩ : ByteArray)) ++ t165) ++ (⟨#[44]⟩ : ByteArray)).size + t166.size ≤ 9223372036854775807 then (some ((((((((((⟨#[70, 73, 88, 44]⟩ : ByteArray) ++ ((t160 ++ t161) ++ t162)) ++ (⟨#[44]⟩ : ByteArray)) ++ t163) ++ (⟨#[44]⟩ : ByteArray)) ++ t164) ++ (⟨#[44]⟩ : ByteArray)) ++ t165) ++ (⟨#[44]⟩ : ByteArray)) ++ t166)) else (none))) else (none)) else (none))) else (none)) else (none))) else (none)) else (none)) = some r := H
          have A10 := Aside0.mk A100
          clear A100
          by_cases c11 : (((⟨#[70, 73, 88, 44]⟩ : ByteArray) ++ ((t160 ++ t161) ++ t162)) ++ (⟨#[44]⟩ : ByteArray)).size + t163.size ≤ 9223372036854775807
          · rw [if_pos c11] at H
            have c11b0 := eq_true c11
            have c11b1 : decide ((((⟨#[70, 73, 88, 44]⟩ : ByteArray) ++ ((t160 ++ t161) ++ t162)) ++ (⟨#[44]⟩ : ByteArray)).size + t163.size ≤ 9223372036854775807) = true := decide_eq_true c11
            try have c11b2 : (9223372036854775807 < (((⟨#[70, 73, 88, 44]⟩ : ByteArray) ++ ((t160 ++ t161) ++ t162)) ++ (⟨#[44]⟩ : ByteArray)).size + t163.size) = False := eq_false (Nat.not_lt.2 c11)
            try have c11b3 := c11b2
            try simp only [ByteArray.size_append, bsz, List.size_toArray, List.length_cons, List.length_nil, Nat.reduceAdd, Nat.zero_add, ByteArray.size_extract] at c11b3
            by_cases c12 : ((((⟨#[70, 73, 88, 44]⟩ : ByteArray) ++ ((t160 ++ t161) ++ t162)) ++ (⟨#[44]⟩ : ByteArray)) ++ t163).size + 1 ≤ 9223372036854775807
            · rw [if_pos c12] at H
              have c12b0 := eq_true c12
              have c12b1 : decide (((((⟨#[70, 73, 88, 44]⟩ : ByteArray) ++ ((t160 ++ t161) ++ t162)) ++ (⟨#[44]⟩ : ByteArray)) ++ t163).size + 1 ≤ 9223372036854775807) = true := decide_eq_true c12
              try have c12b2 : (9223372036854775807 < ((((⟨#[70, 73, 88, 44]⟩ : ByteArray) ++ ((t160 ++ t161) ++ t162)) ++ (⟨#[44]⟩ : ByteArray)) ++ t163).size + 1) = False := eq_false (Nat.not_lt.2 c12)
              try have c12b3 := c12b2
              try simp only [ByteArray.size_append, bsz, List.size_toArray, List.length_cons, List.length_nil, Nat.reduceAdd, Nat.zero_add, ByteArray.size_extract] at c12b3
              replace H := Option.bind_eq_some_iff.mp H
              obtain ⟨t164, A130, H⟩ := H
              replace H : (if (((((⟨#[70, 73, 88, 44]⟩ : ByteArray) ++ ((t160 ++ t161) ++ t162)) ++ (⟨#[44]⟩ : ByteArray)) ++ t163) ++ (⟨#[44]⟩ : ByteArray)).size + t164.size ≤ 9223372036854775807 then (if ((((((⟨#[70, 73, 88, 44]⟩ : ByteArray) ++ ((t160 ++ t161) ++ t162)) ++ (⟨#[44]⟩ : ByteArray)) ++ t163) ++ (⟨#[44]⟩ : ByteArray)) ++ t164).size + 1 ≤ 9223372036854775807 then ((spec_digits.f k a0_0 4).bind fun t165 => (if (((((((⟨#[70, 73, 88, 44]⟩ : ByteArray) ++ ((t160 ++ t161) ++ t162)) ++ (⟨#[44]⟩ : ByteArray)) ++ t163) ++ (⟨#[44]⟩ : ByteArray)) ++ t164) ++ (⟨#[44]⟩ : ByteArray)).size + t165.size ≤ 9223372036854775807 then (if ((((((((⟨#[70, 73, 88, 44]⟩ : ByteArray) ++ ((t160 ++ t161) ++ t162)) ++ (⟨#[44]⟩ : ByteArray)) ++ t163) ++ (⟨#[44]⟩ : ByteArray)) ++ t164) ++ (⟨#[44]⟩ : ByteArray)) ++ t165).size + 1 ≤ 9223372036854775807 then ((spec_decimal.f k a0_4).bind fun t166 => (if (((((((((⟨#[70, 73, 88, 44]⟩ : ByteArray) ++ ((t160 ++ t161) ++ t162)) ++ (⟨#[44]⟩ : ByteArray)) ++ t163) ++ (⟨#[44]⟩ : ByteArray)) ++ t164) ++ (⟨#[44]⟩ : ByteArray)) ++ t165) ++ (⟨#[44]⟩ : ByteArray)).size + t166.size ≤ 9223372036854775807 then (some ((((((((((⟨#[70, 73, 88, 44]⟩ : ByteArray) ++ ((t160 ++ t161) ++ t162)) ++ (⟨#[44]⟩ : ByteArray)) ++ t163) ++ (⟨#[44]⟩ : ByteArray)) ++ t164) ++ (⟨#[44]⟩ : ByteArray)) ++ t165) ++ (⟨#[44]⟩ : ByteArray)) ++ t166)) else (none))) else (none)) else (none))) else (none)) else (none)) = some r := H
              have A13 := Aside0.mk A130
              clear A130
              by_cases c14 : (((((⟨#[70, 73, 88, 44]⟩ : ByteArray) ++ ((t160 ++ t161) ++ t162)) ++ (⟨#[44]⟩ : ByteArray)) ++ t163) ++ (⟨#[44]⟩ : ByteArray)).size + t164.size ≤ 9223372036854775807
              · rw [if_pos c14] at H
                have c14b0 := eq_true c14
                have c14b1 : decide ((((((⟨#[70, 73, 88, 44]⟩ : ByteArray) ++ ((t160 ++ t161) ++ t162)) ++ (⟨#[44]⟩ : ByteArray)) ++ t163) ++ (⟨#[44]⟩ : ByteArray)).size + t164.size ≤ 9223372036854775807) = true := decide_eq_true c14
                try have c14b2 : (9223372036854775807 < (((((⟨#[70, 73, 88, 44]⟩ : ByteArray) ++ ((t160 ++ t161) ++ t162)) ++ (⟨#[44]⟩ : ByteArray)) ++ t163) ++ (⟨#[44]⟩ : ByteArray)).size + t164.size) = False := eq_false (Nat.not_lt.2 c14)
                try have c14b3 := c14b2
                try simp only [ByteArray.size_append, bsz, List.size_toArray, List.length_cons, List.length_nil, Nat.reduceAdd, Nat.zero_add, ByteArray.size_extract] at c14b3
                by_cases c15 : ((((((⟨#[70, 73, 88, 44]⟩ : ByteArray) ++ ((t160 ++ t161) ++ t162)) ++ (⟨#[44]⟩ : ByteArray)) ++ t163) ++ (⟨#[44]⟩ : ByteArray)) ++ t164).size + 1 ≤ 9223372036854775807
                · rw [if_pos c15] at H
                  have c15b0 := eq_true c15
                  have c15b1 : decide (((((((⟨#[70, 73, 88, 44]⟩ : ByteArray) ++ ((t160 ++ t161) ++ t162)) ++ (⟨#[44]⟩ : ByteArray)) ++ t163) ++ (⟨#[44]⟩ : ByteArray)) ++ t164).size + 1 ≤ 9223372036854775807) = true := decide_eq_true c15
                  try have c15b2 : (9223372036854775807 < ((((((⟨#[70, 73, 88, 44]⟩ : ByteArray) ++ ((t160 ++ t161) ++ t162)) ++ (⟨#[44]⟩ : ByteArray)) ++ t163) ++ (⟨#[44]⟩ : ByteArray)) ++ t164).size + 1) = False := eq_false (Nat.not_lt.2 c15)
                  try have c15b3 := c15b2
                  try simp only [ByteArray.size_append, bsz, List.size_toArray, List.length_cons, List.length_nil, Nat.reduceAdd, Nat.zero_add, ByteArray.size_extract] at c15b3
                  replace H := Option.bind_eq_some_iff.mp H
                  obtain ⟨t165, A160, H⟩ := H
                  replace H : (if (((((((⟨#[70, 73, 88, 44]⟩ : ByteArray) ++ ((t160 ++ t161) ++ t162)) ++ (⟨#[44]⟩ : ByteArray)) ++ t163) ++ (⟨#[44]⟩ : ByteArray)) ++ t164) ++ (⟨#[44]⟩ : ByteArray)).size + t165.size ≤ 9223372036854775807 then (if ((((((((⟨#[70, 73, 88, 44]⟩ : ByteArray) ++ ((t160 ++ t161) ++ t162)) ++ (⟨#[44]⟩ : ByteArray)) ++ t163) ++ (⟨#[44]⟩ : ByteArray)) ++ t164) ++ (⟨#[44]⟩ : ByteArray)) ++ t165).size + 1 ≤ 9223372036854775807 then ((spec_decimal.f k a0_4).bind fun t166 => (if (((((((((⟨#[70, 73, 88, 44]⟩ : ByteArray) ++ ((t160 ++ t161) ++ t162)) ++ (⟨#[44]⟩ : ByteArray)) ++ t163) ++ (⟨#[44]⟩ : ByteArray)) ++ t164) ++ (⟨#[44]⟩ : ByteArray)) ++ t165) ++ (⟨#[44]⟩ : ByteArray)).size + t166.size ≤ 9223372036854775807 then (some ((((((((((⟨#[70, 73, 88, 44]⟩ : ByteArray) ++ ((t160 ++ t161) ++ t162)) ++ (⟨#[44]⟩ : ByteArray)) ++ t163) ++ (⟨#[44]⟩ : ByteArray)) ++ t164) ++ (⟨#[44]⟩ : ByteArray)) ++ t165) ++ (⟨#[44]⟩ : ByteArray)) ++ t166)) else (none))) else (none)) else (none)) = some r := H
                  have A16 := Aside0.mk A160
                  clear A160
                  by_cases c17 : (((((((⟨#[70, 73, 88, 44]⟩ : ByteArray) ++ ((t160 ++ t161) ++ t162)) ++ (⟨#[44]⟩ : ByteArray)) ++ t163) ++ (⟨#[44]⟩ : ByteArray)) ++ t164) ++ (⟨#[44]⟩ : ByteArray)).size + t165.size ≤ 9223372036854775807
                  · rw [if_pos c17] at H
                    have c17b0 := eq_true c17
                    have c17b1 : decide ((((((((⟨#[70, 73, 88, 44]⟩ : ByteArray) ++ ((t160 ++ t161) ++ t162)) ++ (⟨#[44]⟩ : ByteArray)) ++ t163) ++ (⟨#[44]⟩ : ByteArray)) ++ t164) ++ (⟨#[44]⟩ : ByteArray)).size + t165.size ≤ 9223372036854775807) = true := decide_eq_true c17
                    try have c17b2 : (9223372036854775807 < (((((((⟨#[70, 73, 88, 44]⟩ : ByteArray) ++ ((t160 ++ t161) ++ t162)) ++ (⟨#[44]⟩ : ByteArray)) ++ t163) ++ (⟨#[44]⟩ : ByteArray)) ++ t164) ++ (⟨#[44]⟩ : ByteArray)).size + t165.size) = False := eq_false (Nat.not_lt.2 c17)
                    try have c17b3 := c17b2
                    try simp only [ByteArray.size_append, bsz, List.size_toArray, List.length_cons, List.length_nil, Nat.reduceAdd, Nat.zero_add, ByteArray.size_extract] at c17b3
                    by_cases c18 : ((((((((⟨#[70, 73, 88, 44]⟩ : ByteArray) ++ ((t160 ++ t161) ++ t162)) ++ (⟨#[44]⟩ : ByteArray)) ++ t163) ++ (⟨#[44]⟩ : ByteArray)) ++ t164) ++ (⟨#[44]⟩ : ByteArray)) ++ t165).size + 1 ≤ 9223372036854775807
                    · rw [if_pos c18] at H
                      have c18b0 := eq_true c18
                      have c18b1 : decide (((((((((⟨#[70, 73, 88, 44]⟩ : ByteArray) ++ ((t160 ++ t161) ++ t162)) ++ (⟨#[44]⟩ : ByteArray)) ++ t163) ++ (⟨#[44]⟩ : ByteArray)) ++ t164) ++ (⟨#[44]⟩ : ByteArray)) ++ t165).size + 1 ≤ 9223372036854775807) = true := decide_eq_true c18
                      try have c18b2 : (9223372036854775807 < ((((((((⟨#[70, 73, 88, 44]⟩ : ByteArray) ++ ((t160 ++ t161) ++ t162)) ++ (⟨#[44]⟩ : ByteArray)) ++ t163) ++ (⟨#[44]⟩ : ByteArray)) ++ t164) ++ (⟨#[44]⟩ : ByteArray)) ++ t165).size + 1) = False := eq_false (Nat.not_lt.2 c18)
                      try have c18b3 := c18b2
                      try simp only [ByteArray.size_append, bsz, List.size_toArray, List.length_cons, List.length_nil, Nat.reduceAdd, Nat.zero_add, ByteArray.size_extract] at c18b3
                      replace H := Option.bind_eq_some_iff.mp H
                      obtain ⟨t166, A190, H⟩ := H
                      replace H : (if (((((((((⟨#[70, 73, 88, 44]⟩ : ByteArray) ++ ((t160 ++ t161) ++ t162)) ++ (⟨#[44]⟩ : ByteArray)) ++ t163) ++ (⟨#[44]⟩ : ByteArray)) ++ t164) ++ (⟨#[44]⟩ : ByteArray)) ++ t165) ++ (⟨#[44]⟩ : ByteArray)).size + t166.size ≤ 9223372036854775807 then (some ((((((((((⟨#[70, 73, 88, 44]⟩ : ByteArray) ++ ((t160 ++ t161) ++ t162)) ++ (⟨#[44]⟩ : ByteArray)) ++ t163) ++ (⟨#[44]⟩ : ByteArray)) ++ t164) ++ (⟨#[44]⟩ : ByteArray)) ++ t165) ++ (⟨#[44]⟩ : ByteArray)) ++ t166)) else (none)) = some r := H
                      have A19 := Aside0.mk A190
                      clear A190
                      by_cases c20 : (((((((((⟨#[70, 73, 88, 44]⟩ : ByteArray) ++ ((t160 ++ t161) ++ t162)) ++ (⟨#[44]⟩ : ByteArray)) ++ t163) ++ (⟨#[44]⟩ : ByteArray)) ++ t164) ++ (⟨#[44]⟩ : ByteArray)) ++ t165) ++ (⟨#[44]⟩ : ByteArray)).size + t166.size ≤ 9223372036854775807
                      · rw [if_pos c20] at H
                        have c20b0 := eq_true c20
                        have c20b1 : decide ((((((((((⟨#[70, 73, 88, 44]⟩ : ByteArray) ++ ((t160 ++ t161) ++ t162)) ++ (⟨#[44]⟩ : ByteArray)) ++ t163) ++ (⟨#[44]⟩ : ByteArray)) ++ t164) ++ (⟨#[44]⟩ : ByteArray)) ++ t165) ++ (⟨#[44]⟩ : ByteArray)).size + t166.size ≤ 9223372036854775807) = true := decide_eq_true c20
                        try have c20b2 : (9223372036854775807 < (((((((((⟨#[70, 73, 88, 44]⟩ : ByteArray) ++ ((t160 ++ t161) ++ t162)) ++ (⟨#[44]⟩ : ByteArray)) ++ t163) ++ (⟨#[44]⟩ : ByteArray)) ++ t164) ++ (⟨#[44]⟩ : ByteArray)) ++ t165) ++ (⟨#[44]⟩ : ByteArray)).size + t166.size) = False := eq_false (Nat.not_lt.2 c20)
                        try have c20b3 := c20b2
                        try simp only [ByteArray.size_append, bsz, List.size_toArray, List.length_cons, List.length_nil, Nat.reduceAdd, Nat.zero_add, ByteArray.size_extract] at c20b3
                        obtain rfl := Option.some.inj H
                        go_enter Tryd.func33, Tryd.ntmps33
                        try go_wp2_with (first | ((with_reducible refine gate_dst (N := 1) rfl ?_); refine box_event ?hg (N := 1) ?hd (cs := #[.int .i64 a0_0, .int .i64 a0_1, .int .i64 a0_2, .int .i64 a0_3, .int .i64 a0_4]) (t := 26) ?hr ?_; (case hd => rfl); (case hg => rfl); (case hr => first | (go_simp; done) | (go_simp; rfl)); intro gb159 hg w21 hbox hb; have n0_ := Aside0.mk (below_step (by repeat (first | (with_reducible first | exact HB.out | apply below_alloc | apply pw_below_drewN | apply below_drew1) | exact HB.out)) hb); have n1_ := Aside0.mk (hbox); have n2_ := Aside0.mk ((by rw [hg]; exact (below_size (by repeat (first | (with_reducible first | exact HB.out | apply below_alloc | apply pw_below_drewN | apply below_drew1) | exact HB.out))) : w.heap.size ≤ gb159)); have n3_ := Aside0.mk ((by rw [hg]; exact (below_size (by repeat (first | (with_reducible first | exact HB.out | apply below_alloc | apply pw_below_drewN | apply below_drew1) | exact HB.out))) : w.heap.size ≤ gb159)); clear HB; have HB := n0_; have BK159 := n1_; have GW159 := n2_; have GE159 := n3_; clear n0_ n1_ n2_ n3_; clear hb hbox hg; have hcz22_0 : w21.cell? ⟨gb159, 0, none⟩ = some (.int .i64 a0_0) := (blk_cell BK159.out 0).trans rfl; have hcz22_1 : w21.cell? ⟨gb159, 1, none⟩ = some (.int .i64 a0_1) := (blk_cell BK159.out 1).trans rfl; have hcz22_2 : w21.cell? ⟨gb159, 2, none⟩ = some (.int .i64 a0_2) := (blk_cell BK159.out 2).trans rfl; have hcz22_3 : w21.cell? ⟨gb159, 3, none⟩ = some (.int .i64 a0_3) := (blk_cell BK159.out 3).trans rfl; have hcz22_4 : w21.cell? ⟨gb159, 4, none⟩ = some (.int .i64 a0_4) := (blk_cell BK159.out 4).trans rfl; have hfz22_0 := blk_frozen BK159.out 0; have hfz22_1 := blk_frozen BK159.out 1; have hfz22_2 := blk_frozen BK159.out 2; have hfz22_3 := blk_frozen BK159.out 3; have hfz22_4 := blk_frozen BK159.out 4) | ((with_reducible refine gate_callee (f := 53) rfl ?_); refine goesL_ (some 18) rfl rfl Tryd.func53 (by kernel_rfl) rfl #[.int .i64 (wrap64 (Int.tdiv (ji2) 3600)), .int .i64 2] rfl (by (try simp only [List.map_toArray, List.map_cons, List.map_nil]); first | done | (simp only [hji2]; rfl) | rfl | (simp only [List.length_drop, List.length_take]; rfl)) ?_; (with_reducible refine (spec_digits.calls k (wrap64 (Int.tdiv (ji2) 3600)) 2 t160 _ A3.out).mono ?_); rintro e w23 ⟨rfl, hb⟩; refine ⟨_, rfl, ?_⟩; have n0_ := Aside0.mk (blk_below (g := gb159) (o := .cells #[.int .i64 a0_0, .int .i64 a0_1, .int .i64 a0_2, .int .i64 a0_3, .int .i64 a0_4] 26 (0, 0)) (by (with_reducible repeat (first | refine blk_drewN ?_ _ | refine blk_drew ?_ | refine blk_alloc ?_ _)); exact BK159.out) hb); have n1_ := Aside0.mk (below_step (by repeat (first | (with_reducible first | exact HB.out | apply below_alloc | apply pw_below_drewN | apply below_drew1 | refine below_set ?_ GE159.out) | exact HB.out)) hb); clear BK159; clear HB; have BK159 := n0_; have HB := n1_; clear n0_ n1_; (try clear hb); (try clear hb2); (try clear hk); (try clear hi)) | ((with_reducible refine gate_callee (f := 53) rfl ?_); refine goesL_ (some 22) rfl rfl Tryd.func53 (by kernel_rfl) rfl #[.int .i64 (Int.tmod (wrap64 (Int.tdiv (ji2) 60)) 60), .int .i64 2] rfl (by (try simp only [List.map_toArray, List.map_cons, List.map_nil]); first | done | (simp only [hji2]; rfl) | rfl | (simp only [List.length_drop, List.length_take]; rfl)) ?_; (with_reducible refine (spec_digits.calls k (Int.tmod (wrap64 (Int.tdiv (ji2) 60)) 60) 2 t161 _ A4.out).mono ?_); rintro e w24 ⟨rfl, hb⟩; refine ⟨_, rfl, ?_⟩; have n0_ := Aside0.mk (blk_below (g := gb159) (o := .cells #[.int .i64 a0_0, .int .i64 a0_1, .int .i64 a0_2, .int .i64 a0_3, .int .i64 a0_4] 26 (0, 0)) (by (with_reducible repeat (first | refine blk_drewN ?_ _ | refine blk_drew ?_ | refine blk_alloc ?_ _)); exact BK159.out) hb); have n1_ := Aside0.mk (below_step (by repeat (first | (with_reducible first | exact HB.out | apply below_alloc | apply pw_below_drewN | apply below_drew1 | refine below_set ?_ GE159.out) | exact HB.out)) hb); clear BK159; clear HB; have BK159 := n0_; have HB := n1_; clear n0_ n1_; (try clear hb); (try clear hb2); (try clear hk); (try clear hi)) | ((with_reducible refine gate_callee (f := 53) rfl ?_); refine goesL_ (some 25) rfl rfl Tryd.func53 (by kernel_rfl) rfl #[.int .i64 (wrap64 ((wrap64 ((Int.tmod (ji2) 60) + a0_3)) - (ji2))), .int .i64 2] rfl (by (try simp only [List.map_toArray, List.map_cons, List.map_nil]); first | done | (simp only [hji2]; rfl) | rfl | (simp only [List.length_drop, List.length_take]; rfl)) ?_; (with_reducible refine (spec_digits.calls k (wrap64 ((wrap64 ((Int.tmod (ji2) 60) + a0_3)) - (ji2))) 2 t162 _ A6.out).mono ?_); rintro e w25 ⟨rfl, hb⟩; refine ⟨_, rfl, ?_⟩; have n0_ := Aside0.mk (blk_below (g := gb159) (o := .cells #[.int .i64 a0_0, .int .i64 a0_1, .int .i64 a0_2, .int .i64 a0_3, .int .i64 a0_4] 26 (0, 0)) (by (with_reducible repeat (first | refine blk_drewN ?_ _ | refine blk_drew ?_ | refine blk_alloc ?_ _)); exact BK159.out) hb); have n1_ := Aside0.mk (below_step (by repeat (first | (with_reducible first | exact HB.out | apply below_alloc | apply pw_below_drewN | apply below_drew1 | refine below_set ?_ GE159.out) | exact HB.out)) hb); clear BK159; clear HB; have BK159 := n0_; have HB := n1_; clear n0_ n1_; (try clear hb); (try clear hb2); (try clear hk); (try clear hi)))
                        have n0_ := Aside0.mk (blk_drew BK159.out)
                        have n1_ := Aside0.mk (below_drew1 HB.out)
                        clear BK159
                        clear HB
                        have BK159 := n0_
                        have HB := n1_
                        clear n0_ n1_
                        refine start_ (n := 26) (S := fun w' => w'.cell? ⟨gb159, 0, none⟩ = some (.int .i64 a0_0) ∧ w'.cell? ⟨gb159, 1, none⟩ = some (.int .i64 a0_1) ∧ w'.cell? ⟨gb159, 2, none⟩ = some (.int .i64 a0_2) ∧ w'.cell? ⟨gb159, 3, none⟩ = some (.int .i64 a0_3) ∧ w'.cell? ⟨gb159, 4, none⟩ = some (.int .i64 a0_4)) (ds := []) #[false, false, false, false, false, false, false, false, false, false, false, false, false, false, false, false, false, false, false, false, false, false, false, false, false, false] (by kernel_rfl) rfl rfl ⟨(blk_cell BK159.out 0).trans rfl, (blk_cell BK159.out 1).trans rfl, (blk_cell BK159.out 2).trans rfl, (blk_cell BK159.out 3).trans rfl, (blk_cell BK159.out 4).trans rfl⟩ (fun hHeld => ?_); refine with_tabW spec_formatFix.tab4 spec_formatFix.bits4 (fun HT_ HW_ => ?_)
                        generalize w25.drew = w26 at BK159 HB hHeld ⊢
                        refine pure_ (i := 0) (N := some 27) (v := ?_) (a' := ?_) #[true, false, false, false, false, false, false, false, false, false, false, false, false, false, false, false, false, false, false, false, false, false, false, false, false, false] rfl rfl (any_of HT_.out (by kernel_rfl)) (fun _ _ _ h => h) (Or.inl ⟨by rfl, ?_⟩) ?_ ?_
                        rotate_left
                        · intro w'
                          go_simp
                          with_reducible rfl
                        rotate_left
                        · simp only [Act.put, List.setIfInBounds_toArray, List.set_cons_zero, List.set_cons_succ, i64_w, i32_w]
                          rfl
                        refine pure_ (i := 1) (N := some 28) (v := ?_) (a' := ?_) #[true, true, false, false, false, false, false, false, false, false, false, false, false, false, false, false, false, false, false, false, false, false, false, false, false, false] rfl rfl (any_of HT_.out (by kernel_rfl)) (fun _ _ _ h => h) (Or.inl ⟨by rfl, ?_⟩) ?_ ?_
                        rotate_left
                        · intro w'
                          go_simp
                          with_reducible rfl
                        rotate_left
                        · simp only [Act.put, List.setIfInBounds_toArray, List.set_cons_zero, List.set_cons_succ, i64_w, i32_w]
                          rfl
                        refine pure_ (i := 2) (N := some 29) (v := ?_) (a' := ?_) #[true, true, true, false, false, false, false, false, false, false, false, false, false, false, false, false, false, false, false, false, false, false, false, false, false, false] rfl rfl (any_of HT_.out (by kernel_rfl)) (fun _ _ _ h => h) (Or.inl ⟨by rfl, ?_⟩) ?_ ?_
                        rotate_left
                        · intro w'
                          go_simp
                          with_reducible rfl
                        rotate_left
                        · simp only [Act.put, List.setIfInBounds_toArray, List.set_cons_zero, List.set_cons_succ, i64_w, i32_w]
                          rfl
                        refine pure_ (i := 3) (N := some 30) (v := ?_) (a' := ?_) #[true, true, true, true, false, false, false, false, false, false, false, false, false, false, false, false, false, false, false, false, false, false, false, false, false, false] rfl rfl (any_of HT_.out (by kernel_rfl)) (fun _ _ _ h => h) (Or.inl ⟨by rfl, ?_⟩) ?_ ?_
                        rotate_left
                        · intro w'
                          go_simp
                          with_reducible rfl
                        rotate_left
                        · simp only [Act.put, List.setIfInBounds_toArray, List.set_cons_zero, List.set_cons_succ, i64_w, i32_w]
                          rfl
                        refine pure_ (i := 4) (N := some 31) (v := ?_) (a' := ?_) #[true, true, true, true, true, false, false, false, false, false, false, false, false, false, false, false, false, false, false, false, false, false, false, false, false, false] rfl rfl (any_of HT_.out (by kernel_rfl)) (fun _ _ _ h => h) (Or.inl ⟨by rfl, ?_⟩) ?_ ?_
                        rotate_left
                        · intro w'
                          go_simp
                          with_reducible rfl
                        rotate_left
                        · simp only [Act.put, List.setIfInBounds_toArray, List.set_cons_zero, List.set_cons_succ, i64_w, i32_w]
                          rfl
                        refine pure_ (i := 9) (N := some 36) (v := ?_) (a' := ?_) #[true, true, true, true, true, false, false, false, false, true, false, false, false, false, false, false, false, false, false, false, false, false, false, false, false, false] rfl rfl (any_of HT_.out (by kernel_rfl)) (fun _ _ _ h => h) (Or.inl ⟨by rfl, ?_⟩) ?_ ?_
                        rotate_left
                        · intro w'
                          go_simp
                          with_reducible rfl
                        rotate_left
                        · simp only [Act.put, List.setIfInBounds_toArray, List.set_cons_zero, List.set_cons_succ, i64_w, i32_w]
                          rfl
                        refine pure_ (i := 10) (N := some 37) (v := ?_) (a' := ?_) #[true, true, true, true, true, false, false, false, false, true, true, false, false, false, false, false, false, false, false, false, false, false, false, false, false, false] rfl rfl (any_of HT_.out (by kernel_rfl)) (fun _ _ _ h => h) (Or.inl ⟨by rfl, ?_⟩) ?_ ?_
                        rotate_left
                        · intro w'
                          go_simp
                          with_reducible rfl
                        rotate_left
                        · simp only [Act.put, List.setIfInBounds_toArray, List.set_cons_zero, List.set_cons_succ, i64_w, i32_w]
                          rfl
                        refine pure_ (i := 15) (N := some 42) (v := ?_) (a' := ?_) #[true, true, true, true, true, false, false, false, false, true, true, false, false, false, false, true, false, false, false, false, false, false, false, false, false, false] rfl rfl (any_of HT_.out (by kernel_rfl)) (fun _ _ _ h => h) (Or.inl ⟨by rfl, ?_⟩) ?_ ?_
                        rotate_left
                        · intro w'
                          go_simp
                          with_reducible rfl
                        rotate_left
                        · simp only [Act.put, List.setIfInBounds_toArray, List.set_cons_zero, List.set_cons_succ, i64_w, i32_w]
                          rfl
                        refine pure_ (i := 16) (N := some 43) (v := ?_) (a' := ?_) #[true, true, true, true, true, false, false, false, false, true, true, false, false, false, false, true, true, false, false, false, false, false, false, false, false, false] rfl rfl (any_of HT_.out (by kernel_rfl)) (fun _ _ _ h => h) (Or.inl ⟨by rfl, ?_⟩) ?_ ?_
                        rotate_left
                        · intro w'
                          go_simp
                          with_reducible rfl
                        rotate_left
                        · simp only [Act.put, List.setIfInBounds_toArray, List.set_cons_zero, List.set_cons_succ, i64_w, i32_w]
                          rfl
                        refine pure_ (i := 21) (N := some 48) (v := ?_) (a' := ?_) #[true, true, true, true, true, false, false, false, false, true, true, false, false, false, false, true, true, false, false, false, false, true, false, false, false, false] rfl rfl (any_of HT_.out (by kernel_rfl)) (fun _ _ _ h => h) (Or.inl ⟨by rfl, ?_⟩) ?_ ?_
                        rotate_left
                        · intro w'
                          go_simp
                          with_reducible rfl
                        rotate_left
                        · simp only [Act.put, List.setIfInBounds_toArray, List.set_cons_zero, List.set_cons_succ, i64_w, i32_w]
                          rfl
                        refine take_ (i := 5) (N := some 32) (v := ?_) (a' := ?_) #[true, true, true, true, true, true, false, false, false, true, true, false, false, false, false, true, true, false, false, false, false, true, false, false, false, false] rfl rfl (take_ofW HT_.out HW_.out (by kernel_rfl)) (fun _ _ _ h => h) (Or.inl ⟨by rfl, ?_⟩) hHeld ?_ ?_
                        rotate_left
                        · rintro w' ⟨s0, s1, s2, s3, s4⟩
                          go_simp
                          with_reducible rfl
                        rotate_left
                        · simp only [Act.put, List.setIfInBounds_toArray, List.set_cons_zero, List.set_cons_succ, i64_w, i32_w]
                          rfl
                        refine take_ (i := 11) (N := some 38) (v := ?_) (a' := ?_) #[true, true, true, true, true, true, false, false, false, true, true, true, false, false, false, true, true, false, false, false, false, true, false, false, false, false] rfl rfl (take_ofW HT_.out HW_.out (by kernel_rfl)) (fun _ _ _ h => h) (Or.inl ⟨by rfl, ?_⟩) hHeld ?_ ?_
                        rotate_left
                        · rintro w' ⟨s0, s1, s2, s3, s4⟩
                          go_simp
                          with_reducible rfl
                        rotate_left
                        · simp only [Act.put, List.setIfInBounds_toArray, List.set_cons_zero, List.set_cons_succ, i64_w, i32_w]
                          rfl
                        refine take_ (i := 17) (N := some 44) (v := ?_) (a' := ?_) #[true, true, true, true, true, true, false, false, false, true, true, true, false, false, false, true, true, true, false, false, false, true, false, false, false, false] rfl rfl (take_ofW HT_.out HW_.out (by kernel_rfl)) (fun _ _ _ h => h) (Or.inl ⟨by rfl, ?_⟩) hHeld ?_ ?_
                        rotate_left
                        · rintro w' ⟨s0, s1, s2, s3, s4⟩
                          go_simp
                          with_reducible rfl
                        rotate_left
                        · simp only [Act.put, List.setIfInBounds_toArray, List.set_cons_zero, List.set_cons_succ, i64_w, i32_w]
                          rfl
                        refine take_ (i := 22) (N := some 49) (v := ?_) (a' := ?_) #[true, true, true, true, true, true, false, false, false, true, true, true, false, false, false, true, true, true, false, false, false, true, true, false, false, false] rfl rfl (take_ofW HT_.out HW_.out (by kernel_rfl)) (fun _ _ _ h => h) (Or.inl ⟨by rfl, ?_⟩) hHeld ?_ ?_
                        rotate_left
                        · rintro w' ⟨s0, s1, s2, s3, s4⟩
                          go_simp
                          with_reducible rfl
                        rotate_left
                        · simp only [Act.put, List.setIfInBounds_toArray, List.set_cons_zero, List.set_cons_succ, i64_w, i32_w]
                          rfl
                        refine one_ (i := 6) (N := some 33) #[true, true, true, true, true, true, true, false, false, true, true, true, false, false, false, true, true, true, false, false, false, true, true, false, false, false] rfl rfl (one_of HT_.out (by kernel_rfl)) (by decide) (fun K hK => ?_)
                        refine goes_ Tryd.func53 (by kernel_rfl) rfl #[.int .i64 a0_2, .int .i64 2] (by rfl) rfl rfl (by (try simp only [List.map_toArray, List.map_cons, List.map_nil]); first | done | rfl | (simp only [List.length_drop, List.length_take]; rfl)) ?_
                        with_reducible refine (spec_digits.calls k a0_2 2 t163 _ A10.out).mono ?_
                        rintro e w27 ⟨rfl, hb⟩
                        refine ⟨_, rfl, ?_⟩
                        have n0_ := Aside0.mk (blk_below (g := gb159) (o := .cells #[.int .i64 a0_0, .int .i64 a0_1, .int .i64 a0_2, .int .i64 a0_3, .int .i64 a0_4] 26 (0, 0)) (by (with_reducible repeat (first | refine blk_drewN ?_ _ | refine blk_drew ?_ | refine blk_alloc ?_ _)); exact BK159.out) hb)
                        have n1_ := Aside0.mk (below_step (by repeat (first | (with_reducible first | exact HB.out | apply below_alloc | apply pw_below_drewN | apply below_drew1 | refine below_set ?_ GE159.out) | exact HB.out)) hb)
                        clear BK159
                        clear HB
                        have BK159 := n0_
                        have HB := n1_
                        clear n0_ n1_
                        (try clear hb)
                        (try clear hb2)
                        (try clear hk)
                        (try clear hi)
                        refine hK.out _ _ ⟨(blk_cell BK159.out 0).trans rfl, (blk_cell BK159.out 1).trans rfl, (blk_cell BK159.out 2).trans rfl, (blk_cell BK159.out 3).trans rfl, (blk_cell BK159.out 4).trans rfl⟩ (fun hHeld => ?_)
                        clear hK K
                        refine norm_ (a' := ?_) ?_ ?_
                        rotate_left
                        · show Act.put _ (some 33) _ = _
                          simp only [Act.put, List.setIfInBounds_toArray, List.set_cons_zero, List.set_cons_succ, i64_w, i32_w]
                          rfl
                        refine pure_ (i := 7) (N := some 34) (v := ?_) (a' := ?_) #[true, true, true, true, true, true, true, true, false, true, true, true, false, false, false, true, true, true, false, false, false, true, true, false, false, false] rfl rfl (any_of HT_.out (by kernel_rfl)) (fun _ _ _ h => h) (Or.inl ⟨by rfl, ?_⟩) ?_ ?_
                        rotate_left
                        · intro w'
                          go_simp
                          with_reducible rfl
                        rotate_left
                        · simp only [Act.put, List.setIfInBounds_toArray, List.set_cons_zero, List.set_cons_succ, i64_w, i32_w]
                          rfl
                        refine pure_ (i := 8) (N := some 35) (v := ?_) (a' := ?_) #[true, true, true, true, true, true, true, true, true, true, true, true, false, false, false, true, true, true, false, false, false, true, true, false, false, false] rfl rfl (any_of HT_.out (by kernel_rfl)) (fun _ _ _ h => h) (Or.inl ⟨by rfl, ?_⟩) ?_ ?_
                        rotate_left
                        · intro w'
                          go_simp
                          with_reducible rfl
                        rotate_left
                        · simp only [Act.put, List.setIfInBounds_toArray, List.set_cons_zero, List.set_cons_succ, i64_w, i32_w]
                          rfl
                        refine one_ (i := 12) (N := some 39) #[true, true, true, true, true, true, true, true, true, true, true, true, true, false, false, true, true, true, false, false, false, true, true, false, false, false] rfl rfl (one_of HT_.out (by kernel_rfl)) (by decide) (fun K hK => ?_)
                        refine goes_ Tryd.func53 (by kernel_rfl) rfl #[.int .i64 a0_1, .int .i64 2] (by rfl) rfl rfl (by (try simp only [List.map_toArray, List.map_cons, List.map_nil]); first | done | rfl | (simp only [List.length_drop, List.length_take]; rfl)) ?_
                        with_reducible refine (spec_digits.calls k a0_1 2 t164 _ A13.out).mono ?_
                        rintro e w28 ⟨rfl, hb⟩
                        refine ⟨_, rfl, ?_⟩
                        have n0_ := Aside0.mk (blk_below (g := gb159) (o := .cells #[.int .i64 a0_0, .int .i64 a0_1, .int .i64 a0_2, .int .i64 a0_3, .int .i64 a0_4] 26 (0, 0)) (by (with_reducible repeat (first | refine blk_drewN ?_ _ | refine blk_drew ?_ | refine blk_alloc ?_ _)); exact BK159.out) hb)
                        have n1_ := Aside0.mk (below_step (by repeat (first | (with_reducible first | exact HB.out | apply below_alloc | apply pw_below_drewN | apply below_drew1 | refine below_set ?_ GE159.out) | exact HB.out)) hb)
                        clear BK159
                        clear HB
                        have BK159 := n0_
                        have HB := n1_
                        clear n0_ n1_
                        (try clear hb)
                        (try clear hb2)
                        (try clear hk)
                        (try clear hi)
                        refine hK.out _ _ ⟨(blk_cell BK159.out 0).trans rfl, (blk_cell BK159.out 1).trans rfl, (blk_cell BK159.out 2).trans rfl, (blk_cell BK159.out 3).trans rfl, (blk_cell BK159.out 4).trans rfl⟩ (fun hHeld => ?_)
                        clear hK K
                        refine norm_ (a' := ?_) ?_ ?_
                        rotate_left
                        · show Act.put _ (some 39) _ = _
                          simp only [Act.put, List.setIfInBounds_toArray, List.set_cons_zero, List.set_cons_succ, i64_w, i32_w]
                          rfl
                        refine pure_ (i := 13) (N := some 40) (v := ?_) (a' := ?_) #[true, true, true, true, true, true, true, true, true, true, true, true, true, true, false, true, true, true, false, false, false, true, true, false, false, false] rfl rfl (any_of HT_.out (by kernel_rfl)) (fun _ _ _ h => h) (Or.inl ⟨by rfl, ?_⟩) ?_ ?_
                        rotate_left
                        · intro w'
                          go_simp
                          with_reducible rfl
                        rotate_left
                        · simp only [Act.put, List.setIfInBounds_toArray, List.set_cons_zero, List.set_cons_succ, i64_w, i32_w]
                          rfl
                        refine pure_ (i := 14) (N := some 41) (v := ?_) (a' := ?_) #[true, true, true, true, true, true, true, true, true, true, true, true, true, true, true, true, true, true, false, false, false, true, true, false, false, false] rfl rfl (any_of HT_.out (by kernel_rfl)) (fun _ _ _ h => h) (Or.inl ⟨by rfl, ?_⟩) ?_ ?_
                        rotate_left
                        · intro w'
                          go_simp
                          with_reducible rfl
                        rotate_left
                        · simp only [Act.put, List.setIfInBounds_toArray, List.set_cons_zero, List.set_cons_succ, i64_w, i32_w]
                          rfl
                        refine one_ (i := 18) (N := some 45) #[true, true, true, true, true, true, true, true, true, true, true, true, true, true, true, true, true, true, true, false, false, true, true, false, false, false] rfl rfl (one_of HT_.out (by kernel_rfl)) (by decide) (fun K hK => ?_)
                        refine goes_ Tryd.func53 (by kernel_rfl) rfl #[.int .i64 a0_0, .int .i64 4] (by rfl) rfl rfl (by (try simp only [List.map_toArray, List.map_cons, List.map_nil]); first | done | rfl | (simp only [List.length_drop, List.length_take]; rfl)) ?_
                        with_reducible refine (spec_digits.calls k a0_0 4 t165 _ A16.out).mono ?_
                        rintro e w29 ⟨rfl, hb⟩
                        refine ⟨_, rfl, ?_⟩
                        have n0_ := Aside0.mk (blk_below (g := gb159) (o := .cells #[.int .i64 a0_0, .int .i64 a0_1, .int .i64 a0_2, .int .i64 a0_3, .int .i64 a0_4] 26 (0, 0)) (by (with_reducible repeat (first | refine blk_drewN ?_ _ | refine blk_drew ?_ | refine blk_alloc ?_ _)); exact BK159.out) hb)
                        have n1_ := Aside0.mk (below_step (by repeat (first | (with_reducible first | exact HB.out | apply below_alloc | apply pw_below_drewN | apply below_drew1 | refine below_set ?_ GE159.out) | exact HB.out)) hb)
                        clear BK159
                        clear HB
                        have BK159 := n0_
                        have HB := n1_
                        clear n0_ n1_
                        (try clear hb)
                        (try clear hb2)
                        (try clear hk)
                        (try clear hi)
                        refine hK.out _ _ ⟨(blk_cell BK159.out 0).trans rfl, (blk_cell BK159.out 1).trans rfl, (blk_cell BK159.out 2).trans rfl, (blk_cell BK159.out 3).trans rfl, (blk_cell BK159.out 4).trans rfl⟩ (fun hHeld => ?_)
                        clear hK K
                        refine norm_ (a' := ?_) ?_ ?_
                        rotate_left
                        · show Act.put _ (some 45) _ = _
                          simp only [Act.put, List.setIfInBounds_toArray, List.set_cons_zero, List.set_cons_succ, i64_w, i32_w]
                          rfl
                        refine pure_ (i := 19) (N := some 46) (v := ?_) (a' := ?_) #[true, true, true, true, true, true, true, true, true, true, true, true, true, true, true, true, true, true, true, true, false, true, true, false, false, false] rfl rfl (any_of HT_.out (by kernel_rfl)) (fun _ _ _ h => h) (Or.inl ⟨by rfl, ?_⟩) ?_ ?_
                        rotate_left
                        · intro w'
                          go_simp
                          with_reducible rfl
                        rotate_left
                        · simp only [Act.put, List.setIfInBounds_toArray, List.set_cons_zero, List.set_cons_succ, i64_w, i32_w]
                          rfl
                        refine pure_ (i := 20) (N := some 47) (v := ?_) (a' := ?_) #[true, true, true, true, true, true, true, true, true, true, true, true, true, true, true, true, true, true, true, true, true, true, true, false, false, false] rfl rfl (any_of HT_.out (by kernel_rfl)) (fun _ _ _ h => h) (Or.inl ⟨by rfl, ?_⟩) ?_ ?_
                        rotate_left
                        · intro w'
                          go_simp
                          with_reducible rfl
                        rotate_left
                        · simp only [Act.put, List.setIfInBounds_toArray, List.set_cons_zero, List.set_cons_succ, i64_w, i32_w]
                          rfl
                        refine one_ (i := 23) (N := some 50) #[true, true, true, true, true, true, true, true, true, true, true, true, true, true, true, true, true, true, true, true, true, true, true, true, false, false] rfl rfl (one_of HT_.out (by kernel_rfl)) (by decide) (fun K hK => ?_)
                        refine goes_ Tryd.func54 (by kernel_rfl) rfl #[.int .i64 a0_4] (by rfl) rfl rfl (by (try simp only [List.map_toArray, List.map_cons, List.map_nil]); first | done | rfl | (simp only [List.length_drop, List.length_take]; rfl)) ?_
                        with_reducible refine (spec_decimal.calls k a0_4 t166 _ A19.out).mono ?_
                        rintro e w30 ⟨rfl, hb⟩
                        refine ⟨_, rfl, ?_⟩
                        have n0_ := Aside0.mk (blk_below (g := gb159) (o := .cells #[.int .i64 a0_0, .int .i64 a0_1, .int .i64 a0_2, .int .i64 a0_3, .int .i64 a0_4] 26 (0, 0)) (by (with_reducible repeat (first | refine blk_drewN ?_ _ | refine blk_drew ?_ | refine blk_alloc ?_ _)); exact BK159.out) hb)
                        have n1_ := Aside0.mk (below_step (by repeat (first | (with_reducible first | exact HB.out | apply below_alloc | apply pw_below_drewN | apply below_drew1 | refine below_set ?_ GE159.out) | exact HB.out)) hb)
                        clear BK159
                        clear HB
                        have BK159 := n0_
                        have HB := n1_
                        clear n0_ n1_
                        (try clear hb)
                        (try clear hb2)
                        (try clear hk)
                        (try clear hi)
                        refine hK.out _ _ ⟨(blk_cell BK159.out 0).trans rfl, (blk_cell BK159.out 1).trans rfl, (blk_cell BK159.out 2).trans rfl, (blk_cell BK159.out 3).trans rfl, (blk_cell BK159.out 4).trans rfl⟩ (fun hHeld => ?_)
                        clear hK K
                        refine norm_ (a' := ?_) ?_ ?_
                        rotate_left
                        · show Act.put _ (some 50) _ = _
                          simp only [Act.put, List.setIfInBounds_toArray, List.set_cons_zero, List.set_cons_succ, i64_w, i32_w]
                          rfl
                        refine pure_ (i := 24) (N := some 51) (v := ?_) (a' := ?_) #[true, true, true, true, true, true, true, true, true, true, true, true, true, true, true, true, true, true, true, true, true, true, true, true, true, false] rfl rfl (any_of HT_.out (by kernel_rfl)) (fun _ _ _ h => h) (Or.inl ⟨by rfl, ?_⟩) ?_ ?_
                        rotate_left
                        · intro w'
                          go_simp
                          with_reducible rfl
                        rotate_left
                        · simp only [Act.put, List.setIfInBounds_toArray, List.set_cons_zero, List.set_cons_succ, i64_w, i32_w]
                          rfl
                        refine pure_ (i := 25) (N := some 2) (v := ?_) (a' := ?_) #[true, true, true, true, true, true, true, true, true, true, true, true, true, true, true, true, true, true, true, true, true, true, true, true, true, true] rfl rfl (any_of HT_.out (by kernel_rfl)) (fun _ _ _ h => h) (Or.inl ⟨by rfl, ?_⟩) ?_ ?_
                        rotate_left
                        · intro w'
                          go_simp
                          with_reducible rfl
                        rotate_left
                        · simp only [Act.put, List.setIfInBounds_toArray, List.set_cons_zero, List.set_cons_succ, i64_w, i32_w]
                          rfl
                        refine done_ (done_of HT_.out (by kernel_rfl)) ?_
                        try go_wp2
                        go_ret
                        exact ⟨by first | rfl | (simp [errW_none, errW_some] <;> rfl) | (simp only [← hji2]; first | rfl | (simp [errW_none, errW_some] <;> rfl)) | (simp [*, errW_none, errW_some] <;> rfl), by repeat (first | (with_reducible first | exact HB.out | apply below_alloc | apply pw_below_drewN | apply below_drew1 | refine below_set ?_ GE159.out) | exact HB.out)⟩
                      · rw [if_neg c20] at H
                        exact absurd H (by simp)
                    · rw [if_neg c18] at H
                      exact absurd H (by simp)
                  · rw [if_neg c17] at H
                    exact absurd H (by simp)
                · rw [if_neg c15] at H
                  exact absurd H (by simp)
              · rw [if_neg c14] at H
                exact absurd H (by simp)
            · rw [if_neg c12] at H
              exact absurd H (by simp)
          · rw [if_neg c11] at H
            exact absurd H (by simp)
        · rw [if_neg c9] at H
          exact absurd H (by simp)
      · rw [if_neg c8] at H
        exact absurd H (by simp)
    · rw [if_neg c7] at H
      exact absurd H (by simp)
  · rw [if_neg c5] at H
    exact absurd H (by simp)

end Go.Proofs.YtdggcfpimjdckaaDoor.PFnFixCanonical
