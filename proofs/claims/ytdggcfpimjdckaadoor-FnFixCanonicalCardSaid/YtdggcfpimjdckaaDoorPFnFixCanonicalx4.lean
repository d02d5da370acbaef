-- Out of a print of the walks, turned by a program of this session; Lean checks it.
import Derived.Test.YtdggcfpimjdckaaDoorPFnFixCanonicalx0
import Derived.Test.YtdggcfpimjdckaaDoorPFnFixCanonicalx3
namespace Go.Proofs.YtdggcfpimjdckaaDoor.PFnFixCanonical
open Go.RowKit Go.Proofs.YtdggcfpimjdckaaDoorW.PrintWords Go.Proofs.YtdggcfpimjdckaaDoorW.PrintLast Go.Proofs.YtdggcfpimjdckaaDoorW.PrintMore
attribute [local go_sem] max2_int min2_int max_two min_two max_three min_three max_four min_four   -- for this text's walks alone
set_option linter.unusedVariables false
set_option linter.unusedSimpArgs false

/-! ### impl_ReadFrame: function 17 -/
def impl_ReadFrame.f (k : Nat) (a0 : ByteArray) : Option (ByteArray × Bool) := if (a0.size : Int) < 4 then (some ((⟨#[]⟩ : ByteArray), false)) else (if 1 ≤ (wrap64 ((a0.size : Int) - 3)) then (if (wrap64 ((a0.size : Int) - 3)) ≤ (a0.size : Int) then ((impl_FrameBody.f k (a0.extract 1 ((wrap64 ((a0.size : Int) - 3)) : Int).toNat)).bind fun t128 => (if a0.toList = t128.toList then (some (a0.extract 1 ((wrap64 ((a0.size : Int) - 3)) : Int).toNat, true)) else (some ((⟨#[]⟩ : ByteArray), false)))) else (none)) else (none))
theorem impl_ReadFrame.mono : ∀ a0 k, LeO (impl_ReadFrame.f k a0) (impl_ReadFrame.f (k + 1) a0) := by
  intro a0 k
  unfold impl_ReadFrame.f
  repeat' first
      | (with_reducible exact impl_FrameBody.mono _ _)
      | (with_reducible exact LeO.refl _)
      | (with_reducible exact LeO.none _)
      | (with_reducible refine LeO.ite ?_ ?_)
      | (with_reducible refine LeO.bind ?_ (fun _ => ?_))
      | exact impl_FrameBody.mono _ _
      | exact LeO.none _
      | refine LeO.ite ?_ ?_
      | refine LeO.bind ?_ (fun _ => ?_)
set_option maxHeartbeats 8000000 in
set_option maxRecDepth 100000 in
theorem impl_ReadFrame.calls (k : Nat) (a0 : ByteArray) (r1 : ByteArray) (r2 : Bool) (w : World) (h : impl_ReadFrame.f k a0 = some (r1, r2)) :
    Calls Tryd.prog 17 #[.string a0] w fun e w' => e = .returned (.tuple #[.string r1, .bool r2]) ∧ Drawn0 w w' := by
  have H : (if (a0.size : Int) < 4 then (some ((⟨#[]⟩ : ByteArray), false)) else (if 1 ≤ (wrap64 ((a0.size : Int) - 3)) then (if (wrap64 ((a0.size : Int) - 3)) ≤ (a0.size : Int) then ((impl_FrameBody.f k (a0.extract 1 ((wrap64 ((a0.size : Int) - 3)) : Int).toNat)).bind fun t128 => (if a0.toList = t128.toList then (some (a0.extract 1 ((wrap64 ((a0.size : Int) - 3)) : Int).toNat, true)) else (some ((⟨#[]⟩ : ByteArray), false)))) else (none)) else (none))) = some (r1, r2) := h
  clear h
  by_cases c2 : (a0.size : Int) < 4
  · rw [if_pos c2] at H
    have c2b0 : decide ((a0.size : Int) < 4) = true := decide_eq_true c2
    have c2b1 : decide (a0.size < 4) = true := decide_eq_true (by omega)
    clear c2
    simp only [Option.some.injEq, Prod.mk.injEq] at H
    obtain ⟨rfl, rfl⟩ := H
    go_enter Tryd.func17, Tryd.ntmps17
    go_wp2
    go_ret2
    exact ⟨by first | rfl | (simp; done) | (simp [*]; done), by repeat (first | exact Drawn0.refl _ | apply Drawn0.step)⟩
  · rw [if_neg c2] at H
    have c2b0 : decide ((a0.size : Int) < 4) = false := decide_eq_false c2
    have c2b1 : decide (a0.size < 4) = false := decide_eq_false (by omega)
    clear c2
    by_cases c3 : 1 ≤ (wrap64 ((a0.size : Int) - 3))
    · rw [if_pos c3] at H
      have c3b0 := eq_true c3
      have c3b1 : decide (1 ≤ (wrap64 ((a0.size : Int) - 3))) = true := decide_eq_true c3
      clear c3
      by_cases c4 : (wrap64 ((a0.size : Int) - 3)) ≤ (a0.size : Int)
      · rw [if_pos c4] at H
        have c4b0 := eq_true c4
        have c4b1 : decide ((wrap64 ((a0.size : Int) - 3)) ≤ (a0.size : Int)) = true := decide_eq_true c4
        clear c4
        replace H := Option.bind_eq_some_iff.mp H
        obtain ⟨t128, A50, H⟩ := H
        replace H : (if a0.toList = t128.toList then (some (a0.extract 1 ((wrap64 ((a0.size : Int) - 3)) : Int).toNat, true)) else (some ((⟨#[]⟩ : ByteArray), false))) = some (r1, r2) := H
        have A5 := Aside0.mk A50
        clear A50
        by_cases c6 : a0.toList = t128.toList
        · rw [if_pos c6] at H
          have c6b0 : (a0.toList == t128.toList) = true := beq_iff_eq.mpr c6
          have c6b1 : (a0.toList != t128.toList) = false := bne_eq_false_iff_eq.mpr c6
          clear c6
          have c7b0 := eq_true (of_decide_eq_true (by first | (with_reducible assumption) | assumption) : 1 ≤ (wrap64 ((a0.size : Int) - 3)))
          have c8b0 := eq_true (of_decide_eq_true (by first | (with_reducible assumption) | assumption) : (wrap64 ((a0.size : Int) - 3)) ≤ (a0.size : Int))
          simp only [Option.some.injEq, Prod.mk.injEq] at H
          obtain ⟨rfl, rfl⟩ := H
          go_enter Tryd.func17, Tryd.ntmps17
          go_wp2_with (first | (go_at_call 29; (with_reducible refine (impl_FrameBody.calls k (a0.extract 1 ((wrap64 ((a0.size : Int) - 3)) : Int).toNat) t128 _ A5.out).mono ?_); rintro e w' ⟨rfl, ⟨nd, rfl⟩⟩))
          go_ret2
          exact ⟨by first | rfl | (simp; done) | (simp [*]; done), by repeat (first | exact Drawn0.refl _ | apply Drawn0.step)⟩
        · rw [if_neg c6] at H
          have c6b0 : (a0.toList == t128.toList) = false := beq_eq_false_iff_ne.mpr c6
          have c6b1 : (a0.toList != t128.toList) = true := bne_iff_ne.mpr c6
          simp only [Option.some.injEq, Prod.mk.injEq] at H
          obtain ⟨rfl, rfl⟩ := H
          go_enter Tryd.func17, Tryd.ntmps17
          go_wp2_with (first | (go_at_call 29; (with_reducible refine (impl_FrameBody.calls k (a0.extract 1 ((wrap64 ((a0.size : Int) - 3)) : Int).toNat) t128 _ A5.out).mono ?_); rintro e w' ⟨rfl, ⟨nd, rfl⟩⟩))
          go_ret2
          exact ⟨by first | rfl | (simp; done) | (simp [*]; done), by repeat (first | exact Drawn0.refl _ | apply Drawn0.step)⟩
      · rw [if_neg c4] at H
        exact absurd H (by simp)
    · rw [if_neg c3] at H
      exact absurd H (by simp)

/-! ### impl_ParseFix: function 20 -/
def impl_ParseFix.z : Option (Int × Int × Int × Int × Int × Bool) := some (0, 0, 0, 0, 0, false)
/-- The second of the day that six digits spell. -/
def secOf (n : Int) : Int := wrap64 ((wrap64 ((wrap64 ((wrap64 (Int.tdiv n 10000)) * 3600)) + (wrap64 ((Int.tmod (wrap64 (Int.tdiv n 100)) 100) * 60)))) + (Int.tmod n 100))
def impl_ParseFix.g (k : Nat) (a0 : ByteArray) (n0 n1 n2 n3 n4 : Int) : Option (Int × Int × Int × Int × Int × Bool) := (impl_FormatFix.f k n3 n2 n1 (secOf n0) n4).bind fun t => (if t.toList = a0.toList then (some (n3, n2, n1, secOf n0, n4, true)) else impl_ParseFix.z)
def impl_ParseFix.w (k : Nat) (a0 : ByteArray) (ws : List ByteArray) : Option (Int × Int × Int × Int × Int × Bool) := match ws with
  | [_, s1, s2, s3, s4, s5] => (match atoiN s1, atoiN s2, atoiN s3, atoiN s4, atoiN s5 with
    | some n0, some n1, some n2, some n3, some n4 => impl_ParseFix.g k a0 n0 n1 n2 n3 n4
    | _, _, _, _, _ => impl_ParseFix.z)
  | _ => impl_ParseFix.z
def impl_ParseFix.f (k : Nat) (a0 : ByteArray) : Option (Int × Int × Int × Int × Int × Bool) := (impl_ReadFrame.f k a0).bind fun bt => (if bt.1.size < 4294967281 ∧ ∀ x ∈ wordsOf bt.1 (⟨#[44]⟩ : ByteArray), x.size ≤ 281474976710656 then (if bt.2 = true then impl_ParseFix.w k a0 (wordsOf bt.1 (⟨#[44]⟩ : ByteArray)) else impl_ParseFix.z) else none)
/-- What the walk knows of its world: the result's block, the words' row, the numbers' array, and that nothing below has turned. -/
def impl_ParseFix.St (w W : World) (gf gw gn : Nat) (cw cn : Array Value) : Prop := W.heap[gf]? = some (.cells #[.int .i64 0, .int .i64 0, .int .i64 0, .int .i64 0, .int .i64 0] 26 (0, 0)) ∧ W.heap[gw]? = some (.cells cw 9 (0, 0)) ∧ W.heap[gn]? = some (.cells cn 57 (0, 0)) ∧ Below w.heap.size w W
theorem impl_ParseFix.St.put {w W : World} {gf gw gn : Nat} {cw cn cn' : Array Value} (h : impl_ParseFix.St w W gf gw gn cw cn) (hg : w.heap.size ≤ gn) (i : Nat) (v : Value) (e : cn.setIfInBounds i v = cn') : impl_ParseFix.St w (W.setCell ⟨gn, i, none⟩ v) gf gw gn cw cn' :=
  ⟨blk_far h.1 (p := ⟨gn, i, none⟩) (blk_ne h.1 h.2.2.1 (by decide)) v, blk_far h.2.1 (p := ⟨gn, i, none⟩) (blk_ne h.2.1 h.2.2.1 (by decide)) v, blk_put h.2.2.1 i v e, below_set h.2.2.2 hg⟩
theorem impl_ParseFix.St.below {w W W' : World} {gf gw gn : Nat} {cw cn : Array Value} (h : impl_ParseFix.St w W gf gw gn cw cn) (hb : Below W.heap.size W W') : impl_ParseFix.St w W' gf gw gn cw cn :=
  ⟨blk_below h.1 hb, blk_below h.2.1 hb, blk_below h.2.2.1 hb, below_step h.2.2.2 hb⟩
set_option maxHeartbeats 8000000 in
set_option maxRecDepth 100000 in
theorem impl_ParseFix.calls (k : Nat) (a0 : ByteArray) (r1 : Int) (r2 : Int) (r3 : Int) (r4 : Int) (r5 : Int) (r6 : Bool) (w : World) (htb_ : Tc w) (h : impl_ParseFix.f k a0 = some (r1, r2, r3, r4, r5, r6)) :
    Calls Tryd.prog 20 #[.string a0] w fun e w' => e = .returned (.tuple #[.agg #[.int .i64 r1, .int .i64 r2, .int .i64 r3, .int .i64 r4, .int .i64 r5], .bool r6]) ∧ Below w.heap.size w w' := by
  have hu26 := Tryd.underlying26
  have hu24 := Tryd.underlying24
  have HB := Aside0.mk (Below.refl w.heap.size w)
  have HTB := Aside0.mk htb_
  clear htb_
  obtain ⟨⟨bd, ok⟩, hA1, h⟩ := Option.bind_eq_some_iff.mp h
  have A1 := Aside0.mk hA1
  clear hA1
  by_cases hsz : bd.size < 4294967281 ∧ ∀ x ∈ wordsOf bd (⟨#[44]⟩ : ByteArray), x.size ≤ 281474976710656
  rotate_left
  · rw [if_neg hsz] at h; cases h
  rw [if_pos hsz] at h
  obtain ⟨hs1, hs2⟩ := hsz
  have HSP := Aside0.mk (fun (W : World) (hT : Tc W) => split_calls bd (⟨#[44]⟩ : ByteArray) W hT hs1 (by decide))
  generalize wordsOf bd (⟨#[44]⟩ : ByteArray) = ws at h hs2 HSP
  go_enter Tryd.func20, Tryd.ntmps20
  go_upto_region 3 with (first | ((with_reducible refine gate_dst (N := 2) rfl ?_); (try (refine gate_guard (by rfl) ?_; dsimp only)); refine box_event ?hg2 (N := 2) ?hd2 (cs := #[.int .i64 0, .int .i64 0, .int .i64 0, .int .i64 0, .int .i64 0]) (t := 26) ?hr2 ?_; (case hd2 => rfl); (case hg2 => rfl); (case hr2 => first | (go_simp; done) | (go_simp; rfl)); intro gf hg wb2 hbox hb; have n0_ := Aside0.mk (below_step (by repeat (first | (with_reducible first | exact HB.out | apply below_alloc | apply pw_below_drewN | apply below_drew1) | exact HB.out)) hb); have n1_ := Aside0.mk (hbox); have n2_ := Aside0.mk ((by rw [hg]; exact (below_size (by repeat (first | (with_reducible first | exact HB.out | apply below_alloc | apply pw_below_drewN | apply below_drew1) | exact HB.out))) : w.heap.size ≤ gf)); clear HB; have HB := n0_; have BK1 := n1_; have GE1 := n2_; clear n0_ n1_ n2_; clear hb hbox hg; have hc2_0 : wb2.cell? ⟨gf, 0, none⟩ = some (.int .i64 0) := (blk_cell BK1.out 0).trans rfl; have hf2_0 := blk_frozen BK1.out 0; have hc2_1 : wb2.cell? ⟨gf, 1, none⟩ = some (.int .i64 0) := (blk_cell BK1.out 1).trans rfl; have hf2_1 := blk_frozen BK1.out 1; have hc2_2 : wb2.cell? ⟨gf, 2, none⟩ = some (.int .i64 0) := (blk_cell BK1.out 2).trans rfl; have hf2_2 := blk_frozen BK1.out 2; have hc2_3 : wb2.cell? ⟨gf, 3, none⟩ = some (.int .i64 0) := (blk_cell BK1.out 3).trans rfl; have hf2_3 := blk_frozen BK1.out 3; have hc2_4 : wb2.cell? ⟨gf, 4, none⟩ = some (.int .i64 0) := (blk_cell BK1.out 4).trans rfl; have hf2_4 := blk_frozen BK1.out 4) | (go_at_call 17; (with_reducible refine (impl_ReadFrame.calls k a0 bd ok _ A1.out).mono ?_); rintro e w' ⟨rfl, ⟨nd, rfl⟩⟩) | (go_at_call 36; (with_reducible refine (HSP.out _ (Tc.keep HTB.out (by repeat (first | (with_reducible first | exact HB.out | apply below_alloc | apply pw_below_drewN | apply below_drew1 | refine below_set ?_ GE1.out) | exact HB.out)))).mono ?_); rintro e ws_ ⟨gw, rfl, hgw, hgs, hb⟩; have n0_ := Aside0.mk (below_step (by repeat (first | (with_reducible first | exact HB.out | apply below_alloc | apply pw_below_drewN | apply below_drew1 | refine below_set ?_ GE1.out) | exact HB.out)) hb); have n1_ := Aside0.mk (blk_below (by (with_reducible repeat (first | refine blk_drewN ?_ _ | refine blk_drew ?_ | refine blk_alloc ?_ _)); exact BK1.out) hb); have n2_ := Aside0.mk hgw; clear HB BK1 hb hgw hgs; have HB := n0_; have BK1 := n1_; have BKW := n2_; clear n0_ n1_ n2_))
  by_cases hok : ok = true
  rotate_left
  · rw [if_neg hok] at h
    obtain rfl : ok = false := Bool.eq_false_iff.2 hok
    unfold impl_ParseFix.z at h
    simp only [Option.some.injEq, Prod.mk.injEq] at h
    obtain ⟨rfl, rfl, rfl, rfl, rfl, rfl⟩ := h
    have zc0 : ws_.cell? ⟨gf, 0, none⟩ = some (.int .i64 0) := (blk_cell BK1.out 0).trans rfl
    have zc1 : ws_.cell? ⟨gf, 1, none⟩ = some (.int .i64 0) := (blk_cell BK1.out 1).trans rfl
    have zc2 : ws_.cell? ⟨gf, 2, none⟩ = some (.int .i64 0) := (blk_cell BK1.out 2).trans rfl
    have zc3 : ws_.cell? ⟨gf, 3, none⟩ = some (.int .i64 0) := (blk_cell BK1.out 3).trans rfl
    have zc4 : ws_.cell? ⟨gf, 4, none⟩ = some (.int .i64 0) := (blk_cell BK1.out 4).trans rfl
    have zf0 := blk_frozen BK1.out 0
    have zf1 := blk_frozen BK1.out 1
    have zf2 := blk_frozen BK1.out 2
    have zf3 := blk_frozen BK1.out 3
    have zf4 := blk_frozen BK1.out 4
    go_wp2
    refine bodyPost_ret (results_ct rfl _ _ gf 26 #[.int .i64 0, .int .i64 0, .int .i64 0, .int .i64 0, .int .i64 0] (0, 0) _ rfl (by (with_reducible repeat (first | refine blk_drewN ?_ _ | refine blk_drew ?_ | refine blk_alloc ?_ _)); refine blk_put (cs := #[.int .i64 0, .int .i64 0, .int .i64 0, .int .i64 0, .int .i64 0]) ?_ 4 _ rfl; (with_reducible repeat (first | refine blk_drewN ?_ _ | refine blk_drew ?_ | refine blk_alloc ?_ _)); refine blk_put (cs := #[.int .i64 0, .int .i64 0, .int .i64 0, .int .i64 0, .int .i64 0]) ?_ 3 _ rfl; (with_reducible repeat (first | refine blk_drewN ?_ _ | refine blk_drew ?_ | refine blk_alloc ?_ _)); refine blk_put (cs := #[.int .i64 0, .int .i64 0, .int .i64 0, .int .i64 0, .int .i64 0]) ?_ 2 _ rfl; (with_reducible repeat (first | refine blk_drewN ?_ _ | refine blk_drew ?_ | refine blk_alloc ?_ _)); refine blk_put (cs := #[.int .i64 0, .int .i64 0, .int .i64 0, .int .i64 0, .int .i64 0]) ?_ 1 _ rfl; (with_reducible repeat (first | refine blk_drewN ?_ _ | refine blk_drew ?_ | refine blk_alloc ?_ _)); refine blk_put (cs := #[.int .i64 0, .int .i64 0, .int .i64 0, .int .i64 0, .int .i64 0]) ?_ 0 _ rfl; (with_reducible repeat (first | refine blk_drewN ?_ _ | refine blk_drew ?_ | refine blk_alloc ?_ _)); exact BK1.out) Tryd.underlying26 rfl (by kernel_rfl)) rfl ?_
    exact ⟨by first | rfl | (simp [errW_none, errW_some] <;> rfl) | (simp [*, errW_none, errW_some] <;> rfl), by repeat (first | (with_reducible first | exact HB.out | apply below_alloc | apply pw_below_drewN | apply below_drew1 | refine below_set ?_ GE1.out) | exact HB.out)⟩
  subst hok
  rw [if_pos rfl] at h
  by_cases hlen : ws.length = 6
  rotate_left
  · have hw : impl_ParseFix.w k a0 ws = impl_ParseFix.z := by
      unfold impl_ParseFix.w
      split
      · simp at hlen
      · rfl
    rw [hw] at h
    have hlb : ((ws.length : Int) == 6) = false := beq_eq_false_iff_ne.2 (by omega)
    have hlc : ((ws.length : Int) != 6) = true := by rw [bne, hlb]; rfl
    have hld : ¬ ((ws.length : Int) = 6) := by omega
    have hle : ¬ (ws.length = 6) := hlen
    unfold impl_ParseFix.z at h
    simp only [Option.some.injEq, Prod.mk.injEq] at h
    obtain ⟨rfl, rfl, rfl, rfl, rfl, rfl⟩ := h
    have zc0 : ws_.cell? ⟨gf, 0, none⟩ = some (.int .i64 0) := (blk_cell BK1.out 0).trans rfl
    have zc1 : ws_.cell? ⟨gf, 1, none⟩ = some (.int .i64 0) := (blk_cell BK1.out 1).trans rfl
    have zc2 : ws_.cell? ⟨gf, 2, none⟩ = some (.int .i64 0) := (blk_cell BK1.out 2).trans rfl
    have zc3 : ws_.cell? ⟨gf, 3, none⟩ = some (.int .i64 0) := (blk_cell BK1.out 3).trans rfl
    have zc4 : ws_.cell? ⟨gf, 4, none⟩ = some (.int .i64 0) := (blk_cell BK1.out 4).trans rfl
    have zf0 := blk_frozen BK1.out 0
    have zf1 := blk_frozen BK1.out 1
    have zf2 := blk_frozen BK1.out 2
    have zf3 := blk_frozen BK1.out 3
    have zf4 := blk_frozen BK1.out 4
    go_wp2
    refine bodyPost_ret (results_ct rfl _ _ gf 26 #[.int .i64 0, .int .i64 0, .int .i64 0, .int .i64 0, .int .i64 0] (0, 0) _ rfl (by (with_reducible repeat (first | refine blk_drewN ?_ _ | refine blk_drew ?_ | refine blk_alloc ?_ _)); refine blk_put (cs := #[.int .i64 0, .int .i64 0, .int .i64 0, .int .i64 0, .int .i64 0]) ?_ 4 _ rfl; (with_reducible repeat (first | refine blk_drewN ?_ _ | refine blk_drew ?_ | refine blk_alloc ?_ _)); refine blk_put (cs := #[.int .i64 0, .int .i64 0, .int .i64 0, .int .i64 0, .int .i64 0]) ?_ 3 _ rfl; (with_reducible repeat (first | refine blk_drewN ?_ _ | refine blk_drew ?_ | refine blk_alloc ?_ _)); refine blk_put (cs := #[.int .i64 0, .int .i64 0, .int .i64 0, .int .i64 0, .int .i64 0]) ?_ 2 _ rfl; (with_reducible repeat (first | refine blk_drewN ?_ _ | refine blk_drew ?_ | refine blk_alloc ?_ _)); refine blk_put (cs := #[.int .i64 0, .int .i64 0, .int .i64 0, .int .i64 0, .int .i64 0]) ?_ 1 _ rfl; (with_reducible repeat (first | refine blk_drewN ?_ _ | refine blk_drew ?_ | refine blk_alloc ?_ _)); refine blk_put (cs := #[.int .i64 0, .int .i64 0, .int .i64 0, .int .i64 0, .int .i64 0]) ?_ 0 _ rfl; (with_reducible repeat (first | refine blk_drewN ?_ _ | refine blk_drew ?_ | refine blk_alloc ?_ _)); exact BK1.out) Tryd.underlying26 rfl (by kernel_rfl)) rfl ?_
    exact ⟨by first | rfl | (simp [errW_none, errW_some] <;> rfl) | (simp [*, errW_none, errW_some] <;> rfl), by repeat (first | (with_reducible first | exact HB.out | apply below_alloc | apply pw_below_drewN | apply below_drew1 | refine below_set ?_ GE1.out) | exact HB.out)⟩
  obtain ⟨s0, s1, s2, s3, s4, s5, rfl⟩ : ∃ s0 s1 s2 s3 s4 s5, ws = [s0, s1, s2, s3, s4, s5] := by
    match ws, hlen with
    | [s0, s1, s2, s3, s4, s5], _ => exact ⟨s0, s1, s2, s3, s4, s5, rfl⟩
  have n0_ := Aside0.mk (show ws_.heap[gw]? = some (.cells #[.string s0, .string s1, .string s2, .string s3, .string s4, .string s5] 9 (0, 0)) from BKW.out)
  clear BKW hlen
  have BKW := n0_
  clear n0_
  go_wp2_with (first | ((with_reducible refine gate_dst (N := 7) rfl ?_); (try (refine gate_guard (by rfl) ?_; dsimp only)); refine box_event ?hg7 (N := 7) ?hd7 (cs := #[.int .i64 0, .int .i64 0, .int .i64 0, .int .i64 0, .int .i64 0]) (t := 57) ?hr7 ?_; (case hd7 => rfl); (case hg7 => rfl); (case hr7 => first | (go_simp; done) | (go_simp; rfl)); intro gn hg wb7 hbox hb; have n0_ := Aside0.mk (below_step (by repeat (first | (with_reducible first | exact HB.out | apply below_alloc | apply pw_below_drewN | apply below_drew1 | refine below_set ?_ GE1.out) | exact HB.out)) hb); have n1_ := Aside0.mk (hbox); have n2_ := Aside0.mk ((by rw [hg]; exact (below_size (by repeat (first | (with_reducible first | exact HB.out | apply below_alloc | apply pw_below_drewN | apply below_drew1 | refine below_set ?_ GE1.out) | exact HB.out))) : w.heap.size ≤ gn)); have n3_ := Aside0.mk (blk_below (by (with_reducible repeat (first | refine blk_drewN ?_ _ | refine blk_drew ?_ | refine blk_alloc ?_ _)); exact BK1.out) hb); have n4_ := Aside0.mk (blk_below (by (with_reducible repeat (first | refine blk_drewN ?_ _ | refine blk_drew ?_ | refine blk_alloc ?_ _)); exact BKW.out) hb); clear BK1 BKW; have BK1 := n3_; have BKW := n4_; clear n3_ n4_; clear HB; have HB := n0_; have BK2 := n1_; have GE2 := n2_; clear n0_ n1_ n2_; clear hb hbox hg; have hc7_0 : wb7.cell? ⟨gn, 0, none⟩ = some (.int .i64 0) := (blk_cell BK2.out 0).trans rfl; have hf7_0 := blk_frozen BK2.out 0; have hc7_1 : wb7.cell? ⟨gn, 1, none⟩ = some (.int .i64 0) := (blk_cell BK2.out 1).trans rfl; have hf7_1 := blk_frozen BK2.out 1; have hc7_2 : wb7.cell? ⟨gn, 2, none⟩ = some (.int .i64 0) := (blk_cell BK2.out 2).trans rfl; have hf7_2 := blk_frozen BK2.out 2; have hc7_3 : wb7.cell? ⟨gn, 3, none⟩ = some (.int .i64 0) := (blk_cell BK2.out 3).trans rfl; have hf7_3 := blk_frozen BK2.out 3; have hc7_4 : wb7.cell? ⟨gn, 4, none⟩ = some (.int .i64 0) := (blk_cell BK2.out 4).trans rfl; have hf7_4 := blk_frozen BK2.out 4))
  have ST := Aside0.mk (impl_ParseFix.St.put (impl_ParseFix.St.put (impl_ParseFix.St.put (impl_ParseFix.St.put (impl_ParseFix.St.put ((⟨BK1.out, BKW.out, BK2.out, HB.out⟩ : impl_ParseFix.St w wb7 gf gw gn #[.string s0, .string s1, .string s2, .string s3, .string s4, .string s5] #[.int .i64 0, .int .i64 0, .int .i64 0, .int .i64 0, .int .i64 0])) GE2.out 0 (.int .i64 0) (cn' := #[.int .i64 0, .int .i64 0, .int .i64 0, .int .i64 0, .int .i64 0]) rfl) GE2.out 1 (.int .i64 0) (cn' := #[.int .i64 0, .int .i64 0, .int .i64 0, .int .i64 0, .int .i64 0]) rfl) GE2.out 2 (.int .i64 0) (cn' := #[.int .i64 0, .int .i64 0, .int .i64 0, .int .i64 0, .int .i64 0]) rfl) GE2.out 3 (.int .i64 0) (cn' := #[.int .i64 0, .int .i64 0, .int .i64 0, .int .i64 0, .int .i64 0]) rfl) GE2.out 4 (.int .i64 0) (cn' := #[.int .i64 0, .int .i64 0, .int .i64 0, .int .i64 0, .int .i64 0]) rfl)
  generalize (((((wb7.setCell ⟨gn, 0, none⟩ (.int .i64 0)).setCell ⟨gn, 1, none⟩ (.int .i64 0)).setCell ⟨gn, 2, none⟩ (.int .i64 0)).setCell ⟨gn, 3, none⟩ (.int .i64 0)).setCell ⟨gn, 4, none⟩ (.int .i64 0)) = wl0 at ST ⊢
  clear BK1 BK2 BKW HB HSP hc7_0 hf7_0 hc2_0 hf2_0 hc7_1 hf7_1 hc2_1 hf2_1 hc7_2 hf7_2 hc2_2 hf2_2 hc7_3 hf7_3 hc2_3 hf2_3 hc7_4 hf7_4 hc2_4 hf2_4
  refine wp_loop_rounds 6 ?_
  rw [rounds_succ]
  have hw0 : wl0.cell? ⟨gw, 1, none⟩ = some (.string s1) := (blk_cell ST.out.2.1 1).trans rfl
  have hl0 : s1.size ≤ 281474976710656 := hs2 _ (by simp)
  cases hn0 : atoiN s1 with
  | none =>
    have hw : impl_ParseFix.w k a0 [s0, s1, s2, s3, s4, s5] = impl_ParseFix.z := by
      unfold impl_ParseFix.w
      simp only [hn0]
    rw [hw] at h
    unfold impl_ParseFix.z at h
    simp only [Option.some.injEq, Prod.mk.injEq] at h
    obtain ⟨rfl, rfl, rfl, rfl, rfl, rfl⟩ := h
    have HTJ := Aside0.mk (Tc.keep HTB.out ST.out.2.2.2)
    go_wp2_with (first | (go_at_call 37; (with_reducible refine (atoi_no s1 _ HTJ.out hl0 hn0).mono ?_); rintro e wa ⟨x_, N_, rfl, hb⟩; have n0_ := Aside0.mk (ST.out.below hb); clear ST hb; have ST := n0_; clear n0_; have BK1 := Aside0.mk ST.out.1; have HB := Aside0.mk ST.out.2.2.2; have zc0 : wa.cell? ⟨gf, 0, none⟩ = some (.int .i64 0) := (blk_cell BK1.out 0).trans rfl; have zf0 := blk_frozen BK1.out 0; have zc1 : wa.cell? ⟨gf, 1, none⟩ = some (.int .i64 0) := (blk_cell BK1.out 1).trans rfl; have zf1 := blk_frozen BK1.out 1; have zc2 : wa.cell? ⟨gf, 2, none⟩ = some (.int .i64 0) := (blk_cell BK1.out 2).trans rfl; have zf2 := blk_frozen BK1.out 2; have zc3 : wa.cell? ⟨gf, 3, none⟩ = some (.int .i64 0) := (blk_cell BK1.out 3).trans rfl; have zf3 := blk_frozen BK1.out 3; have zc4 : wa.cell? ⟨gf, 4, none⟩ = some (.int .i64 0) := (blk_cell BK1.out 4).trans rfl; have zf4 := blk_frozen BK1.out 4))
    (try simp only [Exit.inBlock, Exit.then])
    refine bodyPost_ret (results_ct rfl _ _ gf 26 #[.int .i64 0, .int .i64 0, .int .i64 0, .int .i64 0, .int .i64 0] (0, 0) _ rfl (by (with_reducible repeat (first | refine blk_drewN ?_ _ | refine blk_drew ?_ | refine blk_alloc ?_ _)); refine blk_put (cs := #[.int .i64 0, .int .i64 0, .int .i64 0, .int .i64 0, .int .i64 0]) ?_ 4 _ rfl; (with_reducible repeat (first | refine blk_drewN ?_ _ | refine blk_drew ?_ | refine blk_alloc ?_ _)); refine blk_put (cs := #[.int .i64 0, .int .i64 0, .int .i64 0, .int .i64 0, .int .i64 0]) ?_ 3 _ rfl; (with_reducible repeat (first | refine blk_drewN ?_ _ | refine blk_drew ?_ | refine blk_alloc ?_ _)); refine blk_put (cs := #[.int .i64 0, .int .i64 0, .int .i64 0, .int .i64 0, .int .i64 0]) ?_ 2 _ rfl; (with_reducible repeat (first | refine blk_drewN ?_ _ | refine blk_drew ?_ | refine blk_alloc ?_ _)); refine blk_put (cs := #[.int .i64 0, .int .i64 0, .int .i64 0, .int .i64 0, .int .i64 0]) ?_ 1 _ rfl; (with_reducible repeat (first | refine blk_drewN ?_ _ | refine blk_drew ?_ | refine blk_alloc ?_ _)); refine blk_put (cs := #[.int .i64 0, .int .i64 0, .int .i64 0, .int .i64 0, .int .i64 0]) ?_ 0 _ rfl; (with_reducible repeat (first | refine blk_drewN ?_ _ | refine blk_drew ?_ | refine blk_alloc ?_ _)); exact BK1.out) Tryd.underlying26 rfl (by kernel_rfl)) rfl ?_
    exact ⟨by first | rfl | (simp [errW_none, errW_some] <;> rfl) | (simp [*, errW_none, errW_some] <;> rfl), by repeat (first | (with_reducible first | exact HB.out | apply below_alloc | apply pw_below_drewN | apply below_drew1 | refine below_set ?_ GE1.out) | exact HB.out)⟩
  | some n0 =>
  go_wp2_with (first | (go_at_call 37; (with_reducible refine (atoi_ok s1 n0 _ hl0 hn0).mono ?_); rintro e wa0 ⟨rfl, hb⟩; have n0_ := Aside0.mk (ST.out.below hb); clear ST hb; have ST := n0_; clear n0_; have ac0 : wa0.cell? ⟨gn, 0, none⟩ = some (.int .i64 0) := (blk_cell ST.out.2.2.1 0).trans rfl; have af0 := blk_frozen ST.out.2.2.1 0))
  have n0_ := Aside0.mk (ST.out.put GE2.out 0 (.int .i64 n0) (cn' := #[.int .i64 n0, .int .i64 0, .int .i64 0, .int .i64 0, .int .i64 0]) rfl)
  clear ST ac0 af0 hw0
  have ST := n0_
  clear n0_
  generalize (wa0.setCell ⟨gn, 0, none⟩ (.int .i64 n0)) = wl1 at ST ⊢
  rw [rounds_succ]
  have hw1 : wl1.cell? ⟨gw, 2, none⟩ = some (.string s2) := (blk_cell ST.out.2.1 2).trans rfl
  have hl1 : s2.size ≤ 281474976710656 := hs2 _ (by simp)
  cases hn1 : atoiN s2 with
  | none =>
    have hw : impl_ParseFix.w k a0 [s0, s1, s2, s3, s4, s5] = impl_ParseFix.z := by
      unfold impl_ParseFix.w
      simp only [hn0, hn1]
    rw [hw] at h
    unfold impl_ParseFix.z at h
    simp only [Option.some.injEq, Prod.mk.injEq] at h
    obtain ⟨rfl, rfl, rfl, rfl, rfl, rfl⟩ := h
    have HTJ := Aside0.mk (Tc.keep HTB.out ST.out.2.2.2)
    go_wp2_with (first | (go_at_call 37; (with_reducible refine (atoi_no s2 _ HTJ.out hl1 hn1).mono ?_); rintro e wa ⟨x_, N_, rfl, hb⟩; have n0_ := Aside0.mk (ST.out.below hb); clear ST hb; have ST := n0_; clear n0_; have BK1 := Aside0.mk ST.out.1; have HB := Aside0.mk ST.out.2.2.2; have zc0 : wa.cell? ⟨gf, 0, none⟩ = some (.int .i64 0) := (blk_cell BK1.out 0).trans rfl; have zf0 := blk_frozen BK1.out 0; have zc1 : wa.cell? ⟨gf, 1, none⟩ = some (.int .i64 0) := (blk_cell BK1.out 1).trans rfl; have zf1 := blk_frozen BK1.out 1; have zc2 : wa.cell? ⟨gf, 2, none⟩ = some (.int .i64 0) := (blk_cell BK1.out 2).trans rfl; have zf2 := blk_frozen BK1.out 2; have zc3 : wa.cell? ⟨gf, 3, none⟩ = some (.int .i64 0) := (blk_cell BK1.out 3).trans rfl; have zf3 := blk_frozen BK1.out 3; have zc4 : wa.cell? ⟨gf, 4, none⟩ = some (.int .i64 0) := (blk_cell BK1.out 4).trans rfl; have zf4 := blk_frozen BK1.out 4))
    (try simp only [Exit.inBlock, Exit.then])
    refine bodyPost_ret (results_ct rfl _ _ gf 26 #[.int .i64 0, .int .i64 0, .int .i64 0, .int .i64 0, .int .i64 0] (0, 0) _ rfl (by (with_reducible repeat (first | refine blk_drewN ?_ _ | refine blk_drew ?_ | refine blk_alloc ?_ _)); refine blk_put (cs := #[.int .i64 0, .int .i64 0, .int .i64 0, .int .i64 0, .int .i64 0]) ?_ 4 _ rfl; (with_reducible repeat (first | refine blk_drewN ?_ _ | refine blk_drew ?_ | refine blk_alloc ?_ _)); refine blk_put (cs := #[.int .i64 0, .int .i64 0, .int .i64 0, .int .i64 0, .int .i64 0]) ?_ 3 _ rfl; (with_reducible repeat (first | refine blk_drewN ?_ _ | refine blk_drew ?_ | refine blk_alloc ?_ _)); refine blk_put (cs := #[.int .i64 0, .int .i64 0, .int .i64 0, .int .i64 0, .int .i64 0]) ?_ 2 _ rfl; (with_reducible repeat (first | refine blk_drewN ?_ _ | refine blk_drew ?_ | refine blk_alloc ?_ _)); refine blk_put (cs := #[.int .i64 0, .int .i64 0, .int .i64 0, .int .i64 0, .int .i64 0]) ?_ 1 _ rfl; (with_reducible repeat (first | refine blk_drewN ?_ _ | refine blk_drew ?_ | refine blk_alloc ?_ _)); refine blk_put (cs := #[.int .i64 0, .int .i64 0, .int .i64 0, .int .i64 0, .int .i64 0]) ?_ 0 _ rfl; (with_reducible repeat (first | refine blk_drewN ?_ _ | refine blk_drew ?_ | refine blk_alloc ?_ _)); exact BK1.out) Tryd.underlying26 rfl (by kernel_rfl)) rfl ?_
    exact ⟨by first | rfl | (simp [errW_none, errW_some] <;> rfl) | (simp [*, errW_none, errW_some] <;> rfl), by repeat (first | (with_reducible first | exact HB.out | apply below_alloc | apply pw_below_drewN | apply below_drew1 | refine below_set ?_ GE1.out) | exact HB.out)⟩
  | some n1 =>
  go_wp2_with (first | (go_at_call 37; (with_reducible refine (atoi_ok s2 n1 _ hl1 hn1).mono ?_); rintro e wa1 ⟨rfl, hb⟩; have n0_ := Aside0.mk (ST.out.below hb); clear ST hb; have ST := n0_; clear n0_; have ac1 : wa1.cell? ⟨gn, 1, none⟩ = some (.int .i64 0) := (blk_cell ST.out.2.2.1 1).trans rfl; have af1 := blk_frozen ST.out.2.2.1 1))
  have n0_ := Aside0.mk (ST.out.put GE2.out 1 (.int .i64 n1) (cn' := #[.int .i64 n0, .int .i64 n1, .int .i64 0, .int .i64 0, .int .i64 0]) rfl)
  clear ST ac1 af1 hw1
  have ST := n0_
  clear n0_
  generalize (wa1.setCell ⟨gn, 1, none⟩ (.int .i64 n1)) = wl2 at ST ⊢
  rw [rounds_succ]
  have hw2 : wl2.cell? ⟨gw, 3, none⟩ = some (.string s3) := (blk_cell ST.out.2.1 3).trans rfl
  have hl2 : s3.size ≤ 281474976710656 := hs2 _ (by simp)
  cases hn2 : atoiN s3 with
  | none =>
    have hw : impl_ParseFix.w k a0 [s0, s1, s2, s3, s4, s5] = impl_ParseFix.z := by
      unfold impl_ParseFix.w
      simp only [hn0, hn1, hn2]
    rw [hw] at h
    unfold impl_ParseFix.z at h
    simp only [Option.some.injEq, Prod.mk.injEq] at h
    obtain ⟨rfl, rfl, rfl, rfl, rfl, rfl⟩ := h
    have HTJ := Aside0.mk (Tc.keep HTB.out ST.out.2.2.2)
    go_wp2_with (first | (go_at_call 37; (with_reducible refine (atoi_no s3 _ HTJ.out hl2 hn2).mono ?_); rintro e wa ⟨x_, N_, rfl, hb⟩; have n0_ := Aside0.mk (ST.out.below hb); clear ST hb; have ST := n0_; clear n0_; have BK1 := Aside0.mk ST.out.1; have HB := Aside0.mk ST.out.2.2.2; have zc0 : wa.cell? ⟨gf, 0, none⟩ = some (.int .i64 0) := (blk_cell BK1.out 0).trans rfl; have zf0 := blk_frozen BK1.out 0; have zc1 : wa.cell? ⟨gf, 1, none⟩ = some (.int .i64 0) := (blk_cell BK1.out 1).trans rfl; have zf1 := blk_frozen BK1.out 1; have zc2 : wa.cell? ⟨gf, 2, none⟩ = some (.int .i64 0) := (blk_cell BK1.out 2).trans rfl; have zf2 := blk_frozen BK1.out 2; have zc3 : wa.cell? ⟨gf, 3, none⟩ = some (.int .i64 0) := (blk_cell BK1.out 3).trans rfl; have zf3 := blk_frozen BK1.out 3; have zc4 : wa.cell? ⟨gf, 4, none⟩ = some (.int .i64 0) := (blk_cell BK1.out 4).trans rfl; have zf4 := blk_frozen BK1.out 4))
    (try simp only [Exit.inBlock, Exit.then])
    refine bodyPost_ret (results_ct rfl _ _ gf 26 #[.int .i64 0, .int .i64 0, .int .i64 0, .int .i64 0, .int .i64 0] (0, 0) _ rfl (by (with_reducible repeat (first | refine blk_drewN ?_ _ | refine blk_drew ?_ | refine blk_alloc ?_ _)); refine blk_put (cs := #[.int .i64 0, .int .i64 0, .int .i64 0, .int .i64 0, .int .i64 0]) ?_ 4 _ rfl; (with_reducible repeat (first | refine blk_drewN ?_ _ | refine blk_drew ?_ | refine blk_alloc ?_ _)); refine blk_put (cs := #[.int .i64 0, .int .i64 0, .int .i64 0, .int .i64 0, .int .i64 0]) ?_ 3 _ rfl; (with_reducible repeat (first | refine blk_drewN ?_ _ | refine blk_drew ?_ | refine blk_alloc ?_ _)); refine blk_put (cs := #[.int .i64 0, .int .i64 0, .int .i64 0, .int .i64 0, .int .i64 0]) ?_ 2 _ rfl; (with_reducible repeat (first | refine blk_drewN ?_ _ | refine blk_drew ?_ | refine blk_alloc ?_ _)); refine blk_put (cs := #[.int .i64 0, .int .i64 0, .int .i64 0, .int .i64 0, .int .i64 0]) ?_ 1 _ rfl; (with_reducible repeat (first | refine blk_drewN ?_ _ | refine blk_drew ?_ | refine blk_alloc ?_ _)); refine blk_put (cs := #[.int .i64 0, .int .i64 0, .int .i64 0, .int .i64 0, .int .i64 0]) ?_ 0 _ rfl; (with_reducible repeat (first | refine blk_drewN ?_ _ | refine blk_drew ?_ | refine blk_alloc ?_ _)); exact BK1.out) Tryd.underlying26 rfl (by kernel_rfl)) rfl ?_
    exact ⟨by first | rfl | (simp [errW_none, errW_some] <;> rfl) | (simp [*, errW_none, errW_some] <;> rfl), by repeat (first | (with_reducible first | exact HB.out | apply below_alloc | apply pw_below_drewN | apply below_drew1 | refine below_set ?_ GE1.out) | exact HB.out)⟩
  | some n2 =>
  go_wp2_with (first | (go_at_call 37; (with_reducible refine (atoi_ok s3 n2 _ hl2 hn2).mono ?_); rintro e wa2 ⟨rfl, hb⟩; have n0_ := Aside0.mk (ST.out.below hb); clear ST hb; have ST := n0_; clear n0_; have ac2 : wa2.cell? ⟨gn, 2, none⟩ = some (.int .i64 0) := (blk_cell ST.out.2.2.1 2).trans rfl; have af2 := blk_frozen ST.out.2.2.1 2))
  have n0_ := Aside0.mk (ST.out.put GE2.out 2 (.int .i64 n2) (cn' := #[.int .i64 n0, .int .i64 n1, .int .i64 n2, .int .i64 0, .int .i64 0]) rfl)
  clear ST ac2 af2 hw2
  have ST := n0_
  clear n0_
  generalize (wa2.setCell ⟨gn, 2, none⟩ (.int .i64 n2)) = wl3 at ST ⊢
  rw [rounds_succ]
  have hw3 : wl3.cell? ⟨gw, 4, none⟩ = some (.string s4) := (blk_cell ST.out.2.1 4).trans rfl
  have hl3 : s4.size ≤ 281474976710656 := hs2 _ (by simp)
  cases hn3 : atoiN s4 with
  | none =>
    have hw : impl_ParseFix.w k a0 [s0, s1, s2, s3, s4, s5] = impl_ParseFix.z := by
      unfold impl_ParseFix.w
      simp only [hn0, hn1, hn2, hn3]
    rw [hw] at h
    unfold impl_ParseFix.z at h
    simp only [Option.some.injEq, Prod.mk.injEq] at h
    obtain ⟨rfl, rfl, rfl, rfl, rfl, rfl⟩ := h
    have HTJ := Aside0.mk (Tc.keep HTB.out ST.out.2.2.2)
    go_wp2_with (first | (go_at_call 37; (with_reducible refine (atoi_no s4 _ HTJ.out hl3 hn3).mono ?_); rintro e wa ⟨x_, N_, rfl, hb⟩; have n0_ := Aside0.mk (ST.out.below hb); clear ST hb; have ST := n0_; clear n0_; have BK1 := Aside0.mk ST.out.1; have HB := Aside0.mk ST.out.2.2.2; have zc0 : wa.cell? ⟨gf, 0, none⟩ = some (.int .i64 0) := (blk_cell BK1.out 0).trans rfl; have zf0 := blk_frozen BK1.out 0; have zc1 : wa.cell? ⟨gf, 1, none⟩ = some (.int .i64 0) := (blk_cell BK1.out 1).trans rfl; have zf1 := blk_frozen BK1.out 1; have zc2 : wa.cell? ⟨gf, 2, none⟩ = some (.int .i64 0) := (blk_cell BK1.out 2).trans rfl; have zf2 := blk_frozen BK1.out 2; have zc3 : wa.cell? ⟨gf, 3, none⟩ = some (.int .i64 0) := (blk_cell BK1.out 3).trans rfl; have zf3 := blk_frozen BK1.out 3; have zc4 : wa.cell? ⟨gf, 4, none⟩ = some (.int .i64 0) := (blk_cell BK1.out 4).trans rfl; have zf4 := blk_frozen BK1.out 4))
    (try simp only [Exit.inBlock, Exit.then])
    refine bodyPost_ret (results_ct rfl _ _ gf 26 #[.int .i64 0, .int .i64 0, .int .i64 0, .int .i64 0, .int .i64 0] (0, 0) _ rfl (by (with_reducible repeat (first | refine blk_drewN ?_ _ | refine blk_drew ?_ | refine blk_alloc ?_ _)); refine blk_put (cs := #[.int .i64 0, .int .i64 0, .int .i64 0, .int .i64 0, .int .i64 0]) ?_ 4 _ rfl; (with_reducible repeat (first | refine blk_drewN ?_ _ | refine blk_drew ?_ | refine blk_alloc ?_ _)); refine blk_put (cs := #[.int .i64 0, .int .i64 0, .int .i64 0, .int .i64 0, .int .i64 0]) ?_ 3 _ rfl; (with_reducible repeat (first | refine blk_drewN ?_ _ | refine blk_drew ?_ | refine blk_alloc ?_ _)); refine blk_put (cs := #[.int .i64 0, .int .i64 0, .int .i64 0, .int .i64 0, .int .i64 0]) ?_ 2 _ rfl; (with_reducible repeat (first | refine blk_drewN ?_ _ | refine blk_drew ?_ | refine blk_alloc ?_ _)); refine blk_put (cs := #[.int .i64 0, .int .i64 0, .int .i64 0, .int .i64 0, .int .i64 0]) ?_ 1 _ rfl; (with_reducible repeat (first | refine blk_drewN ?_ _ | refine blk_drew ?_ | refine blk_alloc ?_ _)); refine blk_put (cs := #[.int .i64 0, .int .i64 0, .int .i64 0, .int .i64 0, .int .i64 0]) ?_ 0 _ rfl; (with_reducible repeat (first | refine blk_drewN ?_ _ | refine blk_drew ?_ | refine blk_alloc ?_ _)); exact BK1.out) Tryd.underlying26 rfl (by kernel_rfl)) rfl ?_
    exact ⟨by first | rfl | (simp [errW_none, errW_some] <;> rfl) | (simp [*, errW_none, errW_some] <;> rfl), by repeat (first | (with_reducible first | exact HB.out | apply below_alloc | apply pw_below_drewN | apply below_drew1 | refine below_set ?_ GE1.out) | exact HB.out)⟩
  | some n3 =>
  go_wp2_with (first | (go_at_call 37; (with_reducible refine (atoi_ok s4 n3 _ hl3 hn3).mono ?_); rintro e wa3 ⟨rfl, hb⟩; have n0_ := Aside0.mk (ST.out.below hb); clear ST hb; have ST := n0_; clear n0_; have ac3 : wa3.cell? ⟨gn, 3, none⟩ = some (.int .i64 0) := (blk_cell ST.out.2.2.1 3).trans rfl; have af3 := blk_frozen ST.out.2.2.1 3))
  have n0_ := Aside0.mk (ST.out.put GE2.out 3 (.int .i64 n3) (cn' := #[.int .i64 n0, .int .i64 n1, .int .i64 n2, .int .i64 n3, .int .i64 0]) rfl)
  clear ST ac3 af3 hw3
  have ST := n0_
  clear n0_
  generalize (wa3.setCell ⟨gn, 3, none⟩ (.int .i64 n3)) = wl4 at ST ⊢
  rw [rounds_succ]
  have hw4 : wl4.cell? ⟨gw, 5, none⟩ = some (.string s5) := (blk_cell ST.out.2.1 5).trans rfl
  have hl4 : s5.size ≤ 281474976710656 := hs2 _ (by simp)
  cases hn4 : atoiN s5 with
  | none =>
    have hw : impl_ParseFix.w k a0 [s0, s1, s2, s3, s4, s5] = impl_ParseFix.z := by
      unfold impl_ParseFix.w
      simp only [hn0, hn1, hn2, hn3, hn4]
    rw [hw] at h
    unfold impl_ParseFix.z at h
    simp only [Option.some.injEq, Prod.mk.injEq] at h
    obtain ⟨rfl, rfl, rfl, rfl, rfl, rfl⟩ := h
    have HTJ := Aside0.mk (Tc.keep HTB.out ST.out.2.2.2)
    go_wp2_with (first | (go_at_call 37; (with_reducible refine (atoi_no s5 _ HTJ.out hl4 hn4).mono ?_); rintro e wa ⟨x_, N_, rfl, hb⟩; have n0_ := Aside0.mk (ST.out.below hb); clear ST hb; have ST := n0_; clear n0_; have BK1 := Aside0.mk ST.out.1; have HB := Aside0.mk ST.out.2.2.2; have zc0 : wa.cell? ⟨gf, 0, none⟩ = some (.int .i64 0) := (blk_cell BK1.out 0).trans rfl; have zf0 := blk_frozen BK1.out 0; have zc1 : wa.cell? ⟨gf, 1, none⟩ = some (.int .i64 0) := (blk_cell BK1.out 1).trans rfl; have zf1 := blk_frozen BK1.out 1; have zc2 : wa.cell? ⟨gf, 2, none⟩ = some (.int .i64 0) := (blk_cell BK1.out 2).trans rfl; have zf2 := blk_frozen BK1.out 2; have zc3 : wa.cell? ⟨gf, 3, none⟩ = some (.int .i64 0) := (blk_cell BK1.out 3).trans rfl; have zf3 := blk_frozen BK1.out 3; have zc4 : wa.cell? ⟨gf, 4, none⟩ = some (.int .i64 0) := (blk_cell BK1.out 4).trans rfl; have zf4 := blk_frozen BK1.out 4))
    (try simp only [Exit.inBlock, Exit.then])
    refine bodyPost_ret (results_ct rfl _ _ gf 26 #[.int .i64 0, .int .i64 0, .int .i64 0, .int .i64 0, .int .i64 0] (0, 0) _ rfl (by (with_reducible repeat (first | refine blk_drewN ?_ _ | refine blk_drew ?_ | refine blk_alloc ?_ _)); refine blk_put (cs := #[.int .i64 0, .int .i64 0, .int .i64 0, .int .i64 0, .int .i64 0]) ?_ 4 _ rfl; (with_reducible repeat (first | refine blk_drewN ?_ _ | refine blk_drew ?_ | refine blk_alloc ?_ _)); refine blk_put (cs := #[.int .i64 0, .int .i64 0, .int .i64 0, .int .i64 0, .int .i64 0]) ?_ 3 _ rfl; (with_reducible repeat (first | refine blk_drewN ?_ _ | refine blk_drew ?_ | refine blk_alloc ?_ _)); refine blk_put (cs := #[.int .i64 0, .int .i64 0, .int .i64 0, .int .i64 0, .int .i64 0]) ?_ 2 _ rfl; (with_reducible repeat (first | refine blk_drewN ?_ _ | refine blk_drew ?_ | refine blk_alloc ?_ _)); refine blk_put (cs := #[.int .i64 0, .int .i64 0, .int .i64 0, .int .i64 0, .int .i64 0]) ?_ 1 _ rfl; (with_reducible repeat (first | refine blk_drewN ?_ _ | refine blk_drew ?_ | refine blk_alloc ?_ _)); refine blk_put (cs := #[.int .i64 0, .int .i64 0, .int .i64 0, .int .i64 0, .int .i64 0]) ?_ 0 _ rfl; (with_reducible repeat (first | refine blk_drewN ?_ _ | refine blk_drew ?_ | refine blk_alloc ?_ _)); exact BK1.out) Tryd.underlying26 rfl (by kernel_rfl)) rfl ?_
    exact ⟨by first | rfl | (simp [errW_none, errW_some] <;> rfl) | (simp [*, errW_none, errW_some] <;> rfl), by repeat (first | (with_reducible first | exact HB.out | apply below_alloc | apply pw_below_drewN | apply below_drew1 | refine below_set ?_ GE1.out) | exact HB.out)⟩
  | some n4 =>
  go_wp2_with (first | (go_at_call 37; (with_reducible refine (atoi_ok s5 n4 _ hl4 hn4).mono ?_); rintro e wa4 ⟨rfl, hb⟩; have n0_ := Aside0.mk (ST.out.below hb); clear ST hb; have ST := n0_; clear n0_; have ac4 : wa4.cell? ⟨gn, 4, none⟩ = some (.int .i64 0) := (blk_cell ST.out.2.2.1 4).trans rfl; have af4 := blk_frozen ST.out.2.2.1 4))
  have n0_ := Aside0.mk (ST.out.put GE2.out 4 (.int .i64 n4) (cn' := #[.int .i64 n0, .int .i64 n1, .int .i64 n2, .int .i64 n3, .int .i64 n4]) rfl)
  clear ST ac4 af4 hw4
  have ST := n0_
  clear n0_
  generalize (wa4.setCell ⟨gn, 4, none⟩ (.int .i64 n4)) = wl5 at ST ⊢
  rw [rounds_succ]
  have m0 : wl5.cell? ⟨gn, 0, none⟩ = some (.int .i64 n0) := (blk_cell ST.out.2.2.1 0).trans rfl
  have m1 : wl5.cell? ⟨gn, 1, none⟩ = some (.int .i64 n1) := (blk_cell ST.out.2.2.1 1).trans rfl
  have m2 : wl5.cell? ⟨gn, 2, none⟩ = some (.int .i64 n2) := (blk_cell ST.out.2.2.1 2).trans rfl
  have m3 : wl5.cell? ⟨gn, 3, none⟩ = some (.int .i64 n3) := (blk_cell ST.out.2.2.1 3).trans rfl
  have m4 : wl5.cell? ⟨gn, 4, none⟩ = some (.int .i64 n4) := (blk_cell ST.out.2.2.1 4).trans rfl
  have BK1 := Aside0.mk ST.out.1
  have HB := Aside0.mk ST.out.2.2.2
  clear ST
  go_upto_region 15 with (first | ((with_reducible refine gate_dst (N := 11) rfl ?_); (try (refine gate_guard (by rfl) ?_; dsimp only)); refine box_event ?hg11 (N := 11) ?hd11 (cs := #[.int .i64 0, .int .i64 0, .int .i64 0, .int .i64 0, .int .i64 0]) (t := 26) ?hr11 ?_; (case hd11 => rfl); (case hg11 => rfl); (case hr11 => first | (go_simp; done) | (go_simp; rfl)); intro gx hg wb11 hbox hb; have n0_ := Aside0.mk (below_step (by repeat (first | (with_reducible first | exact HB.out | apply below_alloc | apply pw_below_drewN | apply below_drew1 | refine below_set ?_ GE1.out) | exact HB.out)) hb); have n1_ := Aside0.mk (hbox); have n2_ := Aside0.mk ((by rw [hg]; exact (below_size (by repeat (first | (with_reducible first | exact HB.out | apply below_alloc | apply pw_below_drewN | apply below_drew1 | refine below_set ?_ GE1.out) | exact HB.out))) : w.heap.size ≤ gx)); have n5_ := Aside0.mk (show gf ≠ gx from by rw [hg]; exact Nat.ne_of_lt (blk_lt (by (with_reducible repeat (first | refine blk_drewN ?_ _ | refine blk_drew ?_ | refine blk_alloc ?_ _)); exact BK1.out))); have n3_ := Aside0.mk (blk_below (by (with_reducible repeat (first | refine blk_drewN ?_ _ | refine blk_drew ?_ | refine blk_alloc ?_ _)); exact BK1.out) hb); clear BK1; have BK1 := n3_; have NEX := n5_; clear n3_ n5_; clear HB; have HB := n0_; have BK3 := n1_; have GE3 := n2_; clear n0_ n1_ n2_; clear hb hbox hg; have hc11_0 : wb11.cell? ⟨gx, 0, none⟩ = some (.int .i64 0) := (blk_cell BK3.out 0).trans rfl; have hf11_0 := blk_frozen BK3.out 0; have hc11_1 : wb11.cell? ⟨gx, 1, none⟩ = some (.int .i64 0) := (blk_cell BK3.out 1).trans rfl; have hf11_1 := blk_frozen BK3.out 1; have hc11_2 : wb11.cell? ⟨gx, 2, none⟩ = some (.int .i64 0) := (blk_cell BK3.out 2).trans rfl; have hf11_2 := blk_frozen BK3.out 2; have hc11_3 : wb11.cell? ⟨gx, 3, none⟩ = some (.int .i64 0) := (blk_cell BK3.out 3).trans rfl; have hf11_3 := blk_frozen BK3.out 3; have hc11_4 : wb11.cell? ⟨gx, 4, none⟩ = some (.int .i64 0) := (blk_cell BK3.out 4).trans rfl; have hf11_4 := blk_frozen BK3.out 4))
  have hw : impl_ParseFix.w k a0 [s0, s1, s2, s3, s4, s5] = impl_ParseFix.g k a0 n0 n1 n2 n3 n4 := by
    unfold impl_ParseFix.w
    simp only [hn0, hn1, hn2, hn3, hn4]
  rw [hw] at h
  unfold impl_ParseFix.g at h
  obtain ⟨tx, hA2, h⟩ := Option.bind_eq_some_iff.mp h
  have hsc : secOf n0 = (wrap64 (wrap64 (wrap64 (wrap64 (n0.tdiv 10000) * 3600) + wrap64 ((wrap64 (n0.tdiv 100)).tmod 100 * 60)) + n0.tmod 100)) := rfl
  rw [← hsc]
  generalize secOf n0 = sc at h hA2 ⊢
  have A2 := Aside0.mk hA2
  clear hA2 hsc hw
  have n1_ := Aside0.mk (blk_put (cs' := #[.int .i64 n3, .int .i64 n2, .int .i64 n1, .int .i64 sc, .int .i64 n4]) (blk_put (cs' := #[.int .i64 n3, .int .i64 n2, .int .i64 n1, .int .i64 sc, .int .i64 0]) (blk_put (cs' := #[.int .i64 n3, .int .i64 n2, .int .i64 n1, .int .i64 0, .int .i64 0]) (blk_put (cs' := #[.int .i64 n3, .int .i64 n2, .int .i64 0, .int .i64 0, .int .i64 0]) (blk_put (cs' := #[.int .i64 n3, .int .i64 0, .int .i64 0, .int .i64 0, .int .i64 0]) BK3.out 0 (.int .i64 n3) rfl) 1 (.int .i64 n2) rfl) 2 (.int .i64 n1) rfl) 3 (.int .i64 sc) rfl) 4 (.int .i64 n4) rfl)
  have n2_ := Aside0.mk (blk_far (blk_far (blk_far (blk_far (blk_far BK1.out (p := ⟨gx, 0, none⟩) NEX.out (.int .i64 n3)) (p := ⟨gx, 1, none⟩) NEX.out (.int .i64 n2)) (p := ⟨gx, 2, none⟩) NEX.out (.int .i64 n1)) (p := ⟨gx, 3, none⟩) NEX.out (.int .i64 sc)) (p := ⟨gx, 4, none⟩) NEX.out (.int .i64 n4))
  have n3_ := Aside0.mk (show Below w.heap.size w (((((wb11.setCell ⟨gx, 0, none⟩ (.int .i64 n3)).setCell ⟨gx, 1, none⟩ (.int .i64 n2)).setCell ⟨gx, 2, none⟩ (.int .i64 n1)).setCell ⟨gx, 3, none⟩ (.int .i64 sc)).setCell ⟨gx, 4, none⟩ (.int .i64 n4)) from by repeat (first | (with_reducible first | exact HB.out | refine below_set ?_ GE3.out) | exact HB.out))
  clear BK3 BK1 HB hc11_0 hf11_0 m0 hc11_1 hf11_1 m1 hc11_2 hf11_2 m2 hc11_3 hf11_3 m3 hc11_4 hf11_4 m4
  have BK3 := n1_
  have BK1 := n2_
  have HB := n3_
  clear n1_ n2_ n3_
  generalize (((((wb11.setCell ⟨gx, 0, none⟩ (.int .i64 n3)).setCell ⟨gx, 1, none⟩ (.int .i64 n2)).setCell ⟨gx, 2, none⟩ (.int .i64 n1)).setCell ⟨gx, 3, none⟩ (.int .i64 sc)).setCell ⟨gx, 4, none⟩ (.int .i64 n4)) = wy at BK3 BK1 HB ⊢
  have HTJ := Aside0.mk (Tc.keep HTB.out HB.out)
  have y0 : wy.cell? ⟨gx, 0, none⟩ = some (.int .i64 n3) := (blk_cell BK3.out 0).trans rfl
  have y1 : wy.cell? ⟨gx, 1, none⟩ = some (.int .i64 n2) := (blk_cell BK3.out 1).trans rfl
  have y2 : wy.cell? ⟨gx, 2, none⟩ = some (.int .i64 n1) := (blk_cell BK3.out 2).trans rfl
  have y3 : wy.cell? ⟨gx, 3, none⟩ = some (.int .i64 sc) := (blk_cell BK3.out 3).trans rfl
  have y4 : wy.cell? ⟨gx, 4, none⟩ = some (.int .i64 n4) := (blk_cell BK3.out 4).trans rfl
  by_cases hc : tx.toList = a0.toList
  · rw [if_pos hc] at h
    simp only [Option.some.injEq, Prod.mk.injEq] at h
    obtain ⟨rfl, rfl, rfl, rfl, rfl, rfl⟩ := h
    have hcb : (tx.toList == a0.toList) = true := beq_iff_eq.2 hc
    have hcn : (tx.toList != a0.toList) = false := by rw [bne, hcb]; rfl
    clear hc
    go_wp2_with (first | (go_at_call 12; (with_reducible refine (impl_FormatFix.calls k n3 n2 n1 sc n4 tx _ HTJ.out A2.out).mono ?_); rintro e wz ⟨rfl, hb⟩; have n1_ := Aside0.mk (blk_below BK3.out hb); have n2_ := Aside0.mk (blk_below BK1.out hb); have n3_ := Aside0.mk (below_step HB.out hb); clear BK3 BK1 HB hb; have BK3 := n1_; have BK1 := n2_; have HB := n3_; clear n1_ n2_ n3_; have u0 : wz.cell? ⟨gx, 0, none⟩ = some (.int .i64 n3) := (blk_cell BK3.out 0).trans rfl; have zc0 : wz.cell? ⟨gf, 0, none⟩ = some (.int .i64 0) := (blk_cell BK1.out 0).trans rfl; have zf0 := blk_frozen BK1.out 0; have u1 : wz.cell? ⟨gx, 1, none⟩ = some (.int .i64 n2) := (blk_cell BK3.out 1).trans rfl; have zc1 : wz.cell? ⟨gf, 1, none⟩ = some (.int .i64 0) := (blk_cell BK1.out 1).trans rfl; have zf1 := blk_frozen BK1.out 1; have u2 : wz.cell? ⟨gx, 2, none⟩ = some (.int .i64 n1) := (blk_cell BK3.out 2).trans rfl; have zc2 : wz.cell? ⟨gf, 2, none⟩ = some (.int .i64 0) := (blk_cell BK1.out 2).trans rfl; have zf2 := blk_frozen BK1.out 2; have u3 : wz.cell? ⟨gx, 3, none⟩ = some (.int .i64 sc) := (blk_cell BK3.out 3).trans rfl; have zc3 : wz.cell? ⟨gf, 3, none⟩ = some (.int .i64 0) := (blk_cell BK1.out 3).trans rfl; have zf3 := blk_frozen BK1.out 3; have u4 : wz.cell? ⟨gx, 4, none⟩ = some (.int .i64 n4) := (blk_cell BK3.out 4).trans rfl; have zc4 : wz.cell? ⟨gf, 4, none⟩ = some (.int .i64 0) := (blk_cell BK1.out 4).trans rfl; have zf4 := blk_frozen BK1.out 4; have hne := NEX.out; have hnf := Ne.symm hne))
    refine bodyPost_ret (results_ct rfl _ _ gf 26 #[.int .i64 n3, .int .i64 n2, .int .i64 n1, .int .i64 sc, .int .i64 n4] (0, 0) _ rfl (by (with_reducible repeat (first | refine blk_drewN ?_ _ | refine blk_drew ?_ | refine blk_alloc ?_ _)); refine blk_put (cs := #[.int .i64 n3, .int .i64 n2, .int .i64 n1, .int .i64 sc, .int .i64 0]) ?_ 4 _ rfl; (with_reducible repeat (first | refine blk_drewN ?_ _ | refine blk_drew ?_ | refine blk_alloc ?_ _)); refine blk_put (cs := #[.int .i64 n3, .int .i64 n2, .int .i64 n1, .int .i64 0, .int .i64 0]) ?_ 3 _ rfl; (with_reducible repeat (first | refine blk_drewN ?_ _ | refine blk_drew ?_ | refine blk_alloc ?_ _)); refine blk_put (cs := #[.int .i64 n3, .int .i64 n2, .int .i64 0, .int .i64 0, .int .i64 0]) ?_ 2 _ rfl; (with_reducible repeat (first | refine blk_drewN ?_ _ | refine blk_drew ?_ | refine blk_alloc ?_ _)); refine blk_put (cs := #[.int .i64 n3, .int .i64 0, .int .i64 0, .int .i64 0, .int .i64 0]) ?_ 1 _ rfl; (with_reducible repeat (first | refine blk_drewN ?_ _ | refine blk_drew ?_ | refine blk_alloc ?_ _)); refine blk_put (cs := #[.int .i64 0, .int .i64 0, .int .i64 0, .int .i64 0, .int .i64 0]) ?_ 0 _ rfl; (with_reducible repeat (first | refine blk_drewN ?_ _ | refine blk_drew ?_ | refine blk_alloc ?_ _)); exact BK1.out) Tryd.underlying26 rfl (by kernel_rfl)) rfl ?_
    exact ⟨by first | rfl | (simp [errW_none, errW_some] <;> rfl) | (simp [*, errW_none, errW_some] <;> rfl), by repeat (first | (with_reducible first | exact HB.out | apply below_alloc | apply pw_below_drewN | apply below_drew1 | refine below_set ?_ GE1.out) | exact HB.out)⟩
  · rw [if_neg hc] at h
    unfold impl_ParseFix.z at h
    simp only [Option.some.injEq, Prod.mk.injEq] at h
    obtain ⟨rfl, rfl, rfl, rfl, rfl, rfl⟩ := h
    have hcb : (tx.toList == a0.toList) = false := beq_eq_false_iff_ne.2 hc
    have hcn : (tx.toList != a0.toList) = true := by rw [bne, hcb]; rfl
    clear hc
    go_wp2_with (first | (go_at_call 12; (with_reducible refine (impl_FormatFix.calls k n3 n2 n1 sc n4 tx _ HTJ.out A2.out).mono ?_); rintro e wz ⟨rfl, hb⟩; have n1_ := Aside0.mk (blk_below BK3.out hb); have n2_ := Aside0.mk (blk_below BK1.out hb); have n3_ := Aside0.mk (below_step HB.out hb); clear BK3 BK1 HB hb; have BK3 := n1_; have BK1 := n2_; have HB := n3_; clear n1_ n2_ n3_; have u0 : wz.cell? ⟨gx, 0, none⟩ = some (.int .i64 n3) := (blk_cell BK3.out 0).trans rfl; have zc0 : wz.cell? ⟨gf, 0, none⟩ = some (.int .i64 0) := (blk_cell BK1.out 0).trans rfl; have zf0 := blk_frozen BK1.out 0; have u1 : wz.cell? ⟨gx, 1, none⟩ = some (.int .i64 n2) := (blk_cell BK3.out 1).trans rfl; have zc1 : wz.cell? ⟨gf, 1, none⟩ = some (.int .i64 0) := (blk_cell BK1.out 1).trans rfl; have zf1 := blk_frozen BK1.out 1; have u2 : wz.cell? ⟨gx, 2, none⟩ = some (.int .i64 n1) := (blk_cell BK3.out 2).trans rfl; have zc2 : wz.cell? ⟨gf, 2, none⟩ = some (.int .i64 0) := (blk_cell BK1.out 2).trans rfl; have zf2 := blk_frozen BK1.out 2; have u3 : wz.cell? ⟨gx, 3, none⟩ = some (.int .i64 sc) := (blk_cell BK3.out 3).trans rfl; have zc3 : wz.cell? ⟨gf, 3, none⟩ = some (.int .i64 0) := (blk_cell BK1.out 3).trans rfl; have zf3 := blk_frozen BK1.out 3; have u4 : wz.cell? ⟨gx, 4, none⟩ = some (.int .i64 n4) := (blk_cell BK3.out 4).trans rfl; have zc4 : wz.cell? ⟨gf, 4, none⟩ = some (.int .i64 0) := (blk_cell BK1.out 4).trans rfl; have zf4 := blk_frozen BK1.out 4; have hne := NEX.out; have hnf := Ne.symm hne))
    refine bodyPost_ret (results_ct rfl _ _ gf 26 #[.int .i64 0, .int .i64 0, .int .i64 0, .int .i64 0, .int .i64 0] (0, 0) _ rfl (by (with_reducible repeat (first | refine blk_drewN ?_ _ | refine blk_drew ?_ | refine blk_alloc ?_ _)); refine blk_put (cs := #[.int .i64 0, .int .i64 0, .int .i64 0, .int .i64 0, .int .i64 0]) ?_ 4 _ rfl; (with_reducible repeat (first | refine blk_drewN ?_ _ | refine blk_drew ?_ | refine blk_alloc ?_ _)); refine blk_put (cs := #[.int .i64 0, .int .i64 0, .int .i64 0, .int .i64 0, .int .i64 0]) ?_ 3 _ rfl; (with_reducible repeat (first | refine blk_drewN ?_ _ | refine blk_drew ?_ | refine blk_alloc ?_ _)); refine blk_put (cs := #[.int .i64 0, .int .i64 0, .int .i64 0, .int .i64 0, .int .i64 0]) ?_ 2 _ rfl; (with_reducible repeat (first | refine blk_drewN ?_ _ | refine blk_drew ?_ | refine blk_alloc ?_ _)); refine blk_put (cs := #[.int .i64 0, .int .i64 0, .int .i64 0, .int .i64 0, .int .i64 0]) ?_ 1 _ rfl; (with_reducible repeat (first | refine blk_drewN ?_ _ | refine blk_drew ?_ | refine blk_alloc ?_ _)); refine blk_put (cs := #[.int .i64 0, .int .i64 0, .int .i64 0, .int .i64 0, .int .i64 0]) ?_ 0 _ rfl; (with_reducible repeat (first | refine blk_drewN ?_ _ | refine blk_drew ?_ | refine blk_alloc ?_ _)); exact BK1.out) Tryd.underlying26 rfl (by kernel_rfl)) rfl ?_
    exact ⟨by first | rfl | (simp [errW_none, errW_some] <;> rfl) | (simp [*, errW_none, errW_some] <;> rfl), by repeat (first | (with_reducible first | exact HB.out | apply below_alloc | apply pw_below_drewN | apply below_drew1 | refine below_set ?_ GE1.out) | exact HB.out)⟩

/-! ### spec_inRange: function 47 -/
def spec_inRange.f (a0 : Int) (a1 : Int) (a2 : Int) : Option (Bool) := if a1 ≤ a0 then (some (decide (a0 ≤ a2))) else (some false)
set_option maxHeartbeats 8000000 in
set_option maxRecDepth 100000 in
theorem spec_inRange.calls (a0 : Int) (a1 : Int) (a2 : Int) (r : Bool) (w : World) (h : spec_inRange.f a0 a1 a2 = some r) :
    Calls Tryd.prog 47 #[.int .i64 a0, .int .i64 a1, .int .i64 a2] w fun e w' => e = .returned (.bool r) ∧ Drawn0 w w' := by
  have H : (if a1 ≤ a0 then (some (decide (a0 ≤ a2))) else (some false)) = some r := h
  clear h
  by_cases c4 : a1 ≤ a0
  · rw [if_pos c4] at H
    have c4b0 : decide (a1 ≤ a0) = true := decide_eq_true c4
    clear c4
    obtain rfl := Option.some.inj H
    go_enter Tryd.func47, Tryd.ntmps47
    go_wp2
    go_ret
    exact ⟨by first | rfl | (simp; done) | (simp [*]; done), by repeat (first | exact Drawn0.refl _ | apply Drawn0.step)⟩
  · rw [if_neg c4] at H
    have c4b0 : decide (a1 ≤ a0) = false := decide_eq_false c4
    clear c4
    obtain rfl := Option.some.inj H
    go_enter Tryd.func47, Tryd.ntmps47
    go_wp2
    go_ret
    exact ⟨by first | rfl | (simp; done) | (simp [*]; done), by repeat (first | exact Drawn0.refl _ | apply Drawn0.step)⟩

/-! ### spec_isBody: function 43 -/
def spec_isBody.l0 : Nat → ByteArray → Int → Option (Bool)
  | 0, _, _ => none
  | k + 1, x0, x3 => if x3 < (x0.size : Int) then (if 0 ≤ x3 then ((spec_inRange.f (wrap64 (bt x0 x3)) 32 126).bind fun t129 => (if t129 = true then (if (bt x0 x3) = 36 then (some false) else (if (bt x0 x3) = 42 then (some false) else (spec_isBody.l0 k x0 (wrap64 (x3 + 1))))) else (some false))) else (none)) else ((spec_inRange.f (x0.size : Int) 1 40).bind fun t130 => (some t130))
def spec_isBody.f (k : Nat) (a0 : ByteArray) : Option (Bool) := spec_isBody.l0 k a0 0
theorem spec_isBody.mono_l : ∀ k, (∀ y0 y1, LeO (spec_isBody.l0 k y0 y1) (spec_isBody.l0 (k + 1) y0 y1))
  | 0 => fun _ _ r h => by simp [spec_isBody.l0] at h
  | k + 1 => by
    have ih0 := spec_isBody.mono_l k
    · intro y0 y1
      unfold spec_isBody.l0
      repeat' first
      | (with_reducible exact ih0 _ _)
      | (with_reducible exact LeO.refl _)
      | (with_reducible exact LeO.none _)
      | (with_reducible refine LeO.ite ?_ ?_)
      | (with_reducible refine LeO.bind ?_ (fun _ => ?_))
      | exact ih0 _ _
      | exact LeO.none _
      | refine LeO.ite ?_ ?_
      | refine LeO.bind ?_ (fun _ => ?_)
theorem spec_isBody.mono : ∀ a0 k, LeO (spec_isBody.f k a0) (spec_isBody.f (k + 1) a0) := by
  intro a0 k
  have ih0 := spec_isBody.mono_l k
  unfold spec_isBody.f
  repeat' first
      | (with_reducible exact ih0 _ _)
      | (with_reducible exact LeO.refl _)
      | (with_reducible exact LeO.none _)
      | (with_reducible refine LeO.ite ?_ ?_)
      | (with_reducible refine LeO.bind ?_ (fun _ => ?_))
      | exact ih0 _ _
      | exact LeO.none _
      | refine LeO.ite ?_ ?_
      | refine LeO.bind ?_ (fun _ => ?_)
set_option maxHeartbeats 8000000 in
set_option maxRecDepth 100000 in
theorem spec_isBody.calls (k : Nat) (a0 : ByteArray) (r : Bool) (w : World) (h : spec_isBody.f k a0 = some r) :
    Calls Tryd.prog 43 #[.string a0] w fun e w' => e = .returned (.bool r) ∧ Drawn0 w w' := by
  have H : (spec_isBody.l0 k a0 0) = some r := h
  clear h
  have H' := Aside0.mk H
  clear H
  go_enter Tryd.func43, Tryd.ntmps43
  go_wp2
  go_loopg [3] k (fun kq v3 w' => ∃ (x3_1 : Int), v3 = .int .i64 x3_1 ∧ Aside0 (spec_isBody.l0 kq a0 x3_1 = some r) ∧ Aside0 (kq ≤ k) ∧ Drawn0 w w')
  case atStart => exact ⟨(0), (by first | rfl | (simp; done) | (simp [*]; done)), H', ⟨Nat.le_refl _⟩, by repeat (first | exact Drawn0.refl _ | apply Drawn0.step)⟩
  case round =>
    clear H'
    obtain ⟨x3_1, rfl, HA, HK1, ⟨m1, rfl⟩⟩ := hrel
    cases gk with
    | zero => exact absurd HA.out (by simp [spec_isBody.l0])
    | succ k1 =>
      have H := HA.out
      clear HA
      simp only [spec_isBody.l0] at H
      by_cases c2 : x3_1 < (a0.size : Int)
      · rw [if_pos c2] at H
        have c2b0 : decide (x3_1 < (a0.size : Int)) = true := decide_eq_true c2
        clear c2
        by_cases c3 : 0 ≤ x3_1
        · rw [if_pos c3] at H
          have c3b0 : decide (0 ≤ x3_1) = true := decide_eq_true c3
          clear c3
          replace H := Option.bind_eq_some_iff.mp H
          obtain ⟨t129, A50, H⟩ := H
          replace H : (if t129 = true then (if (bt a0 x3_1) = 36 then (some false) else (if (bt a0 x3_1) = 42 then (some false) else (spec_isBody.l0 k1 a0 (wrap64 (x3_1 + 1))))) else (some false)) = some r := H
          have A5 := Aside0.mk A50
          clear A50
          by_cases c6 : t129 = true
          · subst c6
            have H1 : (if (bt a0 x3_1) = 36 then (some false) else (if (bt a0 x3_1) = 42 then (some false) else (spec_isBody.l0 k1 a0 (wrap64 (x3_1 + 1))))) = some r := by rw [if_pos rfl] at H; exact H
            clear H
            have H := H1
            clear H1
            by_cases c8 : (bt a0 x3_1) = 36
            · rw [if_pos c8] at H
              have c8b0 : ((bt a0 x3_1) == 36) = true := beq_iff_eq.mpr c8
              have c8b1 : ((bt a0 x3_1) != 36) = false := bne_eq_false_iff_eq.mpr c8
              clear c8
              obtain rfl := Option.some.inj H
              have p4 : 0 ≤ (x3_1 : Int) := of_decide_eq_true (by first | (with_reducible assumption) | assumption)
              have q4 : x3_1 < (a0.size : Int) := of_decide_eq_true (by first | (with_reducible assumption) | assumption)
              have hx4 := bt_at a0 x3_1
              replace p4 := eq_true p4
              replace q4 := eq_true q4
              go_wp2_with (first | ((with_reducible refine gate_callee (f := 47) rfl ?_); refine goesL_ (some 14) rfl rfl Tryd.func47 (by kernel_rfl) rfl #[.int .i64 (wrap64 (bt a0 x3_1)), .int .i64 32, .int .i64 126] rfl (by (try simp only [List.map_toArray, List.map_cons, List.map_nil]); first | done | rfl | (simp only [List.length_drop, List.length_take]; rfl)) ?_; (with_reducible refine (spec_inRange.calls (wrap64 (bt a0 x3_1)) 32 126 true _ A5.out).mono ?_); rintro e w' ⟨rfl, ⟨nd, rfl⟩⟩; refine ⟨_, rfl, ?_⟩; have p7 : 0 ≤ (x3_1 : Int) := of_decide_eq_true (by first | (with_reducible assumption) | assumption); have q7 : x3_1 < (a0.size : Int) := of_decide_eq_true (by first | (with_reducible assumption) | assumption); have hx7 := bt_at a0 x3_1; replace p7 := eq_true p7; replace q7 := eq_true q7))
              go_ret
              exact ⟨by first | rfl | (simp; done) | (simp [*]; done), by repeat (first | exact Drawn0.refl _ | apply Drawn0.step)⟩
            · rw [if_neg c8] at H
              have c8b0 : ((bt a0 x3_1) == 36) = false := beq_eq_false_iff_ne.mpr c8
              have c8b1 : ((bt a0 x3_1) != 36) = true := bne_iff_ne.mpr c8
              by_cases c10 : (bt a0 x3_1) = 42
              · rw [if_pos c10] at H
                have c10b0 : ((bt a0 x3_1) == 42) = true := beq_iff_eq.mpr c10
                have c10b1 : ((bt a0 x3_1) != 42) = false := bne_eq_false_iff_eq.mpr c10
                clear c10
                obtain rfl := Option.some.inj H
                have p4 : 0 ≤ (x3_1 : Int) := of_decide_eq_true (by first | (with_reducible assumption) | assumption)
                have q4 : x3_1 < (a0.size : Int) := of_decide_eq_true (by first | (with_reducible assumption) | assumption)
                have hx4 := bt_at a0 x3_1
                replace p4 := eq_true p4
                replace q4 := eq_true q4
                go_wp2_with (first | ((with_reducible refine gate_callee (f := 47) rfl ?_); refine goesL_ (some 14) rfl rfl Tryd.func47 (by kernel_rfl) rfl #[.int .i64 (wrap64 (bt a0 x3_1)), .int .i64 32, .int .i64 126] rfl (by (try simp only [List.map_toArray, List.map_cons, List.map_nil]); first | done | rfl | (simp only [List.length_drop, List.length_take]; rfl)) ?_; (with_reducible refine (spec_inRange.calls (wrap64 (bt a0 x3_1)) 32 126 true _ A5.out).mono ?_); rintro e w' ⟨rfl, ⟨nd, rfl⟩⟩; refine ⟨_, rfl, ?_⟩; have p7 : 0 ≤ (x3_1 : Int) := of_decide_eq_true (by first | (with_reducible assumption) | assumption); have q7 : x3_1 < (a0.size : Int) := of_decide_eq_true (by first | (with_reducible assumption) | assumption); have hx7 := bt_at a0 x3_1; replace p7 := eq_true p7; replace q7 := eq_true q7; have p9 : 0 ≤ (x3_1 : Int) := of_decide_eq_true (by first | (with_reducible assumption) | assumption); have q9 : x3_1 < (a0.size : Int) := of_decide_eq_true (by first | (with_reducible assumption) | assumption); have hx9 := bt_at a0 x3_1; replace p9 := eq_true p9; replace q9 := eq_true q9))
                go_ret
                exact ⟨by first | rfl | (simp; done) | (simp [*]; done), by repeat (first | exact Drawn0.refl _ | apply Drawn0.step)⟩
              · rw [if_neg c10] at H
                have c10b0 : ((bt a0 x3_1) == 42) = false := beq_eq_false_iff_ne.mpr c10
                have c10b1 : ((bt a0 x3_1) != 42) = true := bne_iff_ne.mpr c10
                have H' := Aside0.mk H
                clear H
                have p4 : 0 ≤ (x3_1 : Int) := of_decide_eq_true (by first | (with_reducible assumption) | assumption)
                have q4 : x3_1 < (a0.size : Int) := of_decide_eq_true (by first | (with_reducible assumption) | assumption)
                have hx4 := bt_at a0 x3_1
                replace p4 := eq_true p4
                replace q4 := eq_true q4
                go_wp2_with (first | ((with_reducible refine gate_callee (f := 47) rfl ?_); refine goesL_ (some 14) rfl rfl Tryd.func47 (by kernel_rfl) rfl #[.int .i64 (wrap64 (bt a0 x3_1)), .int .i64 32, .int .i64 126] rfl (by (try simp only [List.map_toArray, List.map_cons, List.map_nil]); first | done | rfl | (simp only [List.length_drop, List.length_take]; rfl)) ?_; (with_reducible refine (spec_inRange.calls (wrap64 (bt a0 x3_1)) 32 126 true _ A5.out).mono ?_); rintro e w' ⟨rfl, ⟨nd, rfl⟩⟩; refine ⟨_, rfl, ?_⟩; have p7 : 0 ≤ (x3_1 : Int) := of_decide_eq_true (by first | (with_reducible assumption) | assumption); have q7 : x3_1 < (a0.size : Int) := of_decide_eq_true (by first | (with_reducible assumption) | assumption); have hx7 := bt_at a0 x3_1; replace p7 := eq_true p7; replace q7 := eq_true q7; have p9 : 0 ≤ (x3_1 : Int) := of_decide_eq_true (by first | (with_reducible assumption) | assumption); have q9 : x3_1 < (a0.size : Int) := of_decide_eq_true (by first | (with_reducible assumption) | assumption); have hx9 := bt_at a0 x3_1; replace p9 := eq_true p9; replace q9 := eq_true q9))
                go_roundg k1
                case measure => have := HK1.out; omega
                case rel => exact ⟨(wrap64 (x3_1 + 1)), (by first | rfl | (simp; done) | (simp [*]; done)), H', ⟨by have := HK1.out; omega⟩, by repeat (first | exact Drawn0.refl _ | apply Drawn0.step)⟩
          · replace c6 := Bool.eq_false_iff.mpr c6
            subst c6
            have H1 : (some false) = some r := by rw [if_neg (show ¬ (false = true) by decide)] at H; exact H
            clear H
            have H := H1
            clear H1
            obtain rfl := Option.some.inj H
            have p4 : 0 ≤ (x3_1 : Int) := of_decide_eq_true (by first | (with_reducible assumption) | assumption)
            have q4 : x3_1 < (a0.size : Int) := of_decide_eq_true (by first | (with_reducible assumption) | assumption)
            have hx4 := bt_at a0 x3_1
            replace p4 := eq_true p4
            replace q4 := eq_true q4
            go_wp2_with (first | ((with_reducible refine gate_callee (f := 47) rfl ?_); refine goesL_ (some 14) rfl rfl Tryd.func47 (by kernel_rfl) rfl #[.int .i64 (wrap64 (bt a0 x3_1)), .int .i64 32, .int .i64 126] rfl (by (try simp only [List.map_toArray, List.map_cons, List.map_nil]); first | done | rfl | (simp only [List.length_drop, List.length_take]; rfl)) ?_; (with_reducible refine (spec_inRange.calls (wrap64 (bt a0 x3_1)) 32 126 false _ A5.out).mono ?_); rintro e w' ⟨rfl, ⟨nd, rfl⟩⟩; refine ⟨_, rfl, ?_⟩))
            go_ret
            exact ⟨by first | rfl | (simp; done) | (simp [*]; done), by repeat (first | exact Drawn0.refl _ | apply Drawn0.step)⟩
        · rw [if_neg c3] at H
          exact absurd H (by simp)
      · rw [if_neg c2] at H
        have c2b0 : decide (x3_1 < (a0.size : Int)) = false := decide_eq_false c2
        clear c2
        replace H := Option.bind_eq_some_iff.mp H
        obtain ⟨t130, A110, H⟩ := H
        replace H : (some t130) = some r := H
        have A11 := Aside0.mk A110
        clear A110
        obtain rfl := Option.some.inj H
        go_wp2_with (first | ((with_reducible refine gate_callee (f := 47) rfl ?_); refine goesL_ (some 30) rfl rfl Tryd.func47 (by kernel_rfl) rfl #[.int .i64 (a0.size : Int), .int .i64 1, .int .i64 40] rfl (by (try simp only [List.map_toArray, List.map_cons, List.map_nil]); first | done | rfl | (simp only [List.length_drop, List.length_take]; rfl)) ?_; (with_reducible refine (spec_inRange.calls (a0.size : Int) 1 40 t130 _ A11.out).mono ?_); rintro e w' ⟨rfl, ⟨nd, rfl⟩⟩; refine ⟨_, rfl, ?_⟩))
        go_ret
        exact ⟨by first | rfl | (simp; done) | (simp [*]; done), by repeat (first | exact Drawn0.refl _ | apply Drawn0.step)⟩

/-! ### spec_checksum: function 51 -/
def spec_checksum.l0 : Nat → ByteArray → Int → Int → Option (Int)
  | 0, _, _, _ => none
  | k + 1, x0, x3, x4 => if x4 < (x0.size : Int) then (if 0 ≤ x4 then (spec_checksum.l0 k x0 (Go.bits .xor .i64 x3 (wrap64 (bt x0 x4))) (wrap64 (x4 + 1))) else (none)) else (some x3)
def spec_checksum.f (k : Nat) (a0 : ByteArray) : Option (Int) := spec_checksum.l0 k a0 0 0
theorem spec_checksum.mono_l : ∀ k, (∀ y0 y1 y2, LeO (spec_checksum.l0 k y0 y1 y2) (spec_checksum.l0 (k + 1) y0 y1 y2))
  | 0 => fun _ _ _ r h => by simp [spec_checksum.l0] at h
  | k + 1 => by
    have ih0 := spec_checksum.mono_l k
    · intro y0 y1 y2
      unfold spec_checksum.l0
      repeat' first
      | (with_reducible exact ih0 _ _ _)
      | (with_reducible exact LeO.refl _)
      | (with_reducible exact LeO.none _)
      | (with_reducible refine LeO.ite ?_ ?_)
      | (with_reducible refine LeO.bind ?_ (fun _ => ?_))
      | exact ih0 _ _ _
      | exact LeO.none _
      | refine LeO.ite ?_ ?_
      | refine LeO.bind ?_ (fun _ => ?_)
theorem spec_checksum.mono : ∀ a0 k, LeO (spec_checksum.f k a0) (spec_checksum.f (k + 1) a0) := by
  intro a0 k
  have ih0 := spec_checksum.mono_l k
  unfold spec_checksum.f
  repeat' first
      | (with_reducible exact ih0 _ _ _)
      | (with_reducible exact LeO.refl _)
      | (with_reducible exact LeO.none _)
      | (with_reducible refine LeO.ite ?_ ?_)
      | (with_reducible refine LeO.bind ?_ (fun _ => ?_))
      | exact ih0 _ _ _
      | exact LeO.none _
      | refine LeO.ite ?_ ?_
      | refine LeO.bind ?_ (fun _ => ?_)
set_option maxHeartbeats 8000000 in
set_option maxRecDepth 100000 in
theorem spec_checksum.calls (k : Nat) (a0 : ByteArray) (r : Int) (w : World) (h : spec_checksum.f k a0 = some r) :
    Calls Tryd.prog 51 #[.string a0] w fun e w' => e = .returned (.int .i64 r) ∧ Drawn0 w w' := by
  have H : (spec_checksum.l0 k a0 0 0) = some r := h
  clear h
  have H' := Aside0.mk H
  clear H
  go_enter Tryd.func51, Tryd.ntmps51
  go_wp2
  go_loopg [3, 4] k (fun kq v3 v4 w' => ∃ (x3_1 : Int) (x4_1 : Int), v3 = .int .i64 x3_1 ∧ v4 = .int .i64 x4_1 ∧ Aside0 (spec_checksum.l0 kq a0 x3_1 x4_1 = some r) ∧ Aside0 (kq ≤ k) ∧ Drawn0 w w')
  case atStart => exact ⟨(0), (0), (by first | rfl | (simp; done) | (simp [*]; done)), (by first | rfl | (simp; done) | (simp [*]; done)), H', ⟨Nat.le_refl _⟩, by repeat (first | exact Drawn0.refl _ | apply Drawn0.step)⟩
  case round =>
    clear H'
    obtain ⟨x3_1, x4_1, rfl, rfl, HA, HK1, ⟨m1, rfl⟩⟩ := hrel
    cases gk with
    | zero => exact absurd HA.out (by simp [spec_checksum.l0])
    | succ k1 =>
      have H := HA.out
      clear HA
      simp only [spec_checksum.l0] at H
      by_cases c2 : x4_1 < (a0.size : Int)
      · rw [if_pos c2] at H
        have c2b0 : decide (x4_1 < (a0.size : Int)) = true := decide_eq_true c2
        clear c2
        by_cases c3 : 0 ≤ x4_1
        · rw [if_pos c3] at H
          have c3b0 : decide (0 ≤ x4_1) = true := decide_eq_true c3
          clear c3
          have H' := Aside0.mk H
          clear H
          have p4 : 0 ≤ (x4_1 : Int) := of_decide_eq_true (by first | (with_reducible assumption) | assumption)
          have q4 : x4_1 < (a0.size : Int) := of_decide_eq_true (by first | (with_reducible assumption) | assumption)
          have hx4 := bt_at a0 x4_1
          replace p4 := eq_true p4
          replace q4 := eq_true q4
          go_wp2
          go_roundg k1
          case measure => have := HK1.out; omega
          case rel => exact ⟨(Go.bits .xor .i64 x3_1 (wrap64 (bt a0 x4_1))), (wrap64 (x4_1 + 1)), (by first | rfl | (simp; done) | (simp [*]; done)), (by first | rfl | (simp; done) | (simp [*]; done)), H', ⟨by have := HK1.out; omega⟩, by repeat (first | exact Drawn0.refl _ | apply Drawn0.step)⟩
        · rw [if_neg c3] at H
          exact absurd H (by simp)
      · rw [if_neg c2] at H
        have c2b0 : decide (x4_1 < (a0.size : Int)) = false := decide_eq_false c2
        clear c2
        obtain rfl := Option.some.inj H
        go_wp2
        go_ret
        exact ⟨by first | rfl | (simp; done) | (simp [*]; done), by repeat (first | exact Drawn0.refl _ | apply Drawn0.step)⟩

/-! ### spec_hexDigit: function 52 -/
def spec_hexDigit.f (a0 : Int) : Option (ByteArray) := if 0 ≤ a0 then (if a0 ≤ (wrap64 (a0 + 1)) then (if (wrap64 (a0 + 1)) ≤ 16 then (some ((⟨#[48, 49, 50, 51, 52, 53, 54, 55, 56, 57, 65, 66, 67, 68, 69, 70]⟩ : ByteArray).extract (a0 : Int).toNat ((wrap64 (a0 + 1)) : Int).toNat)) else (none)) else (none)) else (none)
set_option maxHeartbeats 8000000 in
set_option maxRecDepth 100000 in
theorem spec_hexDigit.calls (a0 : Int) (r : ByteArray) (w : World) (h : spec_hexDigit.f a0 = some r) :
    Calls Tryd.prog 52 #[.int .i64 a0] w fun e w' => e = .returned (.string r) ∧ Drawn0 w w' := by
  have H : (if 0 ≤ a0 then (if a0 ≤ (wrap64 (a0 + 1)) then (if (wrap64 (a0 + 1)) ≤ 16 then (some ((⟨#[48, 49, 50, 51, 52, 53, 54, 55, 56, 57, 65, 66, 67, 68, 69, 70]⟩ : ByteArray).extract (a0 : Int).toNat ((wrap64 (a0 + 1)) : Int).toNat)) else (none)) else (none)) else (none)) = some r := h
  clear h
  by_cases c2 : 0 ≤ a0
  · rw [if_pos c2] at H
    have c2b0 := eq_true c2
    have c2b1 : decide (0 ≤ a0) = true := decide_eq_true c2
    clear c2
    by_cases c3 : a0 ≤ (wrap64 (a0 + 1))
    · rw [if_pos c3] at H
      have c3b0 := eq_true c3
      have c3b1 : decide (a0 ≤ (wrap64 (a0 + 1))) = true := decide_eq_true c3
      by_cases c4 : (wrap64 (a0 + 1)) ≤ 16
      · rw [if_pos c4] at H
        have c4b0 := eq_true c4
        have c4b1 : decide ((wrap64 (a0 + 1)) ≤ 16) = true := decide_eq_true c4
        obtain rfl := Option.some.inj H
        go_enter Tryd.func52, Tryd.ntmps52
        go_wp2
        go_ret
        exact ⟨by first | rfl | (simp; done) | (simp [*]; done), by repeat (first | exact Drawn0.refl _ | apply Drawn0.step)⟩
      · rw [if_neg c4] at H
        exact absurd H (by simp)
    · rw [if_neg c3] at H
      exact absurd H (by simp)
  · rw [if_neg c2] at H
    exact absurd H (by simp)

/-! ### spec_FrameBody: function 32 -/
def spec_FrameBody.f (k : Nat) (a0 : ByteArray) : Option (ByteArray) := (spec_isBody.f k a0).bind fun t131 => (if t131 = true then ((spec_checksum.f k a0).bind fun t132 => (if 1 + a0.size ≤ 9223372036854775807 then (if ((⟨#[36]⟩ : ByteArray) ++ a0).size + 1 ≤ 9223372036854775807 then ((spec_hexDigit.f (wrap64 (Int.tdiv t132 16))).bind fun t133 => (if (((⟨#[36]⟩ : ByteArray) ++ a0) ++ (⟨#[42]⟩ : ByteArray)).size + t133.size ≤ 9223372036854775807 then ((spec_hexDigit.f (Int.tmod t132 16)).bind fun t134 => (if ((((⟨#[36]⟩ : ByteArray) ++ a0) ++ (⟨#[42]⟩ : ByteArray)) ++ t133).size + t134.size ≤ 9223372036854775807 then (some (((((⟨#[36]⟩ : ByteArray) ++ a0) ++ (⟨#[42]⟩ : ByteArray)) ++ t133) ++ t134)) else (none))) else (none))) else (none)) else (none))) else (some (⟨#[]⟩ : ByteArray)))
theorem spec_FrameBody.mono : ∀ a0 k, LeO (spec_FrameBody.f k a0) (spec_FrameBody.f (k + 1) a0) := by
  intro a0 k
  unfold spec_FrameBody.f
  repeat' first
      | (with_reducible exact spec_checksum.mono _ _)
      | (with_reducible exact spec_isBody.mono _ _)
      | (with_reducible exact LeO.refl _)
      | (with_reducible exact LeO.none _)
      | (with_reducible refine LeO.ite ?_ ?_)
      | (with_reducible refine LeO.bind ?_ (fun _ => ?_))
      | exact spec_checksum.mono _ _
      | exact spec_isBody.mono _ _
      | exact LeO.none _
      | refine LeO.ite ?_ ?_
      | refine LeO.bind ?_ (fun _ => ?_)
set_option maxHeartbeats 8000000 in
set_option maxRecDepth 100000 in
theorem spec_FrameBody.calls (k : Nat) (a0 : ByteArray) (r : ByteArray) (w : World) (h : spec_FrameBody.f k a0 = some r) :
    Calls Tryd.prog 32 #[.string a0] w fun e w' => e = .returned (.string r) ∧ Drawn0 w w' := by
  have H : ((spec_isBody.f k a0).bind fun t131 => (if t131 = true then ((spec_checksum.f k a0).bind fun t132 => (if 1 + a0.size ≤ 9223372036854775807 then (if ((⟨#[36]⟩ : ByteArray) ++ a0).size + 1 ≤ 9223372036854775807 then ((spec_hexDigit.f (wrap64 (Int.tdiv t132 16))).bind fun t133 => (if (((⟨#[36]⟩ : ByteArray) ++ a0) ++ (⟨#[42]⟩ : ByteArray)).size + t133.size ≤ 9223372036854775807 then ((spec_hexDigit.f (Int.tmod t132 16)).bind fun t134 => (if ((((⟨#[36]⟩ : ByteArray) ++ a0) ++ (⟨#[42]⟩ : ByteArray)) ++ t133).size + t134.size ≤ 9223372036854775807 then (some (((((⟨#[36]⟩ : ByteArray) ++ a0) ++ (⟨#[42]⟩ : ByteArray)) ++ t133) ++ t134)) else (none))) else (none))) else (none)) else (none))) else (some (⟨#[]⟩ : ByteArray)))) = some r := h
  clear h
  replace H := Option.bind_eq_some_iff.mp H
  obtain ⟨t131, A20, H⟩ := H
  replace H : (if t131 = true then ((spec_checksum.f k a0).bind fun t132 => (if 1 + a0.size ≤ 9223372036854775807 then (if ((⟨#[36]⟩ : ByteArray) ++ a0).size + 1 ≤ 9223372036854775807 then ((spec_hexDigit.f (wrap64 (Int.tdiv t132 16))).bind fun t133 => (if (((⟨#[36]⟩ : ByteArray) ++ a0) ++ (⟨#[42]⟩ : ByteArray)).size + t133.size ≤ 9223372036854775807 then ((spec_hexDigit.f (Int.tmod t132 16)).bind fun t134 => (if ((((⟨#[36]⟩ : ByteArray) ++ a0) ++ (⟨#[42]⟩ : ByteArray)) ++ t133).size + t134.size ≤ 9223372036854775807 then (some (((((⟨#[36]⟩ : ByteArray) ++ a0) ++ (⟨#[42]⟩ : ByteArray)) ++ t133) ++ t134)) else (none))) else (none))) else (none)) else (none))) else (some (⟨#[]⟩ : ByteArray))) = some r := H
  have A2 := Aside0.mk A20
  clear A20
  by_cases c3 : t131 = true
  · subst c3
    have H1 : ((spec_checksum.f k a0).bind fun t132 => (if 1 + a0.size ≤ 9223372036854775807 then (if ((⟨#[36]⟩ : ByteArray) ++ a0).size + 1 ≤ 9223372036854775807 then ((spec_hexDigit.f (wrap64 (Int.tdiv t132 16))).bind fun t133 => (if (((⟨#[36]⟩ : ByteArray) ++ a0) ++ (⟨#[42]⟩ : ByteArray)).size + t133.size ≤ 9223372036854775807 then ((spec_hexDigit.f (Int.tmod t132 16)).bind fun t134 => (if ((((⟨#[36]⟩ : ByteArray) ++ a0) ++ (⟨#[42]⟩ : ByteArray)) ++ t133).size + t134.size ≤ 9223372036854775807 then (some (((((⟨#[36]⟩ : ByteArray) ++ a0) ++ (⟨#[42]⟩ : ByteArray)) ++ t133) ++ t134)) else (none))) else (none))) else (none)) else (none))) = some r := by rw [if_pos rfl] at H; exact H
    clear H
    have H := H1
    clear H1
    replace H := Option.bind_eq_some_iff.mp H
    obtain ⟨t132, A40, H⟩ := H
    replace H : (if 1 + a0.size ≤ 9223372036854775807 then (if ((⟨#[36]⟩ : ByteArray) ++ a0).size + 1 ≤ 9223372036854775807 then ((spec_hexDigit.f (wrap64 (Int.tdiv t132 16))).bind fun t133 => (if (((⟨#[36]⟩ : ByteArray) ++ a0) ++ (⟨#[42]⟩ : ByteArray)).size + t133.size ≤ 9223372036854775807 then ((spec_hexDigit.f (Int.tmod t132 16)).bind fun t134 => (if ((((⟨#[36]⟩ : ByteArray) ++ a0) ++ (⟨#[42]⟩ : ByteArray)) ++ t133).size + t134.size ≤ 9223372036854775807 then (some (((((⟨#[36]⟩ : ByteArray) ++ a0) ++ (⟨#[42]⟩ : ByteArray)) ++ t133) ++ t134)) else (none))) else (none))) else (none)) else (none)) = some r := H
    have A4 := Aside0.mk A40
    clear A40
    by_cases c5 : 1 + a0.size ≤ 9223372036854775807
    · rw [if_pos c5] at H
      have c5b0 := eq_true c5
      have c5b1 : decide (1 + a0.size ≤ 9223372036854775807) = true := decide_eq_true c5
      try have c5b2 : (9223372036854775807 < 1 + a0.size) = False := eq_false (Nat.not_lt.2 c5)
      by_cases c6 : ((⟨#[36]⟩ : ByteArray) ++ a0).size + 1 ≤ 9223372036854775807
      · rw [if_pos c6] at H
        have c6b0 := eq_true c6
        have c6b1 : decide (((⟨#[36]⟩ : ByteArray) ++ a0).size + 1 ≤ 9223372036854775807) = true := decide_eq_true c6
        try have c6b2 : (9223372036854775807 < ((⟨#[36]⟩ : ByteArray) ++ a0).size + 1) = False := eq_false (Nat.not_lt.2 c6)
        try have c6b3 := c6b2
        try simp only [ByteArray.size_append, bsz, List.size_toArray, List.length_cons, List.length_nil, Nat.reduceAdd, Nat.zero_add, ByteArray.size_extract] at c6b3
        replace H := Option.bind_eq_some_iff.mp H
        obtain ⟨t133, A70, H⟩ := H
        replace H : (if (((⟨#[36]⟩ : ByteArray) ++ a0) ++ (⟨#[42]⟩ : ByteArray)).size + t133.size ≤ 9223372036854775807 then ((spec_hexDigit.f (Int.tmod t132 16)).bind fun t134 => (if ((((⟨#[36]⟩ : ByteArray) ++ a0) ++ (⟨#[42]⟩ : ByteArray)) ++ t133).size + t134.size ≤ 9223372036854775807 then (some (((((⟨#[36]⟩ : ByteArray) ++ a0) ++ (⟨#[42]⟩ : ByteArray)) ++ t133) ++ t134)) else (none))) else (none)) = some r := H
        have A7 := Aside0.mk A70
        clear A70
        by_cases c8 : (((⟨#[36]⟩ : ByteArray) ++ a0) ++ (⟨#[42]⟩ : ByteArray)).size + t133.size ≤ 9223372036854775807
        · rw [if_pos c8] at H
          have c8b0 := eq_true c8
          have c8b1 : decide ((((⟨#[36]⟩ : ByteArray) ++ a0) ++ (⟨#[42]⟩ : ByteArray)).size + t133.size ≤ 9223372036854775807) = true := decide_eq_true c8
          try have c8b2 : (9223372036854775807 < (((⟨#[36]⟩ : ByteArray) ++ a0) ++ (⟨#[42]⟩ : ByteArray)).size + t133.size) = False := eq_false (Nat.not_lt.2 c8)
          try have c8b3 := c8b2
          try simp only [ByteArray.size_append, bsz, List.size_toArray, List.length_cons, List.length_nil, Nat.reduceAdd, Nat.zero_add, ByteArray.size_extract] at c8b3
          replace H := Option.bind_eq_some_iff.mp H
          obtain ⟨t134, A90, H⟩ := H
          replace H : (if ((((⟨#[36]⟩ : ByteArray) ++ a0) ++ (⟨#[42]⟩ : ByteArray)) ++ t133).size + t134.size ≤ 9223372036854775807 then (some (((((⟨#[36]⟩ : ByteArray) ++ a0) ++ (⟨#[42]⟩ : ByteArray)) ++ t133) ++ t134)) else (none)) = some r := H
          have A9 := Aside0.mk A90
          clear A90
          by_cases c10 : ((((⟨#[36]⟩ : ByteArray) ++ a0) ++ (⟨#[42]⟩ : ByteArray)) ++ t133).size + t134.size ≤ 9223372036854775807
          · rw [if_pos c10] at H
            have c10b0 := eq_true c10
            have c10b1 : decide (((((⟨#[36]⟩ : ByteArray) ++ a0) ++ (⟨#[42]⟩ : ByteArray)) ++ t133).size + t134.size ≤ 9223372036854775807) = true := decide_eq_true c10
            try have c10b2 : (9223372036854775807 < ((((⟨#[36]⟩ : ByteArray) ++ a0) ++ (⟨#[42]⟩ : ByteArray)) ++ t133).size + t134.size) = False := eq_false (Nat.not_lt.2 c10)
            try have c10b3 := c10b2
            try simp only [ByteArray.size_append, bsz, List.size_toArray, List.length_cons, List.length_nil, Nat.reduceAdd, Nat.zero_add, ByteArray.size_extract] at c10b3
            obtain rfl := Option.some.inj H
            go_enter Tryd.func32, Tryd.ntmps32
            go_wp2_with (first | ((with_reducible refine gate_callee (f := 43) rfl ?_); refine goesL_ (some 5) rfl rfl Tryd.func43 (by kernel_rfl) rfl #[.string a0] rfl (by (try simp only [List.map_toArray, List.map_cons, List.map_nil]); first | done | rfl | (simp only [List.length_drop, List.length_take]; rfl)) ?_; (with_reducible refine (spec_isBody.calls k a0 true _ A2.out).mono ?_); rintro e w' ⟨rfl, ⟨nd, rfl⟩⟩; refine ⟨_, rfl, ?_⟩) | ((with_reducible refine gate_callee (f := 51) rfl ?_); refine goesL_ (some 8) rfl rfl Tryd.func51 (by kernel_rfl) rfl #[.string a0] rfl (by (try simp only [List.map_toArray, List.map_cons, List.map_nil]); first | done | rfl | (simp only [List.length_drop, List.length_take]; rfl)) ?_; (with_reducible refine (spec_checksum.calls k a0 t132 _ A4.out).mono ?_); rintro e w' ⟨rfl, ⟨nd, rfl⟩⟩; refine ⟨_, rfl, ?_⟩) | ((with_reducible refine gate_callee (f := 52) rfl ?_); refine goesL_ (some 14) rfl rfl Tryd.func52 (by kernel_rfl) rfl #[.int .i64 (wrap64 (Int.tdiv t132 16))] rfl (by (try simp only [List.map_toArray, List.map_cons, List.map_nil]); first | done | rfl | (simp only [List.length_drop, List.length_take]; rfl)) ?_; (with_reducible refine (spec_hexDigit.calls (wrap64 (Int.tdiv t132 16)) t133 _ A7.out).mono ?_); rintro e w' ⟨rfl, ⟨nd, rfl⟩⟩; refine ⟨_, rfl, ?_⟩) | ((with_reducible refine gate_callee (f := 52) rfl ?_); refine goesL_ (some 18) rfl rfl Tryd.func52 (by kernel_rfl) rfl #[.int .i64 (Int.tmod t132 16)] rfl (by (try simp only [List.map_toArray, List.map_cons, List.map_nil]); first | done | rfl | (simp only [List.length_drop, List.length_take]; rfl)) ?_; (with_reducible refine (spec_hexDigit.calls (Int.tmod t132 16) t134 _ A9.out).mono ?_); rintro e w' ⟨rfl, ⟨nd, rfl⟩⟩; refine ⟨_, rfl, ?_⟩))
            go_ret
            exact ⟨by first | rfl | (simp; done) | (simp [*]; done), by repeat (first | exact Drawn0.refl _ | apply Drawn0.step)⟩
          · rw [if_neg c10] at H
            exact absurd H (by simp)
        · rw [if_neg c8] at H
          exact absurd H (by simp)
      · rw [if_neg c6] at H
        exact absurd H (by simp)
    · rw [if_neg c5] at H
      exact absurd H (by simp)
  · replace c3 := Bool.eq_false_iff.mpr c3
    subst c3
    have H1 : (some (⟨#[]⟩ : ByteArray)) = some r := by rw [if_neg (show ¬ (false = true) by decide)] at H; exact H
    clear H
    have H := H1
    clear H1
    obtain rfl := Option.some.inj H
    go_enter Tryd.func32, Tryd.ntmps32
    go_wp2_with (first | ((with_reducible refine gate_callee (f := 43) rfl ?_); refine goesL_ (some 5) rfl rfl Tryd.func43 (by kernel_rfl) rfl #[.string a0] rfl (by (try simp only [List.map_toArray, List.map_cons, List.map_nil]); first | done | rfl | (simp only [List.length_drop, List.length_take]; rfl)) ?_; (with_reducible refine (spec_isBody.calls k a0 false _ A2.out).mono ?_); rintro e w' ⟨rfl, ⟨nd, rfl⟩⟩; refine ⟨_, rfl, ?_⟩))
    go_ret
    exact ⟨by first | rfl | (simp; done) | (simp [*]; done), by repeat (first | exact Drawn0.refl _ | apply Drawn0.step)⟩

/-! ### spec_ReadFrame: function 38 -/
def spec_ReadFrame.f (k : Nat) (a0 : ByteArray) : Option (ByteArray × Bool) := if (a0.size : Int) < 5 then (some ((⟨#[]⟩ : ByteArray), false)) else (if 1 ≤ (wrap64 ((a0.size : Int) - 3)) then (if (wrap64 ((a0.size : Int) - 3)) ≤ (a0.size : Int) then ((spec_isBody.f k (a0.extract 1 ((wrap64 ((a0.size : Int) - 3)) : Int).toNat)).bind fun t135 => (if t135 = true then ((spec_FrameBody.f k (a0.extract 1 ((wrap64 ((a0.size : Int) - 3)) : Int).toNat)).bind fun t136 => (if t136.toList = a0.toList then (some (a0.extract 1 ((wrap64 ((a0.size : Int) - 3)) : Int).toNat, true)) else (some ((⟨#[]⟩ : ByteArray), false)))) else (some ((⟨#[]⟩ : ByteArray), false)))) else (none)) else (none))
theorem spec_ReadFrame.mono : ∀ a0 k, LeO (spec_ReadFrame.f k a0) (spec_ReadFrame.f (k + 1) a0) := by
  intro a0 k
  unfold spec_ReadFrame.f
  repeat' first
      | (with_reducible exact spec_FrameBody.mono _ _)
      | (with_reducible exact spec_isBody.mono _ _)
      | (with_reducible exact LeO.refl _)
      | (with_reducible exact LeO.none _)
      | (with_reducible refine LeO.ite ?_ ?_)
      | (with_reducible refine LeO.bind ?_ (fun _ => ?_))
      | exact spec_FrameBody.mono _ _
      | exact spec_isBody.mono _ _
      | exact LeO.none _
      | refine LeO.ite ?_ ?_
      | refine LeO.bind ?_ (fun _ => ?_)
set_option maxHeartbeats 8000000 in
set_option maxRecDepth 100000 in
theorem spec_ReadFrame.calls (k : Nat) (a0 : ByteArray) (r1 : ByteArray) (r2 : Bool) (w : World) (h : spec_ReadFrame.f k a0 = some (r1, r2)) :
    Calls Tryd.prog 38 #[.string a0] w fun e w' => e = .returned (.tuple #[.string r1, .bool r2]) ∧ Drawn0 w w' := by
  have H : (if (a0.size : Int) < 5 then (some ((⟨#[]⟩ : ByteArray), false)) else (if 1 ≤ (wrap64 ((a0.size : Int) - 3)) then (if (wrap64 ((a0.size : Int) - 3)) ≤ (a0.size : Int) then ((spec_isBody.f k (a0.extract 1 ((wrap64 ((a0.size : Int) - 3)) : Int).toNat)).bind fun t135 => (if t135 = true then ((spec_FrameBody.f k (a0.extract 1 ((wrap64 ((a0.size : Int) - 3)) : Int).toNat)).bind fun t136 => (if t136.toList = a0.toList then (some (a0.extract 1 ((wrap64 ((a0.size : Int) - 3)) : Int).toNat, true)) else (some ((⟨#[]⟩ : ByteArray), false)))) else (some ((⟨#[]⟩ : ByteArray), false)))) else (none)) else (none))) = some (r1, r2) := h
  clear h
  by_cases c2 : (a0.size : Int) < 5
  · rw [if_pos c2] at H
    have c2b0 : decide ((a0.size : Int) < 5) = true := decide_eq_true c2
    have c2b1 : decide (a0.size < 5) = true := decide_eq_true (by omega)
    clear c2
    simp only [Option.some.injEq, Prod.mk.injEq] at H
    obtain ⟨rfl, rfl⟩ := H
    go_enter Tryd.func38, Tryd.ntmps38
    go_wp2
    go_ret2
    exact ⟨by first | rfl | (simp; done) | (simp [*]; done), by repeat (first | exact Drawn0.refl _ | apply Drawn0.step)⟩
  · rw [if_neg c2] at H
    have c2b0 : decide ((a0.size : Int) < 5) = false := decide_eq_false c2
    have c2b1 : decide (a0.size < 5) = false := decide_eq_false (by omega)
    clear c2
    by_cases c3 : 1 ≤ (wrap64 ((a0.size : Int) - 3))
    · rw [if_pos c3] at H
      have c3b0 := eq_true c3
      have c3b1 : decide (1 ≤ (wrap64 ((a0.size : Int) - 3))) = true := decide_eq_true c3
      clear c3
      by_cases c4 : (wrap64 ((a0.size : Int) - 3)) ≤ (a0.size : Int)
      · rw [if_pos c4] at H
        have c4b0 := eq_true c4
        have c4b1 : decide ((wrap64 ((a0.size : Int) - 3)) ≤ (a0.size : Int)) = true := decide_eq_true c4
        clear c4
        replace H := Option.bind_eq_some_iff.mp H
        obtain ⟨t135, A50, H⟩ := H
        replace H : (if t135 = true then ((spec_FrameBody.f k (a0.extract 1 ((wrap64 ((a0.size : Int) - 3)) : Int).toNat)).bind fun t136 => (if t136.toList = a0.toList then (some (a0.extract 1 ((wrap64 ((a0.size : Int) - 3)) : Int).toNat, true)) else (some ((⟨#[]⟩ : ByteArray), false)))) else (some ((⟨#[]⟩ : ByteArray), false))) = some (r1, r2) := H
        have A5 := Aside0.mk A50
        clear A50
        by_cases c6 : t135 = true
        · subst c6
          have H1 : ((spec_FrameBody.f k (a0.extract 1 ((wrap64 ((a0.size : Int) - 3)) : Int).toNat)).bind fun t136 => (if t136.toList = a0.toList then (some (a0.extract 1 ((wrap64 ((a0.size : Int) - 3)) : Int).toNat, true)) else (some ((⟨#[]⟩ : ByteArray), false)))) = some (r1, r2) := by rw [if_pos rfl] at H; exact H
          clear H
          have H := H1
          clear H1
          replace H := Option.bind_eq_some_iff.mp H
          obtain ⟨t136, A70, H⟩ := H
          replace H : (if t136.toList = a0.toList then (some (a0.extract 1 ((wrap64 ((a0.size : Int) - 3)) : Int).toNat, true)) else (some ((⟨#[]⟩ : ByteArray), false))) = some (r1, r2) := H
          have A7 := Aside0.mk A70
          clear A70
          by_cases c8 : t136.toList = a0.toList
          · rw [if_pos c8] at H
            have c8b0 : (t136.toList == a0.toList) = true := beq_iff_eq.mpr c8
            have c8b1 : (t136.toList != a0.toList) = false := bne_eq_false_iff_eq.mpr c8
            clear c8
            simp only [Option.some.injEq, Prod.mk.injEq] at H
            obtain ⟨rfl, rfl⟩ := H
            go_enter Tryd.func38, Tryd.ntmps38
            go_wp2_with (first | ((with_reducible refine gate_callee (f := 43) rfl ?_); refine goesL_ (some 14) rfl rfl Tryd.func43 (by kernel_rfl) rfl #[.string (a0.extract 1 ((wrap64 ((a0.size : Int) - 3)) : Int).toNat)] rfl (by (try simp only [List.map_toArray, List.map_cons, List.map_nil]); first | done | rfl | (simp only [List.length_drop, List.length_take]; rfl)) ?_; (with_reducible refine (spec_isBody.calls k (a0.extract 1 ((wrap64 ((a0.size : Int) - 3)) : Int).toNat) true _ A5.out).mono ?_); rintro e w' ⟨rfl, ⟨nd, rfl⟩⟩; refine ⟨_, rfl, ?_⟩) | (go_at_call 32; (with_reducible refine (spec_FrameBody.calls k (a0.extract 1 ((wrap64 ((a0.size : Int) - 3)) : Int).toNat) t136 _ A7.out).mono ?_); rintro e w' ⟨rfl, ⟨nd, rfl⟩⟩))
            go_ret2
            exact ⟨by first | rfl | (simp; done) | (simp [*]; done), by repeat (first | exact Drawn0.refl _ | apply Drawn0.step)⟩
          · rw [if_neg c8] at H
            have c8b0 : (t136.toList == a0.toList) = false := beq_eq_false_iff_ne.mpr c8
            have c8b1 : (t136.toList != a0.toList) = true := bne_iff_ne.mpr c8
            simp only [Option.some.injEq, Prod.mk.injEq] at H
            obtain ⟨rfl, rfl⟩ := H
            go_enter Tryd.func38, Tryd.ntmps38
            go_wp2_with (first | ((with_reducible refine gate_callee (f := 43) rfl ?_); refine goesL_ (some 14) rfl rfl Tryd.func43 (by kernel_rfl) rfl #[.string (a0.extract 1 ((wrap64 ((a0.size : Int) - 3)) : Int).toNat)] rfl (by (try simp only [List.map_toArray, List.map_cons, List.map_nil]); first | done | rfl | (simp only [List.length_drop, List.length_take]; rfl)) ?_; (with_reducible refine (spec_isBody.calls k (a0.extract 1 ((wrap64 ((a0.size : Int) - 3)) : Int).toNat) true _ A5.out).mono ?_); rintro e w' ⟨rfl, ⟨nd, rfl⟩⟩; refine ⟨_, rfl, ?_⟩) | (go_at_call 32; (with_reducible refine (spec_FrameBody.calls k (a0.extract 1 ((wrap64 ((a0.size : Int) - 3)) : Int).toNat) t136 _ A7.out).mono ?_); rintro e w' ⟨rfl, ⟨nd, rfl⟩⟩))
            go_ret2
            exact ⟨by first | rfl | (simp; done) | (simp [*]; done), by repeat (first | exact Drawn0.refl _ | apply Drawn0.step)⟩
        · replace c6 := Bool.eq_false_iff.mpr c6
          subst c6
          have H1 : (some ((⟨#[]⟩ : ByteArray), false)) = some (r1, r2) := by rw [if_neg (show ¬ (false = true) by decide)] at H; exact H
          clear H
          have H := H1
          clear H1
          simp only [Option.some.injEq, Prod.mk.injEq] at H
          obtain ⟨rfl, rfl⟩ := H
          go_enter Tryd.func38, Tryd.ntmps38
          go_wp2_with (first | ((with_reducible refine gate_callee (f := 43) rfl ?_); refine goesL_ (some 14) rfl rfl Tryd.func43 (by kernel_rfl) rfl #[.string (a0.extract 1 ((wrap64 ((a0.size : Int) - 3)) : Int).toNat)] rfl (by (try simp only [List.map_toArray, List.map_cons, List.map_nil]); first | done | rfl | (simp only [List.length_drop, List.length_take]; rfl)) ?_; (with_reducible refine (spec_isBody.calls k (a0.extract 1 ((wrap64 ((a0.size : Int) - 3)) : Int).toNat) false _ A5.out).mono ?_); rintro e w' ⟨rfl, ⟨nd, rfl⟩⟩; refine ⟨_, rfl, ?_⟩))
          go_ret2
          exact ⟨by first | rfl | (simp; done) | (simp [*]; done), by repeat (first | exact Drawn0.refl _ | apply Drawn0.step)⟩
      · rw [if_neg c4] at H
        exact absurd H (by simp)
    · rw [if_neg c3] at H
      exact absurd H (by simp)

/-! ### spec_leap: function 74 -/
def spec_leap.f (a0 : Int) : Option (Bool) := if (Int.tmod a0 4) = 0 then (if (Int.tmod a0 100) = 0 then (some ((Int.tmod a0 400) == 0)) else (some true)) else (some ((Int.tmod a0 400) == 0))
set_option maxHeartbeats 8000000 in
set_option maxRecDepth 100000 in
theorem spec_leap.calls (a0 : Int) (r : Bool) (w : World) (h : spec_leap.f a0 = some r) :
    Calls Tryd.prog 74 #[.int .i64 a0] w fun e w' => e = .returned (.bool r) ∧ Drawn0 w w' := by
  have H : (if (Int.tmod a0 4) = 0 then (if (Int.tmod a0 100) = 0 then (some ((Int.tmod a0 400) == 0)) else (some true)) else (some ((Int.tmod a0 400) == 0))) = some r := h
  clear h
  by_cases c2 : (Int.tmod a0 4) = 0
  · rw [if_pos c2] at H
    have c2b0 : ((Int.tmod a0 4) == 0) = true := beq_iff_eq.mpr c2
    have c2b1 : ((Int.tmod a0 4) != 0) = false := bne_eq_false_iff_eq.mpr c2
    clear c2
    by_cases c3 : (Int.tmod a0 100) = 0
    · rw [if_pos c3] at H
      have c3b0 : ((Int.tmod a0 100) == 0) = true := beq_iff_eq.mpr c3
      have c3b1 : ((Int.tmod a0 100) != 0) = false := bne_eq_false_iff_eq.mpr c3
      clear c3
      obtain rfl := Option.some.inj H
      go_enter Tryd.func74, Tryd.ntmps74
      go_wp2
      go_ret
      exact ⟨by first | rfl | (simp; done) | (simp [*]; done), by repeat (first | exact Drawn0.refl _ | apply Drawn0.step)⟩
    · rw [if_neg c3] at H
      have c3b0 : ((Int.tmod a0 100) == 0) = false := beq_eq_false_iff_ne.mpr c3
      have c3b1 : ((Int.tmod a0 100) != 0) = true := bne_iff_ne.mpr c3
      obtain rfl := Option.some.inj H
      go_enter Tryd.func74, Tryd.ntmps74
      go_wp2
      go_ret
      exact ⟨by first | rfl | (simp; done) | (simp [*]; done), by repeat (first | exact Drawn0.refl _ | apply Drawn0.step)⟩
  · rw [if_neg c2] at H
    have c2b0 : ((Int.tmod a0 4) == 0) = false := beq_eq_false_iff_ne.mpr c2
    have c2b1 : ((Int.tmod a0 4) != 0) = true := bne_iff_ne.mpr c2
    obtain rfl := Option.some.inj H
    go_enter Tryd.func74, Tryd.ntmps74
    go_wp2
    go_ret
    exact ⟨by first | rfl | (simp; done) | (simp [*]; done), by repeat (first | exact Drawn0.refl _ | apply Drawn0.step)⟩

end Go.Proofs.YtdggcfpimjdckaaDoor.PFnFixCanonical
