-- Out of a print of the walks, turned by a program of this session; Lean checks it.
import Derived.Test.YtdggcfpimjdckaaGreatDoorPFnExactRunSessionx0
import Derived.Test.YtdggcfpimjdckaaGreatDoorPFnExactRunSessionx4
import Derived.Test.YtdggcfpimjdckaaGreatDoorPFnExactRunSessionx8
import Derived.Test.YtdggcfpimjdckaaGreatDoorPFnExactRunSessionx9
namespace Go.Proofs.YtdggcfpimjdckaaGreatDoor.PFnExactRunSession
open Go.RowKit Go.Proofs.YtdggcfpimjdckaaGreatDoorW.PrintWords Go.Proofs.YtdggcfpimjdckaaGreatDoorW.PrintLast Go.Proofs.YtdggcfpimjdckaaGreatDoorW.PrintMore
attribute [local go_sem] max2_int min2_int max_two min_two max_three min_three max_four min_four   -- for this text's walks alone
set_option linter.unusedVariables false
set_option linter.unusedSimpArgs false

private theorem z1_ {p : Prop} (h : p := by (with_reducible repeat (first | refine blk_drewN ?_ _ | refine blk_drew ?_ | refine blk_alloc ?_ _)); refine blk_put (cs := #[.int .i64 0, .int .i64 0, .int .i64 0, .int .i64 0, .int .i64 0]) ?_ 4 _ rfl; (with_reducible repeat (first | refine blk_drewN ?_ _ | refine blk_drew ?_ | refine blk_alloc ?_ _)); refine blk_put (cs := #[.int .i64 0, .int .i64 0, .int .i64 0, .int .i64 0, .int .i64 0]) ?_ 3 _ rfl; (with_reducible repeat (first | refine blk_drewN ?_ _ | refine blk_drew ?_ | refine blk_alloc ?_ _)); refine blk_put (cs := #[.int .i64 0, .int .i64 0, .int .i64 0, .int .i64 0, .int .i64 0]) ?_ 2 _ rfl; (with_reducible repeat (first | refine blk_drewN ?_ _ | refine blk_drew ?_ | refine blk_alloc ?_ _)); refine blk_put (cs := #[.int .i64 0, .int .i64 0, .int .i64 0, .int .i64 0, .int .i64 0]) ?_ 1 _ rfl; (with_reducible repeat (first | refine blk_drewN ?_ _ | refine blk_drew ?_ | refine blk_alloc ?_ _)); refine blk_put (cs := #[.int .i64 0, .int .i64 0, .int .i64 0, .int .i64 0, .int .i64 0]) ?_ 0 _ rfl; (with_reducible repeat (first | refine blk_drewN ?_ _ | refine blk_drew ?_ | refine blk_alloc ?_ _)); exact BK1.out) : p := h
private theorem z2_ {p : Prop} (h : p := by rw [hg]; exact (below_size (by repeat (first | (with_reducible first | exact HB.out | apply below_alloc | apply pw_below_drewN | apply below_drew1 | refine below_set ?_ GE1.out) | exact HB.out)))) : p := h
private theorem z3_ {p : Prop} (h : p := by rw [hg]; exact (below_size (by repeat (first | (with_reducible first | exact HB.out | apply below_alloc | apply pw_below_drewN | apply below_drew1) | exact HB.out)))) : p := h
private theorem z4_ {p : Prop} (h : p := by repeat (first | (with_reducible first | exact HB.out | apply below_alloc | apply pw_below_drewN | apply below_drew1 | refine below_set ?_ GE260.out) | exact HB.out)) : p := h
private theorem z5_ {p : Prop} (h : p := by repeat (first | (with_reducible first | exact HB.out | apply below_alloc | apply pw_below_drewN | apply below_drew1 | refine below_set ?_ GE1.out) | exact HB.out)) : p := h
private theorem z6_ {p : Prop} (h : p := by (try simp only [List.map_toArray, List.map_cons, List.map_nil]); first | done | rfl | (simp only [List.length_drop, List.length_take]; rfl)) : p := h
private theorem z7_ {p : Prop} (h : p := by repeat (first | (with_reducible first | exact HB.out | apply below_alloc | apply pw_below_drewN | apply below_drew1) | exact HB.out)) : p := h
private theorem z8_ {p : Prop} (h : p := by (with_reducible repeat (first | refine blk_drewN ?_ _ | refine blk_drew ?_ | refine blk_alloc ?_ _)); exact BK260.out) : p := h
private theorem z9_ {p : Prop} (h : p := by (with_reducible repeat (first | refine blk_drewN ?_ _ | refine blk_drew ?_ | refine blk_alloc ?_ _)); exact BK1.out) : p := h
private theorem z10_ {p : Prop} (h : p := by first | rfl | (simp [errW_none, errW_some] <;> rfl) | (simp [*, errW_none, errW_some] <;> rfl)) : p := h
private theorem z11_ {p : Prop} (h : p := by first | rfl | (simp; done) | (simp only [← hji5] <;> (first | rfl | simp)) | (simp [*]; done)) : p := h
private theorem z12_ {p : Prop} (h : p := by repeat (first | exact Drawn0.refl _ | apply Drawn0.step)) : p := h
private theorem z13_ {p : Prop} (h : p := by first | (with_reducible assumption) | assumption) : p := h
private theorem z14_ {p : Prop} (h : p := by first | rfl | (simp; done) | (simp [*]; done)) : p := h
/-! ### impl_ParseFix: function 40 -/
def impl_ParseFix.z : Option (Int × Int × Int × Int × Int × Bool) := some (0, 0, 0, 0, 0, false)
/-- The second of the day that six digits spell. -/
def secOf (n : Int) : Int := wrap64 ((wrap64 ((wrap64 ((wrap64 (Int.tdiv n 10000)) * 3600)) + (wrap64 ((Int.tmod (wrap64 (Int.tdiv n 100)) 100) * 60)))) + (Int.tmod n 100))
def impl_ParseFix.g (k : Nat) (a0 : ByteArray) (n0 n1 n2 n3 n4 : Int) : Option (Int × Int × Int × Int × Int × Bool) := (impl_FormatFix.f k n3 n2 n1 (secOf n0) n4).bind fun t => (if t.toList = a0.toList then (some (n3, n2, n1, secOf n0, n4, true)) else impl_ParseFix.z)
def impl_ParseFix.w (k : Nat) (a0 : ByteArray) (ws : List ByteArray) : Option (Int × Int × Int × Int × Int × Bool) := match ws with
  | [_, s1, s2, s3, s4, s5] => (match atoiN s1, atoiN s2, atoiN s3, atoiN s4, atoiN s5 with
    | some n0, some n1, some n2, some n3, some n4 => impl_ParseFix.g k a0 n0 n1 n2 n3 n4
    | _, _, _, _, _ => impl_ParseFix.z)
  | _ => impl_ParseFix.z
def impl_ParseFix.f (k : Nat) (a0 : ByteArray) : Option (Int × Int × Int × Int × Int × Bool) := (impl_ReadFrame.f k a0).bind fun bt => (if bt.1.size < 4294967281 ∧ ∀ x ∈ wordsOf bt.1 (⟨#[44]⟩ : ByteArray), x.size ≤ 281474976710656 then (if bt.2 = true then impl_ParseFix.w k a0 (wordsOf bt.1 (⟨#[44]⟩ : ByteArray)) else impl_ParseFix.z) else none)
/-- What the walk knows of its world: the result's block, the words' row, the numbers' array, and that nothing below has turned. -/
def impl_ParseFix.St (w W : World) (gf gw gn : Nat) (cw cn : Array Value) : Prop := W.heap[gf]? = some (.cells #[.int .i64 0, .int .i64 0, .int .i64 0, .int .i64 0, .int .i64 0] 44 (0, 0)) ∧ W.heap[gw]? = some (.cells cw 9 (0, 0)) ∧ W.heap[gn]? = some (.cells cn 79 (0, 0)) ∧ Below w.heap.size w W
theorem impl_ParseFix.St.put {w W : World} {gf gw gn : Nat} {cw cn cn' : Array Value} (h : impl_ParseFix.St w W gf gw gn cw cn) (hg : w.heap.size ≤ gn) (i : Nat) (v : Value) (e : cn.setIfInBounds i v = cn') : impl_ParseFix.St w (W.setCell ⟨gn, i, none⟩ v) gf gw gn cw cn' :=
  ⟨blk_far h.1 (p := ⟨gn, i, none⟩) (blk_ne h.1 h.2.2.1 (by decide)) v, blk_far h.2.1 (p := ⟨gn, i, none⟩) (blk_ne h.2.1 h.2.2.1 (by decide)) v, blk_put h.2.2.1 i v e, below_set h.2.2.2 hg⟩
theorem impl_ParseFix.St.below {w W W' : World} {gf gw gn : Nat} {cw cn : Array Value} (h : impl_ParseFix.St w W gf gw gn cw cn) (hb : Below W.heap.size W W') : impl_ParseFix.St w W' gf gw gn cw cn :=
  ⟨blk_below h.1 hb, blk_below h.2.1 hb, blk_below h.2.2.1 hb, below_step h.2.2.2 hb⟩
set_option maxHeartbeats 8000000 in
set_option maxRecDepth 100000 in
theorem impl_ParseFix.calls (k : Nat) (a0 : ByteArray) (r1 : Int) (r2 : Int) (r3 : Int) (r4 : Int) (r5 : Int) (r6 : Bool) (w : World) (htb_ : Tc w) (h : impl_ParseFix.f k a0 = some (r1, r2, r3, r4, r5, r6)) :
    Calls Tryz.prog 40 #[.string a0] w fun e w' => e = .returned (.tuple #[.agg #[.int .i64 r1, .int .i64 r2, .int .i64 r3, .int .i64 r4, .int .i64 r5], .bool r6]) ∧ Below w.heap.size w w' := by
  have hu44 := Tryz.underlying44
  have hu42 := Tryz.underlying42
  have HB := Aside0.mk (Below.refl w.heap.size w)
  have HTB := Aside0.mk htb_
  clear htb_
  obtain ⟨⟨bd, ok⟩, hA1, h⟩ := Option.bind_eq_some_iff.mp h
  have A1 := Aside0.mk hA1
  clear hA1
  by_cases hsz : bd.size < 4294967281 ∧ ∀ x ∈ wordsOf bd (⟨#[44]⟩ : ByteArray), x.size ≤ 281474976710656
  rotate_left
  · rw [if_neg hsz] at h; cases h
  rw [if_pos hsz] at h
  obtain ⟨hs1, hs2⟩ := hsz
  have HSP := Aside0.mk (fun (W : World) (hT : Tc W) => split_calls bd (⟨#[44]⟩ : ByteArray) W hT hs1 (by decide))
  generalize wordsOf bd (⟨#[44]⟩ : ByteArray) = ws at h hs2 HSP
  go_enter Tryz.func40, Tryz.ntmps40
  go_upto_region 3 with (first | ((with_reducible refine gate_dst (N := 2) rfl ?_); (try (refine gate_guard (by rfl) ?_; dsimp only)); refine box_event ?hg2 (N := 2) ?hd2 (cs := #[.int .i64 0, .int .i64 0, .int .i64 0, .int .i64 0, .int .i64 0]) (t := 44) ?hr2 ?_; (case hd2 => rfl); (case hg2 => rfl); (case hr2 => first | (go_simp; done) | (go_simp; rfl)); intro gf hg wb2 hbox hb; have n0_ := Aside0.mk (below_step (z7_) hb); have n1_ := Aside0.mk (hbox); have n2_ := Aside0.mk ((z3_ : w.heap.size ≤ gf)); clear HB; have HB := n0_; have BK1 := n1_; have GE1 := n2_; clear n0_ n1_ n2_; clear hb hbox hg; have hc2_0 : wb2.cell? ⟨gf, 0, none⟩ = some (.int .i64 0) := (blk_cell BK1.out 0).trans rfl; have hf2_0 := blk_frozen BK1.out 0; have hc2_1 : wb2.cell? ⟨gf, 1, none⟩ = some (.int .i64 0) := (blk_cell BK1.out 1).trans rfl; have hf2_1 := blk_frozen BK1.out 1; have hc2_2 : wb2.cell? ⟨gf, 2, none⟩ = some (.int .i64 0) := (blk_cell BK1.out 2).trans rfl; have hf2_2 := blk_frozen BK1.out 2; have hc2_3 : wb2.cell? ⟨gf, 3, none⟩ = some (.int .i64 0) := (blk_cell BK1.out 3).trans rfl; have hf2_3 := blk_frozen BK1.out 3; have hc2_4 : wb2.cell? ⟨gf, 4, none⟩ = some (.int .i64 0) := (blk_cell BK1.out 4).trans rfl; have hf2_4 := blk_frozen BK1.out 4) | (go_at_call 63; (with_reducible refine (impl_ReadFrame.calls k a0 bd ok _ A1.out).mono ?_); rintro e w' ⟨rfl, ⟨nd, rfl⟩⟩) | (go_at_call 22; (with_reducible refine (HSP.out _ (Tc.keep HTB.out (z5_))).mono ?_); rintro e ws_ ⟨gw, rfl, hgw, hgs, hb⟩; have n0_ := Aside0.mk (below_step (z5_) hb); have n1_ := Aside0.mk (blk_below (z9_) hb); have n2_ := Aside0.mk hgw; clear HB BK1 hb hgw hgs; have HB := n0_; have BK1 := n1_; have BKW := n2_; clear n0_ n1_ n2_))
  by_cases hok : ok = true
  rotate_left
  · rw [if_neg hok] at h
    obtain rfl : ok = false := Bool.eq_false_iff.2 hok
    unfold impl_ParseFix.z at h
    simp only [Option.some.injEq, Prod.mk.injEq] at h
    obtain ⟨rfl, rfl, rfl, rfl, rfl, rfl⟩ := h
    have zc0 : ws_.cell? ⟨gf, 0, none⟩ = some (.int .i64 0) := (blk_cell BK1.out 0).trans rfl
    have zc1 : ws_.cell? ⟨gf, 1, none⟩ = some (.int .i64 0) := (blk_cell BK1.out 1).trans rfl
    have zc2 : ws_.cell? ⟨gf, 2, none⟩ = some (.int .i64 0) := (blk_cell BK1.out 2).trans rfl
    have zc3 : ws_.cell? ⟨gf, 3, none⟩ = some (.int .i64 0) := (blk_cell BK1.out 3).trans rfl
    have zc4 : ws_.cell? ⟨gf, 4, none⟩ = some (.int .i64 0) := (blk_cell BK1.out 4).trans rfl
    have zf0 := blk_frozen BK1.out 0
    have zf1 := blk_frozen BK1.out 1
    have zf2 := blk_frozen BK1.out 2
    have zf3 := blk_frozen BK1.out 3
    have zf4 := blk_frozen BK1.out 4
    go_wp2
    refine bodyPost_ret (results_ct rfl _ _ gf 44 #[.int .i64 0, .int .i64 0, .int .i64 0, .int .i64 0, .int .i64 0] (0, 0) _ rfl (z1_) Tryz.underlying44 rfl (by kernel_rfl)) rfl ?_
    exact ⟨z10_, z5_⟩
  subst hok
  rw [if_pos rfl] at h
  by_cases hlen : ws.length = 6
  rotate_left
  · have hw : impl_ParseFix.w k a0 ws = impl_ParseFix.z := by
      unfold impl_ParseFix.w
      split
      · simp at hlen
      · rfl
    rw [hw] at h
    have hlb : ((ws.length : Int) == 6) = false := beq_eq_false_iff_ne.2 (by omega)
    have hlc : ((ws.length : Int) != 6) = true := by rw [bne, hlb]; rfl
    have hld : ¬ ((ws.length : Int) = 6) := by omega
    have hle : ¬ (ws.length = 6) := hlen
    unfold impl_ParseFix.z at h
    simp only [Option.some.injEq, Prod.mk.injEq] at h
    obtain ⟨rfl, rfl, rfl, rfl, rfl, rfl⟩ := h
    have zc0 : ws_.cell? ⟨gf, 0, none⟩ = some (.int .i64 0) := (blk_cell BK1.out 0).trans rfl
    have zc1 : ws_.cell? ⟨gf, 1, none⟩ = some (.int .i64 0) := (blk_cell BK1.out 1).trans rfl
    have zc2 : ws_.cell? ⟨gf, 2, none⟩ = some (.int .i64 0) := (blk_cell BK1.out 2).trans rfl
    have zc3 : ws_.cell? ⟨gf, 3, none⟩ = some (.int .i64 0) := (blk_cell BK1.out 3).trans rfl
    have zc4 : ws_.cell? ⟨gf, 4, none⟩ = some (.int .i64 0) := (blk_cell BK1.out 4).trans rfl
    have zf0 := blk_frozen BK1.out 0
    have zf1 := blk_frozen BK1.out 1
    have zf2 := blk_frozen BK1.out 2
    have zf3 := blk_frozen BK1.out 3
    have zf4 := blk_frozen BK1.out 4
    go_wp2
    refine bodyPost_ret (results_ct rfl _ _ gf 44 #[.int .i64 0, .int .i64 0, .int .i64 0, .int .i64 0, .int .i64 0] (0, 0) _ rfl (z1_) Tryz.underlying44 rfl (by kernel_rfl)) rfl ?_
    exact ⟨z10_, z5_⟩
  obtain ⟨s0, s1, s2, s3, s4, s5, rfl⟩ : ∃ s0 s1 s2 s3 s4 s5, ws = [s0, s1, s2, s3, s4, s5] := by
    match ws, hlen with
    | [s0, s1, s2, s3, s4, s5], _ => exact ⟨s0, s1, s2, s3, s4, s5, rfl⟩
  have n0_ := Aside0.mk (show ws_.heap[gw]? = some (.cells #[.string s0, .string s1, .string s2, .string s3, .string s4, .string s5] 9 (0, 0)) from BKW.out)
  clear BKW hlen
  have BKW := n0_
  clear n0_
  go_wp2_with (first | ((with_reducible refine gate_dst (N := 7) rfl ?_); (try (refine gate_guard (by rfl) ?_; dsimp only)); refine box_event ?hg7 (N := 7) ?hd7 (cs := #[.int .i64 0, .int .i64 0, .int .i64 0, .int .i64 0, .int .i64 0]) (t := 79) ?hr7 ?_; (case hd7 => rfl); (case hg7 => rfl); (case hr7 => first | (go_simp; done) | (go_simp; rfl)); intro gn hg wb7 hbox hb; have n0_ := Aside0.mk (below_step (z5_) hb); have n1_ := Aside0.mk (hbox); have n2_ := Aside0.mk ((z2_ : w.heap.size ≤ gn)); have n3_ := Aside0.mk (blk_below (z9_) hb); have n4_ := Aside0.mk (blk_below (by (with_reducible repeat (first | refine blk_drewN ?_ _ | refine blk_drew ?_ | refine blk_alloc ?_ _)); exact BKW.out) hb); clear BK1 BKW; have BK1 := n3_; have BKW := n4_; clear n3_ n4_; clear HB; have HB := n0_; have BK2 := n1_; have GE2 := n2_; clear n0_ n1_ n2_; clear hb hbox hg; have hc7_0 : wb7.cell? ⟨gn, 0, none⟩ = some (.int .i64 0) := (blk_cell BK2.out 0).trans rfl; have hf7_0 := blk_frozen BK2.out 0; have hc7_1 : wb7.cell? ⟨gn, 1, none⟩ = some (.int .i64 0) := (blk_cell BK2.out 1).trans rfl; have hf7_1 := blk_frozen BK2.out 1; have hc7_2 : wb7.cell? ⟨gn, 2, none⟩ = some (.int .i64 0) := (blk_cell BK2.out 2).trans rfl; have hf7_2 := blk_frozen BK2.out 2; have hc7_3 : wb7.cell? ⟨gn, 3, none⟩ = some (.int .i64 0) := (blk_cell BK2.out 3).trans rfl; have hf7_3 := blk_frozen BK2.out 3; have hc7_4 : wb7.cell? ⟨gn, 4, none⟩ = some (.int .i64 0) := (blk_cell BK2.out 4).trans rfl; have hf7_4 := blk_frozen BK2.out 4))
  have ST := Aside0.mk (impl_ParseFix.St.put (impl_ParseFix.St.put (impl_ParseFix.St.put (impl_ParseFix.St.put (impl_ParseFix.St.put ((⟨BK1.out, BKW.out, BK2.out, HB.out⟩ : impl_ParseFix.St w wb7 gf gw gn #[.string s0, .string s1, .string s2, .string s3, .string s4, .string s5] #[.int .i64 0, .int .i64 0, .int .i64 0, .int .i64 0, .int .i64 0])) GE2.out 0 (.int .i64 0) (cn' := #[.int .i64 0, .int .i64 0, .int .i64 0, .int .i64 0, .int .i64 0]) rfl) GE2.out 1 (.int .i64 0) (cn' := #[.int .i64 0, .int .i64 0, .int .i64 0, .int .i64 0, .int .i64 0]) rfl) GE2.out 2 (.int .i64 0) (cn' := #[.int .i64 0, .int .i64 0, .int .i64 0, .int .i64 0, .int .i64 0]) rfl) GE2.out 3 (.int .i64 0) (cn' := #[.int .i64 0, .int .i64 0, .int .i64 0, .int .i64 0, .int .i64 0]) rfl) GE2.out 4 (.int .i64 0) (cn' := #[.int .i64 0, .int .i64 0, .int .i64 0, .int .i64 0, .int .i64 0]) rfl)
  generalize (((((wb7.setCell ⟨gn, 0, none⟩ (.int .i64 0)).setCell ⟨gn, 1, none⟩ (.int .i64 0)).setCell ⟨gn, 2, none⟩ (.int .i64 0)).setCell ⟨gn, 3, none⟩ (.int .i64 0)).setCell ⟨gn, 4, none⟩ (.int .i64 0)) = wl0 at ST ⊢
  clear BK1 BK2 BKW HB HSP hc7_0 hf7_0 hc2_0 hf2_0 hc7_1 hf7_1 hc2_1 hf2_1 hc7_2 hf7_2 hc2_2 hf2_2 hc7_3 hf7_3 hc2_3 hf2_3 hc7_4 hf7_4 hc2_4 hf2_4
  refine wp_loop_rounds 6 ?_
  rw [rounds_succ]
  have hw0 : wl0.cell? ⟨gw, 1, none⟩ = some (.string s1) := (blk_cell ST.out.2.1 1).trans rfl
  have hl0 : s1.size ≤ 281474976710656 := hs2 _ (by simp)
  cases hn0 : atoiN s1 with
  | none =>
    have hw : impl_ParseFix.w k a0 [s0, s1, s2, s3, s4, s5] = impl_ParseFix.z := by
      unfold impl_ParseFix.w
      simp only [hn0]
    rw [hw] at h
    unfold impl_ParseFix.z at h
    simp only [Option.some.injEq, Prod.mk.injEq] at h
    obtain ⟨rfl, rfl, rfl, rfl, rfl, rfl⟩ := h
    have HTJ := Aside0.mk (Tc.keep HTB.out ST.out.2.2.2)
    go_wp2_with (first | (go_at_call 44; (with_reducible refine (atoi_no s1 _ HTJ.out hl0 hn0).mono ?_); rintro e wa ⟨x_, N_, rfl, hb⟩; have n0_ := Aside0.mk (ST.out.below hb); clear ST hb; have ST := n0_; clear n0_; have BK1 := Aside0.mk ST.out.1; have HB := Aside0.mk ST.out.2.2.2; have zc0 : wa.cell? ⟨gf, 0, none⟩ = some (.int .i64 0) := (blk_cell BK1.out 0).trans rfl; have zf0 := blk_frozen BK1.out 0; have zc1 : wa.cell? ⟨gf, 1, none⟩ = some (.int .i64 0) := (blk_cell BK1.out 1).trans rfl; have zf1 := blk_frozen BK1.out 1; have zc2 : wa.cell? ⟨gf, 2, none⟩ = some (.int .i64 0) := (blk_cell BK1.out 2).trans rfl; have zf2 := blk_frozen BK1.out 2; have zc3 : wa.cell? ⟨gf, 3, none⟩ = some (.int .i64 0) := (blk_cell BK1.out 3).trans rfl; have zf3 := blk_frozen BK1.out 3; have zc4 : wa.cell? ⟨gf, 4, none⟩ = some (.int .i64 0) := (blk_cell BK1.out 4).trans rfl; have zf4 := blk_frozen BK1.out 4))
    (try simp only [Exit.inBlock, Exit.then])
    refine bodyPost_ret (results_ct rfl _ _ gf 44 #[.int .i64 0, .int .i64 0, .int .i64 0, .int .i64 0, .int .i64 0] (0, 0) _ rfl (z1_) Tryz.underlying44 rfl (by kernel_rfl)) rfl ?_
    exact ⟨z10_, z5_⟩
  | some n0 =>
  go_wp2_with (first | (go_at_call 44; (with_reducible refine (atoi_ok s1 n0 _ hl0 hn0).mono ?_); rintro e wa0 ⟨rfl, hb⟩; have n0_ := Aside0.mk (ST.out.below hb); clear ST hb; have ST := n0_; clear n0_; have ac0 : wa0.cell? ⟨gn, 0, none⟩ = some (.int .i64 0) := (blk_cell ST.out.2.2.1 0).trans rfl; have af0 := blk_frozen ST.out.2.2.1 0))
  have n0_ := Aside0.mk (ST.out.put GE2.out 0 (.int .i64 n0) (cn' := #[.int .i64 n0, .int .i64 0, .int .i64 0, .int .i64 0, .int .i64 0]) rfl)
  clear ST ac0 af0 hw0
  have ST := n0_
  clear n0_
  generalize (wa0.setCell ⟨gn, 0, none⟩ (.int .i64 n0)) = wl1 at ST ⊢
  rw [rounds_succ]
  have hw1 : wl1.cell? ⟨gw, 2, none⟩ = some (.string s2) := (blk_cell ST.out.2.1 2).trans rfl
  have hl1 : s2.size ≤ 281474976710656 := hs2 _ (by simp)
  cases hn1 : atoiN s2 with
  | none =>
    have hw : impl_ParseFix.w k a0 [s0, s1, s2, s3, s4, s5] = impl_ParseFix.z := by
      unfold impl_ParseFix.w
      simp only [hn0, hn1]
    rw [hw] at h
    unfold impl_ParseFix.z at h
    simp only [Option.some.injEq, Prod.mk.injEq] at h
    obtain ⟨rfl, rfl, rfl, rfl, rfl, rfl⟩ := h
    have HTJ := Aside0.mk (Tc.keep HTB.out ST.out.2.2.2)
    go_wp2_with (first | (go_at_call 44; (with_reducible refine (atoi_no s2 _ HTJ.out hl1 hn1).mono ?_); rintro e wa ⟨x_, N_, rfl, hb⟩; have n0_ := Aside0.mk (ST.out.below hb); clear ST hb; have ST := n0_; clear n0_; have BK1 := Aside0.mk ST.out.1; have HB := Aside0.mk ST.out.2.2.2; have zc0 : wa.cell? ⟨gf, 0, none⟩ = some (.int .i64 0) := (blk_cell BK1.out 0).trans rfl; have zf0 := blk_frozen BK1.out 0; have zc1 : wa.cell? ⟨gf, 1, none⟩ = some (.int .i64 0) := (blk_cell BK1.out 1).trans rfl; have zf1 := blk_frozen BK1.out 1; have zc2 : wa.cell? ⟨gf, 2, none⟩ = some (.int .i64 0) := (blk_cell BK1.out 2).trans rfl; have zf2 := blk_frozen BK1.out 2; have zc3 : wa.cell? ⟨gf, 3, none⟩ = some (.int .i64 0) := (blk_cell BK1.out 3).trans rfl; have zf3 := blk_frozen BK1.out 3; have zc4 : wa.cell? ⟨gf, 4, none⟩ = some (.int .i64 0) := (blk_cell BK1.out 4).trans rfl; have zf4 := blk_frozen BK1.out 4))
    (try simp only [Exit.inBlock, Exit.then])
    refine bodyPost_ret (results_ct rfl _ _ gf 44 #[.int .i64 0, .int .i64 0, .int .i64 0, .int .i64 0, .int .i64 0] (0, 0) _ rfl (z1_) Tryz.underlying44 rfl (by kernel_rfl)) rfl ?_
    exact ⟨z10_, z5_⟩
  | some n1 =>
  go_wp2_with (first | (go_at_call 44; (with_reducible refine (atoi_ok s2 n1 _ hl1 hn1).mono ?_); rintro e wa1 ⟨rfl, hb⟩; have n0_ := Aside0.mk (ST.out.below hb); clear ST hb; have ST := n0_; clear n0_; have ac1 : wa1.cell? ⟨gn, 1, none⟩ = some (.int .i64 0) := (blk_cell ST.out.2.2.1 1).trans rfl; have af1 := blk_frozen ST.out.2.2.1 1))
  have n0_ := Aside0.mk (ST.out.put GE2.out 1 (.int .i64 n1) (cn' := #[.int .i64 n0, .int .i64 n1, .int .i64 0, .int .i64 0, .int .i64 0]) rfl)
  clear ST ac1 af1 hw1
  have ST := n0_
  clear n0_
  generalize (wa1.setCell ⟨gn, 1, none⟩ (.int .i64 n1)) = wl2 at ST ⊢
  rw [rounds_succ]
  have hw2 : wl2.cell? ⟨gw, 3, none⟩ = some (.string s3) := (blk_cell ST.out.2.1 3).trans rfl
  have hl2 : s3.size ≤ 281474976710656 := hs2 _ (by simp)
  cases hn2 : atoiN s3 with
  | none =>
    have hw : impl_ParseFix.w k a0 [s0, s1, s2, s3, s4, s5] = impl_ParseFix.z := by
      unfold impl_ParseFix.w
      simp only [hn0, hn1, hn2]
    rw [hw] at h
    unfold impl_ParseFix.z at h
    simp only [Option.some.injEq, Prod.mk.injEq] at h
    obtain ⟨rfl, rfl, rfl, rfl, rfl, rfl⟩ := h
    have HTJ := Aside0.mk (Tc.keep HTB.out ST.out.2.2.2)
    go_wp2_with (first | (go_at_call 44; (with_reducible refine (atoi_no s3 _ HTJ.out hl2 hn2).mono ?_); rintro e wa ⟨x_, N_, rfl, hb⟩; have n0_ := Aside0.mk (ST.out.below hb); clear ST hb; have ST := n0_; clear n0_; have BK1 := Aside0.mk ST.out.1; have HB := Aside0.mk ST.out.2.2.2; have zc0 : wa.cell? ⟨gf, 0, none⟩ = some (.int .i64 0) := (blk_cell BK1.out 0).trans rfl; have zf0 := blk_frozen BK1.out 0; have zc1 : wa.cell? ⟨gf, 1, none⟩ = some (.int .i64 0) := (blk_cell BK1.out 1).trans rfl; have zf1 := blk_frozen BK1.out 1; have zc2 : wa.cell? ⟨gf, 2, none⟩ = some (.int .i64 0) := (blk_cell BK1.out 2).trans rfl; have zf2 := blk_frozen BK1.out 2; have zc3 : wa.cell? ⟨gf, 3, none⟩ = some (.int .i64 0) := (blk_cell BK1.out 3).trans rfl; have zf3 := blk_frozen BK1.out 3; have zc4 : wa.cell? ⟨gf, 4, none⟩ = some (.int .i64 0) := (blk_cell BK1.out 4).trans rfl; have zf4 := blk_frozen BK1.out 4))
    (try simp only [Exit.inBlock, Exit.then])
    refine bodyPost_ret (results_ct rfl _ _ gf 44 #[.int .i64 0, .int .i64 0, .int .i64 0, .int .i64 0, .int .i64 0] (0, 0) _ rfl (z1_) Tryz.underlying44 rfl (by kernel_rfl)) rfl ?_
    exact ⟨z10_, z5_⟩
  | some n2 =>
  go_wp2_with (first | (go_at_call 44; (with_reducible refine (atoi_ok s3 n2 _ hl2 hn2).mono ?_); rintro e wa2 ⟨rfl, hb⟩; have n0_ := Aside0.mk (ST.out.below hb); clear ST hb; have ST := n0_; clear n0_; have ac2 : wa2.cell? ⟨gn, 2, none⟩ = some (.int .i64 0) := (blk_cell ST.out.2.2.1 2).trans rfl; have af2 := blk_frozen ST.out.2.2.1 2))
  have n0_ := Aside0.mk (ST.out.put GE2.out 2 (.int .i64 n2) (cn' := #[.int .i64 n0, .int .i64 n1, .int .i64 n2, .int .i64 0, .int .i64 0]) rfl)
  clear ST ac2 af2 hw2
  have ST := n0_
  clear n0_
  generalize (wa2.setCell ⟨gn, 2, none⟩ (.int .i64 n2)) = wl3 at ST ⊢
  rw [rounds_succ]
  have hw3 : wl3.cell? ⟨gw, 4, none⟩ = some (.string s4) := (blk_cell ST.out.2.1 4).trans rfl
  have hl3 : s4.size ≤ 281474976710656 := hs2 _ (by simp)
  cases hn3 : atoiN s4 with
  | none =>
    have hw : impl_ParseFix.w k a0 [s0, s1, s2, s3, s4, s5] = impl_ParseFix.z := by
      unfold impl_ParseFix.w
      simp only [hn0, hn1, hn2, hn3]
    rw [hw] at h
    unfold impl_ParseFix.z at h
    simp only [Option.some.injEq, Prod.mk.injEq] at h
    obtain ⟨rfl, rfl, rfl, rfl, rfl, rfl⟩ := h
    have HTJ := Aside0.mk (Tc.keep HTB.out ST.out.2.2.2)
    go_wp2_with (first | (go_at_call 44; (with_reducible refine (atoi_no s4 _ HTJ.out hl3 hn3).mono ?_); rintro e wa ⟨x_, N_, rfl, hb⟩; have n0_ := Aside0.mk (ST.out.below hb); clear ST hb; have ST := n0_; clear n0_; have BK1 := Aside0.mk ST.out.1; have HB := Aside0.mk ST.out.2.2.2; have zc0 : wa.cell? ⟨gf, 0, none⟩ = some (.int .i64 0) := (blk_cell BK1.out 0).trans rfl; have zf0 := blk_frozen BK1.out 0; have zc1 : wa.cell? ⟨gf, 1, none⟩ = some (.int .i64 0) := (blk_cell BK1.out 1).trans rfl; have zf1 := blk_frozen BK1.out 1; have zc2 : wa.cell? ⟨gf, 2, none⟩ = some (.int .i64 0) := (blk_cell BK1.out 2).trans rfl; have zf2 := blk_frozen BK1.out 2; have zc3 : wa.cell? ⟨gf, 3, none⟩ = some (.int .i64 0) := (blk_cell BK1.out 3).trans rfl; have zf3 := blk_frozen BK1.out 3; have zc4 : wa.cell? ⟨gf, 4, none⟩ = some (.int .i64 0) := (blk_cell BK1.out 4).trans rfl; have zf4 := blk_frozen BK1.out 4))
    (try simp only [Exit.inBlock, Exit.then])
    refine bodyPost_ret (results_ct rfl _ _ gf 44 #[.int .i64 0, .int .i64 0, .int .i64 0, .int .i64 0, .int .i64 0] (0, 0) _ rfl (z1_) Tryz.underlying44 rfl (by kernel_rfl)) rfl ?_
    exact ⟨z10_, z5_⟩
  | some n3 =>
  go_wp2_with (first | (go_at_call 44; (with_reducible refine (atoi_ok s4 n3 _ hl3 hn3).mono ?_); rintro e wa3 ⟨rfl, hb⟩; have n0_ := Aside0.mk (ST.out.below hb); clear ST hb; have ST := n0_; clear n0_; have ac3 : wa3.cell? ⟨gn, 3, none⟩ = some (.int .i64 0) := (blk_cell ST.out.2.2.1 3).trans rfl; have af3 := blk_frozen ST.out.2.2.1 3))
  have n0_ := Aside0.mk (ST.out.put GE2.out 3 (.int .i64 n3) (cn' := #[.int .i64 n0, .int .i64 n1, .int .i64 n2, .int .i64 n3, .int .i64 0]) rfl)
  clear ST ac3 af3 hw3
  have ST := n0_
  clear n0_
  generalize (wa3.setCell ⟨gn, 3, none⟩ (.int .i64 n3)) = wl4 at ST ⊢
  rw [rounds_succ]
  have hw4 : wl4.cell? ⟨gw, 5, none⟩ = some (.string s5) := (blk_cell ST.out.2.1 5).trans rfl
  have hl4 : s5.size ≤ 281474976710656 := hs2 _ (by simp)
  cases hn4 : atoiN s5 with
  | none =>
    have hw : impl_ParseFix.w k a0 [s0, s1, s2, s3, s4, s5] = impl_ParseFix.z := by
      unfold impl_ParseFix.w
      simp only [hn0, hn1, hn2, hn3, hn4]
    rw [hw] at h
    unfold impl_ParseFix.z at h
    simp only [Option.some.injEq, Prod.mk.injEq] at h
    obtain ⟨rfl, rfl, rfl, rfl, rfl, rfl⟩ := h
    have HTJ := Aside0.mk (Tc.keep HTB.out ST.out.2.2.2)
    go_wp2_with (first | (go_at_call 44; (with_reducible refine (atoi_no s5 _ HTJ.out hl4 hn4).mono ?_); rintro e wa ⟨x_, N_, rfl, hb⟩; have n0_ := Aside0.mk (ST.out.below hb); clear ST hb; have ST := n0_; clear n0_; have BK1 := Aside0.mk ST.out.1; have HB := Aside0.mk ST.out.2.2.2; have zc0 : wa.cell? ⟨gf, 0, none⟩ = some (.int .i64 0) := (blk_cell BK1.out 0).trans rfl; have zf0 := blk_frozen BK1.out 0; have zc1 : wa.cell? ⟨gf, 1, none⟩ = some (.int .i64 0) := (blk_cell BK1.out 1).trans rfl; have zf1 := blk_frozen BK1.out 1; have zc2 : wa.cell? ⟨gf, 2, none⟩ = some (.int .i64 0) := (blk_cell BK1.out 2).trans rfl; have zf2 := blk_frozen BK1.out 2; have zc3 : wa.cell? ⟨gf, 3, none⟩ = some (.int .i64 0) := (blk_cell BK1.out 3).trans rfl; have zf3 := blk_frozen BK1.out 3; have zc4 : wa.cell? ⟨gf, 4, none⟩ = some (.int .i64 0) := (blk_cell BK1.out 4).trans rfl; have zf4 := blk_frozen BK1.out 4))
    (try simp only [Exit.inBlock, Exit.then])
    refine bodyPost_ret (results_ct rfl _ _ gf 44 #[.int .i64 0, .int .i64 0, .int .i64 0, .int .i64 0, .int .i64 0] (0, 0) _ rfl (z1_) Tryz.underlying44 rfl (by kernel_rfl)) rfl ?_
    exact ⟨z10_, z5_⟩
  | some n4 =>
  go_wp2_with (first | (go_at_call 44; (with_reducible refine (atoi_ok s5 n4 _ hl4 hn4).mono ?_); rintro e wa4 ⟨rfl, hb⟩; have n0_ := Aside0.mk (ST.out.below hb); clear ST hb; have ST := n0_; clear n0_; have ac4 : wa4.cell? ⟨gn, 4, none⟩ = some (.int .i64 0) := (blk_cell ST.out.2.2.1 4).trans rfl; have af4 := blk_frozen ST.out.2.2.1 4))
  have n0_ := Aside0.mk (ST.out.put GE2.out 4 (.int .i64 n4) (cn' := #[.int .i64 n0, .int .i64 n1, .int .i64 n2, .int .i64 n3, .int .i64 n4]) rfl)
  clear ST ac4 af4 hw4
  have ST := n0_
  clear n0_
  generalize (wa4.setCell ⟨gn, 4, none⟩ (.int .i64 n4)) = wl5 at ST ⊢
  rw [rounds_succ]
  have m0 : wl5.cell? ⟨gn, 0, none⟩ = some (.int .i64 n0) := (blk_cell ST.out.2.2.1 0).trans rfl
  have m1 : wl5.cell? ⟨gn, 1, none⟩ = some (.int .i64 n1) := (blk_cell ST.out.2.2.1 1).trans rfl
  have m2 : wl5.cell? ⟨gn, 2, none⟩ = some (.int .i64 n2) := (blk_cell ST.out.2.2.1 2).trans rfl
  have m3 : wl5.cell? ⟨gn, 3, none⟩ = some (.int .i64 n3) := (blk_cell ST.out.2.2.1 3).trans rfl
  have m4 : wl5.cell? ⟨gn, 4, none⟩ = some (.int .i64 n4) := (blk_cell ST.out.2.2.1 4).trans rfl
  have BK1 := Aside0.mk ST.out.1
  have HB := Aside0.mk ST.out.2.2.2
  clear ST
  go_upto_region 15 with (first | ((with_reducible refine gate_dst (N := 11) rfl ?_); (try (refine gate_guard (by rfl) ?_; dsimp only)); refine box_event ?hg11 (N := 11) ?hd11 (cs := #[.int .i64 0, .int .i64 0, .int .i64 0, .int .i64 0, .int .i64 0]) (t := 44) ?hr11 ?_; (case hd11 => rfl); (case hg11 => rfl); (case hr11 => first | (go_simp; done) | (go_simp; rfl)); intro gx hg wb11 hbox hb; have n0_ := Aside0.mk (below_step (z5_) hb); have n1_ := Aside0.mk (hbox); have n2_ := Aside0.mk ((z2_ : w.heap.size ≤ gx)); have n5_ := Aside0.mk (show gf ≠ gx from by rw [hg]; exact Nat.ne_of_lt (blk_lt (z9_))); have n3_ := Aside0.mk (blk_below (z9_) hb); clear BK1; have BK1 := n3_; have NEX := n5_; clear n3_ n5_; clear HB; have HB := n0_; have BK3 := n1_; have GE3 := n2_; clear n0_ n1_ n2_; clear hb hbox hg; have hc11_0 : wb11.cell? ⟨gx, 0, none⟩ = some (.int .i64 0) := (blk_cell BK3.out 0).trans rfl; have hf11_0 := blk_frozen BK3.out 0; have hc11_1 : wb11.cell? ⟨gx, 1, none⟩ = some (.int .i64 0) := (blk_cell BK3.out 1).trans rfl; have hf11_1 := blk_frozen BK3.out 1; have hc11_2 : wb11.cell? ⟨gx, 2, none⟩ = some (.int .i64 0) := (blk_cell BK3.out 2).trans rfl; have hf11_2 := blk_frozen BK3.out 2; have hc11_3 : wb11.cell? ⟨gx, 3, none⟩ = some (.int .i64 0) := (blk_cell BK3.out 3).trans rfl; have hf11_3 := blk_frozen BK3.out 3; have hc11_4 : wb11.cell? ⟨gx, 4, none⟩ = some (.int .i64 0) := (blk_cell BK3.out 4).trans rfl; have hf11_4 := blk_frozen BK3.out 4))
  have hw : impl_ParseFix.w k a0 [s0, s1, s2, s3, s4, s5] = impl_ParseFix.g k a0 n0 n1 n2 n3 n4 := by
    unfold impl_ParseFix.w
    simp only [hn0, hn1, hn2, hn3, hn4]
  rw [hw] at h
  unfold impl_ParseFix.g at h
  obtain ⟨tx, hA2, h⟩ := Option.bind_eq_some_iff.mp h
  have hsc : secOf n0 = (wrap64 (wrap64 (wrap64 (wrap64 (n0.tdiv 10000) * 3600) + wrap64 ((wrap64 (n0.tdiv 100)).tmod 100 * 60)) + n0.tmod 100)) := rfl
  rw [← hsc]
  generalize secOf n0 = sc at h hA2 ⊢
  have A2 := Aside0.mk hA2
  clear hA2 hsc hw
  have n1_ := Aside0.mk (blk_put (cs' := #[.int .i64 n3, .int .i64 n2, .int .i64 n1, .int .i64 sc, .int .i64 n4]) (blk_put (cs' := #[.int .i64 n3, .int .i64 n2, .int .i64 n1, .int .i64 sc, .int .i64 0]) (blk_put (cs' := #[.int .i64 n3, .int .i64 n2, .int .i64 n1, .int .i64 0, .int .i64 0]) (blk_put (cs' := #[.int .i64 n3, .int .i64 n2, .int .i64 0, .int .i64 0, .int .i64 0]) (blk_put (cs' := #[.int .i64 n3, .int .i64 0, .int .i64 0, .int .i64 0, .int .i64 0]) BK3.out 0 (.int .i64 n3) rfl) 1 (.int .i64 n2) rfl) 2 (.int .i64 n1) rfl) 3 (.int .i64 sc) rfl) 4 (.int .i64 n4) rfl)
  have n2_ := Aside0.mk (blk_far (blk_far (blk_far (blk_far (blk_far BK1.out (p := ⟨gx, 0, none⟩) NEX.out (.int .i64 n3)) (p := ⟨gx, 1, none⟩) NEX.out (.int .i64 n2)) (p := ⟨gx, 2, none⟩) NEX.out (.int .i64 n1)) (p := ⟨gx, 3, none⟩) NEX.out (.int .i64 sc)) (p := ⟨gx, 4, none⟩) NEX.out (.int .i64 n4))
  have n3_ := Aside0.mk (show Below w.heap.size w (((((wb11.setCell ⟨gx, 0, none⟩ (.int .i64 n3)).setCell ⟨gx, 1, none⟩ (.int .i64 n2)).setCell ⟨gx, 2, none⟩ (.int .i64 n1)).setCell ⟨gx, 3, none⟩ (.int .i64 sc)).setCell ⟨gx, 4, none⟩ (.int .i64 n4)) from by repeat (first | (with_reducible first | exact HB.out | refine below_set ?_ GE3.out) | exact HB.out))
  clear BK3 BK1 HB hc11_0 hf11_0 m0 hc11_1 hf11_1 m1 hc11_2 hf11_2 m2 hc11_3 hf11_3 m3 hc11_4 hf11_4 m4
  have BK3 := n1_
  have BK1 := n2_
  have HB := n3_
  clear n1_ n2_ n3_
  generalize (((((wb11.setCell ⟨gx, 0, none⟩ (.int .i64 n3)).setCell ⟨gx, 1, none⟩ (.int .i64 n2)).setCell ⟨gx, 2, none⟩ (.int .i64 n1)).setCell ⟨gx, 3, none⟩ (.int .i64 sc)).setCell ⟨gx, 4, none⟩ (.int .i64 n4)) = wy at BK3 BK1 HB ⊢
  have HTJ := Aside0.mk (Tc.keep HTB.out HB.out)
  have y0 : wy.cell? ⟨gx, 0, none⟩ = some (.int .i64 n3) := (blk_cell BK3.out 0).trans rfl
  have y1 : wy.cell? ⟨gx, 1, none⟩ = some (.int .i64 n2) := (blk_cell BK3.out 1).trans rfl
  have y2 : wy.cell? ⟨gx, 2, none⟩ = some (.int .i64 n1) := (blk_cell BK3.out 2).trans rfl
  have y3 : wy.cell? ⟨gx, 3, none⟩ = some (.int .i64 sc) := (blk_cell BK3.out 3).trans rfl
  have y4 : wy.cell? ⟨gx, 4, none⟩ = some (.int .i64 n4) := (blk_cell BK3.out 4).trans rfl
  by_cases hc : tx.toList = a0.toList
  · rw [if_pos hc] at h
    simp only [Option.some.injEq, Prod.mk.injEq] at h
    obtain ⟨rfl, rfl, rfl, rfl, rfl, rfl⟩ := h
    have hcb : (tx.toList == a0.toList) = true := beq_iff_eq.2 hc
    have hcn : (tx.toList != a0.toList) = false := by rw [bne, hcb]; rfl
    clear hc
    go_wp2_with (first | (go_at_call 64; (with_reducible refine (impl_FormatFix.calls k n3 n2 n1 sc n4 tx _ HTJ.out A2.out).mono ?_); rintro e wz ⟨rfl, hb⟩; have n1_ := Aside0.mk (blk_below BK3.out hb); have n2_ := Aside0.mk (blk_below BK1.out hb); have n3_ := Aside0.mk (below_step HB.out hb); clear BK3 BK1 HB hb; have BK3 := n1_; have BK1 := n2_; have HB := n3_; clear n1_ n2_ n3_; have u0 : wz.cell? ⟨gx, 0, none⟩ = some (.int .i64 n3) := (blk_cell BK3.out 0).trans rfl; have zc0 : wz.cell? ⟨gf, 0, none⟩ = some (.int .i64 0) := (blk_cell BK1.out 0).trans rfl; have zf0 := blk_frozen BK1.out 0; have u1 : wz.cell? ⟨gx, 1, none⟩ = some (.int .i64 n2) := (blk_cell BK3.out 1).trans rfl; have zc1 : wz.cell? ⟨gf, 1, none⟩ = some (.int .i64 0) := (blk_cell BK1.out 1).trans rfl; have zf1 := blk_frozen BK1.out 1; have u2 : wz.cell? ⟨gx, 2, none⟩ = some (.int .i64 n1) := (blk_cell BK3.out 2).trans rfl; have zc2 : wz.cell? ⟨gf, 2, none⟩ = some (.int .i64 0) := (blk_cell BK1.out 2).trans rfl; have zf2 := blk_frozen BK1.out 2; have u3 : wz.cell? ⟨gx, 3, none⟩ = some (.int .i64 sc) := (blk_cell BK3.out 3).trans rfl; have zc3 : wz.cell? ⟨gf, 3, none⟩ = some (.int .i64 0) := (blk_cell BK1.out 3).trans rfl; have zf3 := blk_frozen BK1.out 3; have u4 : wz.cell? ⟨gx, 4, none⟩ = some (.int .i64 n4) := (blk_cell BK3.out 4).trans rfl; have zc4 : wz.cell? ⟨gf, 4, none⟩ = some (.int .i64 0) := (blk_cell BK1.out 4).trans rfl; have zf4 := blk_frozen BK1.out 4; have hne := NEX.out; have hnf := Ne.symm hne))
    refine bodyPost_ret (results_ct rfl _ _ gf 44 #[.int .i64 n3, .int .i64 n2, .int .i64 n1, .int .i64 sc, .int .i64 n4] (0, 0) _ rfl (by (with_reducible repeat (first | refine blk_drewN ?_ _ | refine blk_drew ?_ | refine blk_alloc ?_ _)); refine blk_put (cs := #[.int .i64 n3, .int .i64 n2, .int .i64 n1, .int .i64 sc, .int .i64 0]) ?_ 4 _ rfl; (with_reducible repeat (first | refine blk_drewN ?_ _ | refine blk_drew ?_ | refine blk_alloc ?_ _)); refine blk_put (cs := #[.int .i64 n3, .int .i64 n2, .int .i64 n1, .int .i64 0, .int .i64 0]) ?_ 3 _ rfl; (with_reducible repeat (first | refine blk_drewN ?_ _ | refine blk_drew ?_ | refine blk_alloc ?_ _)); refine blk_put (cs := #[.int .i64 n3, .int .i64 n2, .int .i64 0, .int .i64 0, .int .i64 0]) ?_ 2 _ rfl; (with_reducible repeat (first | refine blk_drewN ?_ _ | refine blk_drew ?_ | refine blk_alloc ?_ _)); refine blk_put (cs := #[.int .i64 n3, .int .i64 0, .int .i64 0, .int .i64 0, .int .i64 0]) ?_ 1 _ rfl; (with_reducible repeat (first | refine blk_drewN ?_ _ | refine blk_drew ?_ | refine blk_alloc ?_ _)); refine blk_put (cs := #[.int .i64 0, .int .i64 0, .int .i64 0, .int .i64 0, .int .i64 0]) ?_ 0 _ rfl; (with_reducible repeat (first | refine blk_drewN ?_ _ | refine blk_drew ?_ | refine blk_alloc ?_ _)); exact BK1.out) Tryz.underlying44 rfl (by kernel_rfl)) rfl ?_
    exact ⟨z10_, z5_⟩
  · rw [if_neg hc] at h
    unfold impl_ParseFix.z at h
    simp only [Option.some.injEq, Prod.mk.injEq] at h
    obtain ⟨rfl, rfl, rfl, rfl, rfl, rfl⟩ := h
    have hcb : (tx.toList == a0.toList) = false := beq_eq_false_iff_ne.2 hc
    have hcn : (tx.toList != a0.toList) = true := by rw [bne, hcb]; rfl
    clear hc
    go_wp2_with (first | (go_at_call 64; (with_reducible refine (impl_FormatFix.calls k n3 n2 n1 sc n4 tx _ HTJ.out A2.out).mono ?_); rintro e wz ⟨rfl, hb⟩; have n1_ := Aside0.mk (blk_below BK3.out hb); have n2_ := Aside0.mk (blk_below BK1.out hb); have n3_ := Aside0.mk (below_step HB.out hb); clear BK3 BK1 HB hb; have BK3 := n1_; have BK1 := n2_; have HB := n3_; clear n1_ n2_ n3_; have u0 : wz.cell? ⟨gx, 0, none⟩ = some (.int .i64 n3) := (blk_cell BK3.out 0).trans rfl; have zc0 : wz.cell? ⟨gf, 0, none⟩ = some (.int .i64 0) := (blk_cell BK1.out 0).trans rfl; have zf0 := blk_frozen BK1.out 0; have u1 : wz.cell? ⟨gx, 1, none⟩ = some (.int .i64 n2) := (blk_cell BK3.out 1).trans rfl; have zc1 : wz.cell? ⟨gf, 1, none⟩ = some (.int .i64 0) := (blk_cell BK1.out 1).trans rfl; have zf1 := blk_frozen BK1.out 1; have u2 : wz.cell? ⟨gx, 2, none⟩ = some (.int .i64 n1) := (blk_cell BK3.out 2).trans rfl; have zc2 : wz.cell? ⟨gf, 2, none⟩ = some (.int .i64 0) := (blk_cell BK1.out 2).trans rfl; have zf2 := blk_frozen BK1.out 2; have u3 : wz.cell? ⟨gx, 3, none⟩ = some (.int .i64 sc) := (blk_cell BK3.out 3).trans rfl; have zc3 : wz.cell? ⟨gf, 3, none⟩ = some (.int .i64 0) := (blk_cell BK1.out 3).trans rfl; have zf3 := blk_frozen BK1.out 3; have u4 : wz.cell? ⟨gx, 4, none⟩ = some (.int .i64 n4) := (blk_cell BK3.out 4).trans rfl; have zc4 : wz.cell? ⟨gf, 4, none⟩ = some (.int .i64 0) := (blk_cell BK1.out 4).trans rfl; have zf4 := blk_frozen BK1.out 4; have hne := NEX.out; have hnf := Ne.symm hne))
    refine bodyPost_ret (results_ct rfl _ _ gf 44 #[.int .i64 0, .int .i64 0, .int .i64 0, .int .i64 0, .int .i64 0] (0, 0) _ rfl (z1_) Tryz.underlying44 rfl (by kernel_rfl)) rfl ?_
    exact ⟨z10_, z5_⟩
theorem impl_ParseFix.mono : ∀ a0 k, LeO (impl_ParseFix.f k a0) (impl_ParseFix.f (k + 1) a0) := by
  intro a0 k
  have hg : ∀ n0 n1 n2 n3 n4, LeO (impl_ParseFix.g k a0 n0 n1 n2 n3 n4) (impl_ParseFix.g (k + 1) a0 n0 n1 n2 n3 n4) := by
    intro n0 n1 n2 n3 n4
    unfold impl_ParseFix.g
    exact LeO.bind (impl_FormatFix.mono _ _ _ _ _ _) (fun _ => LeO.refl _)
  have hw : ∀ ws, LeO (impl_ParseFix.w k a0 ws) (impl_ParseFix.w (k + 1) a0 ws) := by
    intro ws
    unfold impl_ParseFix.w
    split
    · split
      · exact hg _ _ _ _ _
      · exact LeO.refl _
    · exact LeO.refl _
  unfold impl_ParseFix.f
  exact LeO.bind (impl_ReadFrame.mono _ _) (fun _ => LeO.ite (LeO.ite (hw _) (LeO.refl _)) (LeO.refl _))

/-! ### impl_CivilFix: function 41 -/
def impl_CivilFix.f (k : Nat) (a0_0 : Int) (a0_1 : Int) (a0_2 : Int) (a0_3 : Int) (a0_4 : Int) : Option (Int) := (impl_ValidFix.f k a0_0 a0_1 a0_2 a0_3 a0_4).bind fun t261 => (if t261 = true then ((impl_DayOf.f k a0_0 a0_1 a0_2).bind fun t262 => (if t262 < 5 then (some (-1)) else ((impl_DayOf.f k a0_0 a0_1 a0_2).bind fun t263 => (some (wrap64 ((wrap64 ((wrap64 (t263 - 5)) * 86400)) + (mn a0_3 86399))))))) else (some (-1)))
theorem impl_CivilFix.mono : ∀ a0 a1 a2 a3 a4 k, LeO (impl_CivilFix.f k a0 a1 a2 a3 a4) (impl_CivilFix.f (k + 1) a0 a1 a2 a3 a4) := by
  intro a0 a1 a2 a3 a4 k
  unfold impl_CivilFix.f
  repeat' first
      | (with_reducible exact impl_DayOf.mono _ _ _ _)
      | (with_reducible exact impl_ValidFix.mono _ _ _ _ _ _)
      | (with_reducible exact LeO.refl _)
      | (with_reducible exact LeO.none _)
      | (with_reducible refine LeO.ite ?_ ?_)
      | (with_reducible refine LeO.bind ?_ (fun _ => ?_))
      | exact impl_DayOf.mono _ _ _ _
      | exact impl_ValidFix.mono _ _ _ _ _ _
      | exact LeO.none _
      | refine LeO.ite ?_ ?_
      | refine LeO.bind ?_ (fun _ => ?_)
def impl_CivilFix.T3 : Bool × List (List Nat × List Nat) := (true, [([], []), ([0], [0]), ([1], [1]), ([2], [2]), ([3], [3]), ([], []), ([5], [5]), ([6], [6]), ([4, 7], [4, 7]), ([8, 2, 0, 1, 2, 3, 4, 5, 6, 7, 8], [8])])
def impl_CivilFix.B3 : List Nat := [0, 1, 3, 7, 15, 0, 32, 96, 255, 511]
theorem impl_CivilFix.tab3 : rtab .any (opsOf Tryz.f41 3) = impl_CivilFix.T3 := by kernel_rfl
theorem impl_CivilFix.bits3 : waitsOk impl_CivilFix.T3.2 impl_CivilFix.B3 = true := by kernel_rfl
set_option maxHeartbeats 8000000 in
set_option maxRecDepth 100000 in
theorem impl_CivilFix.calls (k : Nat) (a0_0 : Int) (a0_1 : Int) (a0_2 : Int) (a0_3 : Int) (a0_4 : Int) (r : Int) (w : World) (h : impl_CivilFix.f k a0_0 a0_1 a0_2 a0_3 a0_4 = some r) :
    Calls Tryz.prog 41 #[.agg #[.int .i64 a0_0, .int .i64 a0_1, .int .i64 a0_2, .int .i64 a0_3, .int .i64 a0_4]] w fun e w' => e = .returned (.int .i64 r) ∧ Below w.heap.size w w' := by
  have hu44 := Tryz.underlying44
  have hu42 := Tryz.underlying42
  have HB := Aside0.mk (Below.refl w.heap.size w)
  have H : ((impl_ValidFix.f k a0_0 a0_1 a0_2 a0_3 a0_4).bind fun t261 => (if t261 = true then ((impl_DayOf.f k a0_0 a0_1 a0_2).bind fun t262 => (if t262 < 5 then (some (-1)) else ((impl_DayOf.f k a0_0 a0_1 a0_2).bind fun t263 => (some (wrap64 ((wrap64 ((wrap64 (t263 - 5)) * 86400)) + (mn a0_3 86399))))))) else (some (-1)))) = some r := h
  clear h
  replace H := Option.bind_eq_some_iff.mp H
  obtain ⟨t261, A20, H⟩ := H
  replace H : (if t261 = true then ((impl_DayOf.f k a0_0 a0_1 a0_2).bind fun t262 => (if t262 < 5 then (some (-1)) else ((impl_DayOf.f k a0_0 a0_1 a0_2).bind fun t263 => (some (wrap64 ((wrap64 ((wrap64 (t263 - 5)) * 86400)) + (mn a0_3 86399))))))) else (some (-1))) = some r := H
  have A2 := Aside0.mk A20
  clear A20
  by_cases c3 : t261 = true
  · subst c3
    have H1 : ((impl_DayOf.f k a0_0 a0_1 a0_2).bind fun t262 => (if t262 < 5 then (some (-1)) else ((impl_DayOf.f k a0_0 a0_1 a0_2).bind fun t263 => (some (wrap64 ((wrap64 ((wrap64 (t263 - 5)) * 86400)) + (mn a0_3 86399))))))) = some r := by rw [if_pos rfl] at H; exact H
    clear H
    have H := H1
    clear H1
    replace H := Option.bind_eq_some_iff.mp H
    obtain ⟨t262, A40, H⟩ := H
    replace H : (if t262 < 5 then (some (-1)) else ((impl_DayOf.f k a0_0 a0_1 a0_2).bind fun t263 => (some (wrap64 ((wrap64 ((wrap64 (t263 - 5)) * 86400)) + (mn a0_3 86399)))))) = some r := H
    have A4 := Aside0.mk A40
    clear A40
    by_cases c5 : t262 < 5
    · rw [if_pos c5] at H
      have c5b0 : decide (t262 < 5) = true := decide_eq_true c5
      clear c5
      obtain rfl := Option.some.inj H
      go_enter Tryz.func41, Tryz.ntmps41
      go_wp2_with (first | ((with_reducible refine gate_dst (N := 1) rfl ?_); refine box_event ?hg (N := 1) ?hd (cs := #[.int .i64 a0_0, .int .i64 a0_1, .int .i64 a0_2, .int .i64 a0_3, .int .i64 a0_4]) (t := 44) ?hr ?_; (case hd => rfl); (case hg => rfl); (case hr => first | (go_simp; done) | (go_simp; rfl)); intro gb260 hg w6 hbox hb; have n0_ := Aside0.mk (below_step (z7_) hb); have n1_ := Aside0.mk (hbox); have n2_ := Aside0.mk ((z3_ : w.heap.size ≤ gb260)); have n3_ := Aside0.mk ((z3_ : w.heap.size ≤ gb260)); clear HB; have HB := n0_; have BK260 := n1_; have GW260 := n2_; have GE260 := n3_; clear n0_ n1_ n2_ n3_; clear hb hbox hg; have hcz7_0 : w6.cell? ⟨gb260, 0, none⟩ = some (.int .i64 a0_0) := (blk_cell BK260.out 0).trans rfl; have hcz7_1 : w6.cell? ⟨gb260, 1, none⟩ = some (.int .i64 a0_1) := (blk_cell BK260.out 1).trans rfl; have hcz7_2 : w6.cell? ⟨gb260, 2, none⟩ = some (.int .i64 a0_2) := (blk_cell BK260.out 2).trans rfl; have hcz7_3 : w6.cell? ⟨gb260, 3, none⟩ = some (.int .i64 a0_3) := (blk_cell BK260.out 3).trans rfl; have hcz7_4 : w6.cell? ⟨gb260, 4, none⟩ = some (.int .i64 a0_4) := (blk_cell BK260.out 4).trans rfl; have hfz7_0 := blk_frozen BK260.out 0; have hfz7_1 := blk_frozen BK260.out 1; have hfz7_2 := blk_frozen BK260.out 2; have hfz7_3 := blk_frozen BK260.out 3; have hfz7_4 := blk_frozen BK260.out 4) | ((with_reducible refine gate_callee (f := 65) rfl ?_); refine goesL_ (some 4) rfl rfl Tryz.func65 (by kernel_rfl) rfl #[.agg #[.int .i64 a0_0, .int .i64 a0_1, .int .i64 a0_2, .int .i64 a0_3, .int .i64 a0_4]] rfl (z6_) ?_; (with_reducible refine (impl_ValidFix.calls k a0_0 a0_1 a0_2 a0_3 a0_4 true _ A2.out).mono ?_); rintro e w8 ⟨rfl, hb⟩; refine ⟨_, rfl, ?_⟩; have n0_ := Aside0.mk (blk_below (g := gb260) (o := .cells #[.int .i64 a0_0, .int .i64 a0_1, .int .i64 a0_2, .int .i64 a0_3, .int .i64 a0_4] 44 (0, 0)) (z8_) hb); have n1_ := Aside0.mk (below_step (z4_) hb); clear BK260; clear HB; have BK260 := n0_; have HB := n1_; clear n0_ n1_; (try clear hb); (try clear hb2); (try clear hk); (try clear hi); have hcz9_0 : w8.cell? ⟨gb260, 0, none⟩ = some (.int .i64 a0_0) := (blk_cell BK260.out 0).trans rfl; have hcz9_1 : w8.cell? ⟨gb260, 1, none⟩ = some (.int .i64 a0_1) := (blk_cell BK260.out 1).trans rfl; have hcz9_2 : w8.cell? ⟨gb260, 2, none⟩ = some (.int .i64 a0_2) := (blk_cell BK260.out 2).trans rfl; have hcz9_3 : w8.cell? ⟨gb260, 3, none⟩ = some (.int .i64 a0_3) := (blk_cell BK260.out 3).trans rfl; have hcz9_4 : w8.cell? ⟨gb260, 4, none⟩ = some (.int .i64 a0_4) := (blk_cell BK260.out 4).trans rfl; have hfz9_0 := blk_frozen BK260.out 0; have hfz9_1 := blk_frozen BK260.out 1; have hfz9_2 := blk_frozen BK260.out 2; have hfz9_3 := blk_frozen BK260.out 3; have hfz9_4 := blk_frozen BK260.out 4) | (go_at_call 66; (with_reducible refine (impl_DayOf.calls k a0_0 a0_1 a0_2 t262 _ A4.out).mono ?_); rintro e w10 ⟨rfl, hb⟩; have n0_ := Aside0.mk (blk_below (g := gb260) (o := .cells #[.int .i64 a0_0, .int .i64 a0_1, .int .i64 a0_2, .int .i64 a0_3, .int .i64 a0_4] 44 (0, 0)) (z8_) hb); have n1_ := Aside0.mk (below_step (z4_) hb); clear BK260; clear HB; have BK260 := n0_; have HB := n1_; clear n0_ n1_; (try clear hb); (try clear hb2); (try clear hk); (try clear hi)))
      go_ret
      exact ⟨z10_, z4_⟩
    · rw [if_neg c5] at H
      have c5b0 : decide (t262 < 5) = false := decide_eq_false c5
      clear c5
      replace H := Option.bind_eq_some_iff.mp H
      obtain ⟨t263, A110, H⟩ := H
      replace H : (some (wrap64 ((wrap64 ((wrap64 (t263 - 5)) * 86400)) + (mn a0_3 86399)))) = some r := H
      have A11 := Aside0.mk A110
      clear A110
      obtain ⟨ji12, hji12⟩ : ∃ j_ : Int, (mn a0_3 86399) = j_ := ⟨_, rfl⟩
      replace H : (some (wrap64 ((wrap64 ((wrap64 (t263 - 5)) * 86400)) + (ji12)))) = some r := by first | (rw [hji12] at H; exact H) | (simp only [hji12] at H ⊢; exact H)
      (try rw [hji12] at A2)
      (try rw [hji12] at A4)
      (try rw [hji12] at A11)
      (try (have hji12h : ji12 ≤ 86399 := by (rw [← hji12]; unfold mn; (repeat' split) <;> omega)))
      (try (have hji12g : ji12 ≤ 64 := by omega))
      have hji12_ : (if 86399 < a0_3 then 86399 else a0_3) = ji12 := hji12
      obtain rfl := Option.some.inj H
      go_enter Tryz.func41, Tryz.ntmps41
      try go_wp2_with (first | ((with_reducible refine gate_dst (N := 1) rfl ?_); refine box_event ?hg (N := 1) ?hd (cs := #[.int .i64 a0_0, .int .i64 a0_1, .int .i64 a0_2, .int .i64 a0_3, .int .i64 a0_4]) (t := 44) ?hr ?_; (case hd => rfl); (case hg => rfl); (case hr => first | (go_simp; done) | (go_simp; rfl)); intro gb260 hg w13 hbox hb; have n0_ := Aside0.mk (below_step (z7_) hb); have n1_ := Aside0.mk (hbox); have n2_ := Aside0.mk ((z3_ : w.heap.size ≤ gb260)); have n3_ := Aside0.mk ((z3_ : w.heap.size ≤ gb260)); clear HB; have HB := n0_; have BK260 := n1_; have GW260 := n2_; have GE260 := n3_; clear n0_ n1_ n2_ n3_; clear hb hbox hg; have hcz14_0 : w13.cell? ⟨gb260, 0, none⟩ = some (.int .i64 a0_0) := (blk_cell BK260.out 0).trans rfl; have hcz14_1 : w13.cell? ⟨gb260, 1, none⟩ = some (.int .i64 a0_1) := (blk_cell BK260.out 1).trans rfl; have hcz14_2 : w13.cell? ⟨gb260, 2, none⟩ = some (.int .i64 a0_2) := (blk_cell BK260.out 2).trans rfl; have hcz14_3 : w13.cell? ⟨gb260, 3, none⟩ = some (.int .i64 a0_3) := (blk_cell BK260.out 3).trans rfl; have hcz14_4 : w13.cell? ⟨gb260, 4, none⟩ = some (.int .i64 a0_4) := (blk_cell BK260.out 4).trans rfl; have hfz14_0 := blk_frozen BK260.out 0; have hfz14_1 := blk_frozen BK260.out 1; have hfz14_2 := blk_frozen BK260.out 2; have hfz14_3 := blk_frozen BK260.out 3; have hfz14_4 := blk_frozen BK260.out 4) | ((with_reducible refine gate_callee (f := 65) rfl ?_); refine goesL_ (some 4) rfl rfl Tryz.func65 (by kernel_rfl) rfl #[.agg #[.int .i64 a0_0, .int .i64 a0_1, .int .i64 a0_2, .int .i64 a0_3, .int .i64 a0_4]] rfl (z6_) ?_; (with_reducible refine (impl_ValidFix.calls k a0_0 a0_1 a0_2 a0_3 a0_4 true _ A2.out).mono ?_); rintro e w15 ⟨rfl, hb⟩; refine ⟨_, rfl, ?_⟩; have n0_ := Aside0.mk (blk_below (g := gb260) (o := .cells #[.int .i64 a0_0, .int .i64 a0_1, .int .i64 a0_2, .int .i64 a0_3, .int .i64 a0_4] 44 (0, 0)) (z8_) hb); have n1_ := Aside0.mk (below_step (z4_) hb); clear BK260; clear HB; have BK260 := n0_; have HB := n1_; clear n0_ n1_; (try clear hb); (try clear hb2); (try clear hk); (try clear hi); have hcz16_0 : w15.cell? ⟨gb260, 0, none⟩ = some (.int .i64 a0_0) := (blk_cell BK260.out 0).trans rfl; have hcz16_1 : w15.cell? ⟨gb260, 1, none⟩ = some (.int .i64 a0_1) := (blk_cell BK260.out 1).trans rfl; have hcz16_2 : w15.cell? ⟨gb260, 2, none⟩ = some (.int .i64 a0_2) := (blk_cell BK260.out 2).trans rfl; have hcz16_3 : w15.cell? ⟨gb260, 3, none⟩ = some (.int .i64 a0_3) := (blk_cell BK260.out 3).trans rfl; have hcz16_4 : w15.cell? ⟨gb260, 4, none⟩ = some (.int .i64 a0_4) := (blk_cell BK260.out 4).trans rfl; have hfz16_0 := blk_frozen BK260.out 0; have hfz16_1 := blk_frozen BK260.out 1; have hfz16_2 := blk_frozen BK260.out 2; have hfz16_3 := blk_frozen BK260.out 3; have hfz16_4 := blk_frozen BK260.out 4) | (go_at_call 66; (with_reducible refine (impl_DayOf.calls k a0_0 a0_1 a0_2 t262 _ A4.out).mono ?_); rintro e w17 ⟨rfl, hb⟩; have n0_ := Aside0.mk (blk_below (g := gb260) (o := .cells #[.int .i64 a0_0, .int .i64 a0_1, .int .i64 a0_2, .int .i64 a0_3, .int .i64 a0_4] 44 (0, 0)) (z8_) hb); have n1_ := Aside0.mk (below_step (z4_) hb); clear BK260; clear HB; have BK260 := n0_; have HB := n1_; clear n0_ n1_; (try clear hb); (try clear hb2); (try clear hk); (try clear hi)))
      have n0_ := Aside0.mk (blk_drew BK260.out)
      have n1_ := Aside0.mk (below_drew1 HB.out)
      clear BK260
      clear HB
      have BK260 := n0_
      have HB := n1_
      clear n0_ n1_
      refine start_ (n := 10) (S := fun w' => w'.cell? ⟨gb260, 0, none⟩ = some (.int .i64 a0_0) ∧ w'.cell? ⟨gb260, 1, none⟩ = some (.int .i64 a0_1) ∧ w'.cell? ⟨gb260, 2, none⟩ = some (.int .i64 a0_2) ∧ w'.cell? ⟨gb260, 3, none⟩ = some (.int .i64 a0_3) ∧ w'.cell? ⟨gb260, 4, none⟩ = some (.int .i64 a0_4)) (ds := []) #[false, false, false, false, false, false, false, false, false, false] (by kernel_rfl) rfl rfl ⟨(blk_cell BK260.out 0).trans rfl, (blk_cell BK260.out 1).trans rfl, (blk_cell BK260.out 2).trans rfl, (blk_cell BK260.out 3).trans rfl, (blk_cell BK260.out 4).trans rfl⟩ (fun hHeld => ?_); refine with_tabW impl_CivilFix.tab3 impl_CivilFix.bits3 (fun HT_ HW_ => ?_)
      generalize w17.drew = w18 at BK260 HB hHeld ⊢
      refine pure_ (i := 0) (N := some 12) (v := ?_) (a' := ?_) #[true, false, false, false, false, false, false, false, false, false] rfl rfl (any_of HT_.out (by kernel_rfl)) (fun _ _ _ h => h) (Or.inl ⟨by rfl, ?_⟩) ?_ ?_
      rotate_left
      · intro w'
        go_simp
        with_reducible rfl
      rotate_left
      · simp only [Act.put, List.setIfInBounds_toArray, List.set_cons_zero, List.set_cons_succ, i64_w, i32_w]
        rfl
      refine pure_ (i := 5) (N := some 17) (v := ?_) (a' := ?_) #[true, false, false, false, false, true, false, false, false, false] rfl rfl (any_of HT_.out (by kernel_rfl)) (fun _ _ _ h => h) (Or.inl ⟨by rfl, ?_⟩) ?_ ?_
      rotate_left
      · intro w'
        go_simp
        with_reducible rfl
      rotate_left
      · simp only [Act.put, List.setIfInBounds_toArray, List.set_cons_zero, List.set_cons_succ, i64_w, i32_w]
        rfl
      refine take_ (i := 1) (N := some 13) (v := ?_) (a' := ?_) #[true, true, false, false, false, true, false, false, false, false] rfl rfl (take_ofW HT_.out HW_.out (by kernel_rfl)) (fun _ _ _ h => h) (Or.inl ⟨by rfl, ?_⟩) hHeld ?_ ?_
      rotate_left
      · rintro w' ⟨s0, s1, s2, s3, s4⟩
        go_simp
        with_reducible rfl
      rotate_left
      · simp only [Act.put, List.setIfInBounds_toArray, List.set_cons_zero, List.set_cons_succ, i64_w, i32_w]
        rfl
      refine take_ (i := 6) (N := some 18) (v := ?_) (a' := ?_) #[true, true, false, false, false, true, true, false, false, false] rfl rfl (take_ofW HT_.out HW_.out (by kernel_rfl)) (fun _ _ _ h => h) (Or.inl ⟨by rfl, ?_⟩) hHeld ?_ ?_
      rotate_left
      · rintro w' ⟨s0, s1, s2, s3, s4⟩
        go_simp
        with_reducible rfl
      rotate_left
      · simp only [Act.put, List.setIfInBounds_toArray, List.set_cons_zero, List.set_cons_succ, i64_w, i32_w]
        rfl
      refine pure_ (i := 7) (N := some 19) (v := ?_) (a' := ?_) #[true, true, false, false, false, true, true, true, false, false] rfl rfl (any_of HT_.out (by kernel_rfl)) (fun _ _ _ h => h) (Or.inl ⟨by rfl, ?_⟩) ?_ ?_
      rotate_left
      · intro w'
        go_simp
        with_reducible rfl
      rotate_left
      · simp only [Act.put, List.setIfInBounds_toArray, List.set_cons_zero, List.set_cons_succ, i64_w, i32_w]
        rfl
      refine one_ (i := 2) (N := some 14) #[true, true, true, false, false, true, true, true, false, false] rfl rfl (one_of HT_.out (by kernel_rfl)) (by decide) (fun K hK => ?_)
      refine goes_ Tryz.func66 (by kernel_rfl) rfl #[.agg #[.int .i64 a0_0, .int .i64 a0_1, .int .i64 a0_2]] (by rfl) rfl rfl (z6_) ?_
      with_reducible refine (impl_DayOf.calls k a0_0 a0_1 a0_2 t263 _ A11.out).mono ?_
      rintro e w19 ⟨rfl, hb⟩
      refine ⟨_, rfl, ?_⟩
      have n0_ := Aside0.mk (blk_below (g := gb260) (o := .cells #[.int .i64 a0_0, .int .i64 a0_1, .int .i64 a0_2, .int .i64 a0_3, .int .i64 a0_4] 44 (0, 0)) (z8_) hb)
      have n1_ := Aside0.mk (below_step (z4_) hb)
      clear BK260
      clear HB
      have BK260 := n0_
      have HB := n1_
      clear n0_ n1_
      (try clear hb)
      (try clear hb2)
      (try clear hk)
      (try clear hi)
      refine hK.out _ _ ⟨(blk_cell BK260.out 0).trans rfl, (blk_cell BK260.out 1).trans rfl, (blk_cell BK260.out 2).trans rfl, (blk_cell BK260.out 3).trans rfl, (blk_cell BK260.out 4).trans rfl⟩ (fun hHeld => ?_)
      clear hK K
      refine norm_ (a' := ?_) ?_ ?_
      rotate_left
      · show Act.put _ (some 14) _ = _
        simp only [Act.put, List.setIfInBounds_toArray, List.set_cons_zero, List.set_cons_succ, i64_w, i32_w]
        rfl
      refine pure_ (i := 3) (N := some 15) (v := ?_) (a' := ?_) #[true, true, true, true, false, true, true, true, false, false] rfl rfl (any_of HT_.out (by kernel_rfl)) (fun _ _ _ h => h) (Or.inl ⟨by rfl, ?_⟩) ?_ ?_
      rotate_left
      · intro w'
        go_simp
        with_reducible rfl
      rotate_left
      · simp only [Act.put, List.setIfInBounds_toArray, List.set_cons_zero, List.set_cons_succ, i64_w, i32_w]
        rfl
      refine pure_ (i := 4) (N := some 16) (v := ?_) (a' := ?_) #[true, true, true, true, true, true, true, true, false, false] rfl rfl (any_of HT_.out (by kernel_rfl)) (fun _ _ _ h => h) (Or.inl ⟨by rfl, ?_⟩) ?_ ?_
      rotate_left
      · intro w'
        go_simp
        with_reducible rfl
      rotate_left
      · simp only [Act.put, List.setIfInBounds_toArray, List.set_cons_zero, List.set_cons_succ, i64_w, i32_w]
        rfl
      refine pure_ (i := 8) (N := some 20) (v := ?_) (a' := ?_) #[true, true, true, true, true, true, true, true, true, false] rfl rfl (any_of HT_.out (by kernel_rfl)) (fun _ _ _ h => h) (Or.inl ⟨by rfl, ?_⟩) ?_ ?_
      rotate_left
      · intro w'
        go_simp
        with_reducible rfl
      rotate_left
      · simp only [Act.put, List.setIfInBounds_toArray, List.set_cons_zero, List.set_cons_succ, i64_w, i32_w]
        rfl
      refine pure_ (i := 9) (N := some 2) (v := ?_) (a' := ?_) #[true, true, true, true, true, true, true, true, true, true] rfl rfl (any_of HT_.out (by kernel_rfl)) (fun _ _ _ h => h) (Or.inl ⟨by rfl, ?_⟩) ?_ ?_
      rotate_left
      · intro w'
        go_simp
        with_reducible rfl
      rotate_left
      · simp only [Act.put, List.setIfInBounds_toArray, List.set_cons_zero, List.set_cons_succ, i64_w, i32_w]
        rfl
      refine done_ (done_of HT_.out (by kernel_rfl)) ?_
      try go_wp2
      go_ret
      exact ⟨by first | rfl | (simp [errW_none, errW_some] <;> rfl) | (simp only [← hji12]; first | rfl | (simp [errW_none, errW_some] <;> rfl)) | (simp [*, errW_none, errW_some] <;> rfl), z4_⟩
  · replace c3 := Bool.eq_false_iff.mpr c3
    subst c3
    have H1 : (some (-1)) = some r := by rw [if_neg (show ¬ (false = true) by decide)] at H; exact H
    clear H
    have H := H1
    clear H1
    obtain rfl := Option.some.inj H
    go_enter Tryz.func41, Tryz.ntmps41
    go_wp2_with (first | ((with_reducible refine gate_dst (N := 1) rfl ?_); refine box_event ?hg (N := 1) ?hd (cs := #[.int .i64 a0_0, .int .i64 a0_1, .int .i64 a0_2, .int .i64 a0_3, .int .i64 a0_4]) (t := 44) ?hr ?_; (case hd => rfl); (case hg => rfl); (case hr => first | (go_simp; done) | (go_simp; rfl)); intro gb260 hg w20 hbox hb; have n0_ := Aside0.mk (below_step (z7_) hb); have n1_ := Aside0.mk (hbox); have n2_ := Aside0.mk ((z3_ : w.heap.size ≤ gb260)); have n3_ := Aside0.mk ((z3_ : w.heap.size ≤ gb260)); clear HB; have HB := n0_; have BK260 := n1_; have GW260 := n2_; have GE260 := n3_; clear n0_ n1_ n2_ n3_; clear hb hbox hg; have hcz21_0 : w20.cell? ⟨gb260, 0, none⟩ = some (.int .i64 a0_0) := (blk_cell BK260.out 0).trans rfl; have hcz21_1 : w20.cell? ⟨gb260, 1, none⟩ = some (.int .i64 a0_1) := (blk_cell BK260.out 1).trans rfl; have hcz21_2 : w20.cell? ⟨gb260, 2, none⟩ = some (.int .i64 a0_2) := (blk_cell BK260.out 2).trans rfl; have hcz21_3 : w20.cell? ⟨gb260, 3, none⟩ = some (.int .i64 a0_3) := (blk_cell BK260.out 3).trans rfl; have hcz21_4 : w20.cell? ⟨gb260, 4, none⟩ = some (.int .i64 a0_4) := (blk_cell BK260.out 4).trans rfl; have hfz21_0 := blk_frozen BK260.out 0; have hfz21_1 := blk_frozen BK260.out 1; have hfz21_2 := blk_frozen BK260.out 2; have hfz21_3 := blk_frozen BK260.out 3; have hfz21_4 := blk_frozen BK260.out 4) | ((with_reducible refine gate_callee (f := 65) rfl ?_); refine goesL_ (some 4) rfl rfl Tryz.func65 (by kernel_rfl) rfl #[.agg #[.int .i64 a0_0, .int .i64 a0_1, .int .i64 a0_2, .int .i64 a0_3, .int .i64 a0_4]] rfl (z6_) ?_; (with_reducible refine (impl_ValidFix.calls k a0_0 a0_1 a0_2 a0_3 a0_4 false _ A2.out).mono ?_); rintro e w22 ⟨rfl, hb⟩; refine ⟨_, rfl, ?_⟩; have n0_ := Aside0.mk (blk_below (g := gb260) (o := .cells #[.int .i64 a0_0, .int .i64 a0_1, .int .i64 a0_2, .int .i64 a0_3, .int .i64 a0_4] 44 (0, 0)) (z8_) hb); have n1_ := Aside0.mk (below_step (z4_) hb); clear BK260; clear HB; have BK260 := n0_; have HB := n1_; clear n0_ n1_; (try clear hb); (try clear hb2); (try clear hk); (try clear hi)))
    go_ret
    exact ⟨z10_, z4_⟩

/-! ### cmp_isNaN_int: function 117 -/
def cmp_isNaN_int.f (a0 : Int) : Option (Bool) := some (a0 != a0)
set_option maxHeartbeats 8000000 in
set_option maxRecDepth 100000 in
theorem cmp_isNaN_int.calls (a0 : Int) (r : Bool) (w : World) (h : cmp_isNaN_int.f a0 = some r) :
    Calls Tryz.prog 117 #[.int .i64 a0] w fun e w' => e = .returned (.bool r) ∧ Drawn0 w w' := by
  have H : (some (a0 != a0)) = some r := h
  clear h
  obtain rfl := Option.some.inj H
  go_enter Tryz.func117, Tryz.ntmps117
  go_wp2
  go_ret
  exact ⟨z14_, z12_⟩

/-! ### cmp_Compare_int: function 98 -/
def cmp_Compare_int.f (a0 : Int) (a1 : Int) : Option (Int) := (cmp_isNaN_int.f a0).bind fun t264 => ((cmp_isNaN_int.f a1).bind fun t265 => (if t264 = true then (if t265 = true then (some 0) else (some (-1))) else (if t265 = true then (some 1) else (if a0 < a1 then (some (-1)) else (if a0 > a1 then (some 1) else (some 0))))))
set_option maxHeartbeats 8000000 in
set_option maxRecDepth 100000 in
theorem cmp_Compare_int.calls (a0 : Int) (a1 : Int) (r : Int) (w : World) (h : cmp_Compare_int.f a0 a1 = some r) :
    Calls Tryz.prog 98 #[.int .i64 a0, .int .i64 a1] w fun e w' => e = .returned (.int .i64 r) ∧ Drawn0 w w' := by
  have H : ((cmp_isNaN_int.f a0).bind fun t264 => ((cmp_isNaN_int.f a1).bind fun t265 => (if t264 = true then (if t265 = true then (some 0) else (some (-1))) else (if t265 = true then (some 1) else (if a0 < a1 then (some (-1)) else (if a0 > a1 then (some 1) else (some 0))))))) = some r := h
  clear h
  replace H := Option.bind_eq_some_iff.mp H
  obtain ⟨t264, A30, H⟩ := H
  replace H : ((cmp_isNaN_int.f a1).bind fun t265 => (if t264 = true then (if t265 = true then (some 0) else (some (-1))) else (if t265 = true then (some 1) else (if a0 < a1 then (some (-1)) else (if a0 > a1 then (some 1) else (some 0)))))) = some r := H
  have A3 := Aside0.mk A30
  clear A30
  replace H := Option.bind_eq_some_iff.mp H
  obtain ⟨t265, A40, H⟩ := H
  replace H : (if t264 = true then (if t265 = true then (some 0) else (some (-1))) else (if t265 = true then (some 1) else (if a0 < a1 then (some (-1)) else (if a0 > a1 then (some 1) else (some 0))))) = some r := H
  have A4 := Aside0.mk A40
  clear A40
  by_cases c5 : t264 = true
  · subst c5
    have H1 : (if t265 = true then (some 0) else (some (-1))) = some r := by rw [if_pos rfl] at H; exact H
    clear H
    have H := H1
    clear H1
    by_cases c6 : t265 = true
    · subst c6
      have H1 : (some 0) = some r := by rw [if_pos rfl] at H; exact H
      clear H
      have H := H1
      clear H1
      obtain rfl := Option.some.inj H
      go_enter Tryz.func98, Tryz.ntmps98
      go_wp2_with (first | ((with_reducible refine gate_callee (f := 117) rfl ?_); refine goesL_ (some 8) rfl rfl Tryz.func117 (by kernel_rfl) rfl #[.int .i64 a0] rfl (z6_) ?_; (with_reducible refine (cmp_isNaN_int.calls a0 true _ A3.out).mono ?_); rintro e w' ⟨rfl, ⟨nd, rfl⟩⟩; refine ⟨_, rfl, ?_⟩) | ((with_reducible refine gate_callee (f := 117) rfl ?_); refine goesL_ (some 10) rfl rfl Tryz.func117 (by kernel_rfl) rfl #[.int .i64 a1] rfl (z6_) ?_; (with_reducible refine (cmp_isNaN_int.calls a1 true _ A4.out).mono ?_); rintro e w' ⟨rfl, ⟨nd, rfl⟩⟩; refine ⟨_, rfl, ?_⟩))
      go_ret
      exact ⟨z14_, z12_⟩
    · replace c6 := Bool.eq_false_iff.mpr c6
      subst c6
      have H1 : (some (-1)) = some r := by rw [if_neg (show ¬ (false = true) by decide)] at H; exact H
      clear H
      have H := H1
      clear H1
      obtain rfl := Option.some.inj H
      go_enter Tryz.func98, Tryz.ntmps98
      go_wp2_with (first | ((with_reducible refine gate_callee (f := 117) rfl ?_); refine goesL_ (some 8) rfl rfl Tryz.func117 (by kernel_rfl) rfl #[.int .i64 a0] rfl (z6_) ?_; (with_reducible refine (cmp_isNaN_int.calls a0 true _ A3.out).mono ?_); rintro e w' ⟨rfl, ⟨nd, rfl⟩⟩; refine ⟨_, rfl, ?_⟩) | ((with_reducible refine gate_callee (f := 117) rfl ?_); refine goesL_ (some 10) rfl rfl Tryz.func117 (by kernel_rfl) rfl #[.int .i64 a1] rfl (z6_) ?_; (with_reducible refine (cmp_isNaN_int.calls a1 false _ A4.out).mono ?_); rintro e w' ⟨rfl, ⟨nd, rfl⟩⟩; refine ⟨_, rfl, ?_⟩))
      go_ret
      exact ⟨z14_, z12_⟩
  · replace c5 := Bool.eq_false_iff.mpr c5
    subst c5
    have H1 : (if t265 = true then (some 1) else (if a0 < a1 then (some (-1)) else (if a0 > a1 then (some 1) else (some 0)))) = some r := by rw [if_neg (show ¬ (false = true) by decide)] at H; exact H
    clear H
    have H := H1
    clear H1
    by_cases c7 : t265 = true
    · subst c7
      have H1 : (some 1) = some r := by rw [if_pos rfl] at H; exact H
      clear H
      have H := H1
      clear H1
      obtain rfl := Option.some.inj H
      go_enter Tryz.func98, Tryz.ntmps98
      go_wp2_with (first | ((with_reducible refine gate_callee (f := 117) rfl ?_); refine goesL_ (some 8) rfl rfl Tryz.func117 (by kernel_rfl) rfl #[.int .i64 a0] rfl (z6_) ?_; (with_reducible refine (cmp_isNaN_int.calls a0 false _ A3.out).mono ?_); rintro e w' ⟨rfl, ⟨nd, rfl⟩⟩; refine ⟨_, rfl, ?_⟩) | ((with_reducible refine gate_callee (f := 117) rfl ?_); refine goesL_ (some 10) rfl rfl Tryz.func117 (by kernel_rfl) rfl #[.int .i64 a1] rfl (z6_) ?_; (with_reducible refine (cmp_isNaN_int.calls a1 true _ A4.out).mono ?_); rintro e w' ⟨rfl, ⟨nd, rfl⟩⟩; refine ⟨_, rfl, ?_⟩))
      go_ret
      exact ⟨z14_, z12_⟩
    · replace c7 := Bool.eq_false_iff.mpr c7
      subst c7
      have H1 : (if a0 < a1 then (some (-1)) else (if a0 > a1 then (some 1) else (some 0))) = some r := by rw [if_neg (show ¬ (false = true) by decide)] at H; exact H
      clear H
      have H := H1
      clear H1
      by_cases c8 : a0 < a1
      · rw [if_pos c8] at H
        have c8b0 : decide (a0 < a1) = true := decide_eq_true c8
        clear c8
        obtain rfl := Option.some.inj H
        go_enter Tryz.func98, Tryz.ntmps98
        go_wp2_with (first | ((with_reducible refine gate_callee (f := 117) rfl ?_); refine goesL_ (some 8) rfl rfl Tryz.func117 (by kernel_rfl) rfl #[.int .i64 a0] rfl (z6_) ?_; (with_reducible refine (cmp_isNaN_int.calls a0 false _ A3.out).mono ?_); rintro e w' ⟨rfl, ⟨nd, rfl⟩⟩; refine ⟨_, rfl, ?_⟩) | ((with_reducible refine gate_callee (f := 117) rfl ?_); refine goesL_ (some 10) rfl rfl Tryz.func117 (by kernel_rfl) rfl #[.int .i64 a1] rfl (z6_) ?_; (with_reducible refine (cmp_isNaN_int.calls a1 false _ A4.out).mono ?_); rintro e w' ⟨rfl, ⟨nd, rfl⟩⟩; refine ⟨_, rfl, ?_⟩))
        go_ret
        exact ⟨z14_, z12_⟩
      · rw [if_neg c8] at H
        have c8b0 : decide (a0 < a1) = false := decide_eq_false c8
        clear c8
        by_cases c9 : a0 > a1
        · rw [if_pos c9] at H
          have c9b0 : decide (a1 < a0) = true := decide_eq_true c9
          clear c9
          obtain rfl := Option.some.inj H
          go_enter Tryz.func98, Tryz.ntmps98
          go_wp2_with (first | ((with_reducible refine gate_callee (f := 117) rfl ?_); refine goesL_ (some 8) rfl rfl Tryz.func117 (by kernel_rfl) rfl #[.int .i64 a0] rfl (z6_) ?_; (with_reducible refine (cmp_isNaN_int.calls a0 false _ A3.out).mono ?_); rintro e w' ⟨rfl, ⟨nd, rfl⟩⟩; refine ⟨_, rfl, ?_⟩) | ((with_reducible refine gate_callee (f := 117) rfl ?_); refine goesL_ (some 10) rfl rfl Tryz.func117 (by kernel_rfl) rfl #[.int .i64 a1] rfl (z6_) ?_; (with_reducible refine (cmp_isNaN_int.calls a1 false _ A4.out).mono ?_); rintro e w' ⟨rfl, ⟨nd, rfl⟩⟩; refine ⟨_, rfl, ?_⟩))
          go_ret
          exact ⟨z14_, z12_⟩
        · rw [if_neg c9] at H
          have c9b0 : decide (a1 < a0) = false := decide_eq_false c9
          clear c9
          obtain rfl := Option.some.inj H
          go_enter Tryz.func98, Tryz.ntmps98
          go_wp2_with (first | ((with_reducible refine gate_callee (f := 117) rfl ?_); refine goesL_ (some 8) rfl rfl Tryz.func117 (by kernel_rfl) rfl #[.int .i64 a0] rfl (z6_) ?_; (with_reducible refine (cmp_isNaN_int.calls a0 false _ A3.out).mono ?_); rintro e w' ⟨rfl, ⟨nd, rfl⟩⟩; refine ⟨_, rfl, ?_⟩) | ((with_reducible refine gate_callee (f := 117) rfl ?_); refine goesL_ (some 10) rfl rfl Tryz.func117 (by kernel_rfl) rfl #[.int .i64 a1] rfl (z6_) ?_; (with_reducible refine (cmp_isNaN_int.calls a1 false _ A4.out).mono ?_); rintro e w' ⟨rfl, ⟨nd, rfl⟩⟩; refine ⟨_, rfl, ?_⟩))
          go_ret
          exact ⟨z14_, z12_⟩

/-! ### impl_bucketPlace_1: function 97 -/
def impl_bucketPlace_1.f (a0_0 : Int) (a0_1 : Int) (a0_2 : Int) (a1 : Int) : Option (Int) := (cmp_Compare_int.f a0_0 a1).bind fun t267 => (some t267)
set_option maxHeartbeats 8000000 in
set_option maxRecDepth 100000 in
theorem impl_bucketPlace_1.calls (a0_0 : Int) (a0_1 : Int) (a0_2 : Int) (a1 : Int) (r : Int) (w : World) (h : impl_bucketPlace_1.f a0_0 a0_1 a0_2 a1 = some r) :
    Calls Tryz.prog 97 #[.agg #[.int .i64 a0_0, .int .i64 a0_1, .int .i64 a0_2], .int .i64 a1] w fun e w' => e = .returned (.int .i64 r) ∧ Below w.heap.size w w' := by
  have hu74 := Tryz.underlying74
  have HB := Aside0.mk (Below.refl w.heap.size w)
  have H : ((cmp_Compare_int.f a0_0 a1).bind fun t267 => (some t267)) = some r := h
  clear h
  replace H := Option.bind_eq_some_iff.mp H
  obtain ⟨t267, A30, H⟩ := H
  replace H : (some t267) = some r := H
  have A3 := Aside0.mk A30
  clear A30
  obtain rfl := Option.some.inj H
  go_enter Tryz.func97, Tryz.ntmps97
  go_wp2_with (first | ((with_reducible refine gate_dst (N := 2) rfl ?_); refine box_event ?hg (N := 2) ?hd (cs := #[.int .i64 a0_0, .int .i64 a0_1, .int .i64 a0_2]) (t := 74) ?hr ?_; (case hd => rfl); (case hg => rfl); (case hr => first | (go_simp; done) | (go_simp; rfl)); intro gb266 hg w4 hbox hb; have n0_ := Aside0.mk (below_step (z7_) hb); have n1_ := Aside0.mk (hbox); have n2_ := Aside0.mk ((z3_ : w.heap.size ≤ gb266)); have n3_ := Aside0.mk ((z3_ : w.heap.size ≤ gb266)); clear HB; have HB := n0_; have BK266 := n1_; have GW266 := n2_; have GE266 := n3_; clear n0_ n1_ n2_ n3_; clear hb hbox hg; have hcz5_0 : w4.cell? ⟨gb266, 0, none⟩ = some (.int .i64 a0_0) := (blk_cell BK266.out 0).trans rfl; have hcz5_1 : w4.cell? ⟨gb266, 1, none⟩ = some (.int .i64 a0_1) := (blk_cell BK266.out 1).trans rfl; have hcz5_2 : w4.cell? ⟨gb266, 2, none⟩ = some (.int .i64 a0_2) := (blk_cell BK266.out 2).trans rfl; have hfz5_0 := blk_frozen BK266.out 0; have hfz5_1 := blk_frozen BK266.out 1; have hfz5_2 := blk_frozen BK266.out 2) | ((with_reducible refine gate_callee (f := 98) rfl ?_); refine goesL_ (some 8) rfl rfl Tryz.func98 (by kernel_rfl) rfl #[.int .i64 a0_0, .int .i64 a1] rfl (z6_) ?_; (with_reducible refine (cmp_Compare_int.calls a0_0 a1 t267 _ A3.out).mono ?_); rintro e w' ⟨rfl, ⟨nd, rfl⟩⟩; refine ⟨_, rfl, ?_⟩))
  go_ret
  exact ⟨z10_, by repeat (first | (with_reducible first | exact HB.out | apply below_alloc | apply pw_below_drewN | apply below_drew1 | refine below_set ?_ GE266.out) | exact HB.out)⟩

/-! ### impl_Bucket_int: function 96 -/
def impl_Bucket_int.l0 : Nat → List (S74) → Int → Int → Int → Int → Option (Int × Bool)
  | 0, _, _, _, _, _ => none
  | k + 1, x0, x1, x8, x9, x10 => if x9 < x10 then (if 0 ≤ (wrap64 ((IntKind.u64.wrap (wrap64 (x9 + x10))) / 2)) then (if (wrap64 ((IntKind.u64.wrap (wrap64 (x9 + x10))) / 2)) < (x0.length : Int) then ((impl_bucketPlace_1.f ((rd_T74 x0 (wrap64 ((IntKind.u64.wrap (wrap64 (x9 + x10))) / 2))).f0) ((rd_T74 x0 (wrap64 ((IntKind.u64.wrap (wrap64 (x9 + x10))) / 2))).f1) ((rd_T74 x0 (wrap64 ((IntKind.u64.wrap (wrap64 (x9 + x10))) / 2))).f2) x1).bind fun t269 => (if t269 < 0 then (impl_Bucket_int.l0 k x0 x1 x8 (wrap64 ((wrap64 ((IntKind.u64.wrap (wrap64 (x9 + x10))) / 2)) + 1)) x10) else (impl_Bucket_int.l0 k x0 x1 x8 x9 (wrap64 ((IntKind.u64.wrap (wrap64 (x9 + x10))) / 2))))) else (none)) else (none)) else (if x9 < x8 then (if 0 ≤ x9 then (if x9 < (x0.length : Int) then ((impl_bucketPlace_1.f ((rd_T74 x0 x9).f0) ((rd_T74 x0 x9).f1) ((rd_T74 x0 x9).f2) x1).bind fun t271 => (some (x9, (t271 == 0)))) else (none)) else (none)) else (some (x9, false)))
def impl_Bucket_int.f (k : Nat) (l0 : List (S74)) (a1 : Int) (a2 : Unit) : Option (Int × Bool) := impl_Bucket_int.l0 k l0 a1 (l0.length : Int) 0 (l0.length : Int)
theorem impl_Bucket_int.mono_l : ∀ k, (∀ y0 y1 y2 y3 y4, LeO (impl_Bucket_int.l0 k y0 y1 y2 y3 y4) (impl_Bucket_int.l0 (k + 1) y0 y1 y2 y3 y4))
  | 0 => fun _ _ _ _ _ r h => by simp [impl_Bucket_int.l0] at h
  | k + 1 => by
    have ih0 := impl_Bucket_int.mono_l k
    · intro y0 y1 y2 y3 y4
      unfold impl_Bucket_int.l0
      repeat' first
      | (with_reducible exact ih0 _ _ _ _ _)
      | (with_reducible exact LeO.refl _)
      | (with_reducible exact LeO.none _)
      | (with_reducible refine LeO.ite ?_ ?_)
      | (with_reducible refine LeO.bind ?_ (fun _ => ?_))
      | exact ih0 _ _ _ _ _
      | exact LeO.none _
      | refine LeO.ite ?_ ?_
      | refine LeO.bind ?_ (fun _ => ?_)
theorem impl_Bucket_int.mono : ∀ a0 a1 a2 k, LeO (impl_Bucket_int.f k a0 a1 a2) (impl_Bucket_int.f (k + 1) a0 a1 a2) := by
  intro a0 a1 a2 k
  have ih0 := impl_Bucket_int.mono_l k
  unfold impl_Bucket_int.f
  repeat' first
      | (with_reducible exact ih0 _ _ _ _ _)
      | (with_reducible exact LeO.refl _)
      | (with_reducible exact LeO.none _)
      | (with_reducible refine LeO.ite ?_ ?_)
      | (with_reducible refine LeO.bind ?_ (fun _ => ?_))
      | exact ih0 _ _ _ _ _
      | exact LeO.none _
      | refine LeO.ite ?_ ?_
      | refine LeO.bind ?_ (fun _ => ?_)
set_option maxHeartbeats 8000000 in
set_option maxRecDepth 100000 in
theorem impl_Bucket_int.calls (k : Nat) (A0 : Option Addr) (c0 : Nat) (l0 : List (S74)) (a1 : Int) (a2 : Unit) (r1 : Int) (r2 : Bool) (w : World) (hr0 : Kd.C k74 w A0 l0.length l0) (hc0 : l0.length ≤ c0) (h : impl_Bucket_int.f k l0 a1 a2 = some (r1, r2)) :
    Calls Tryz.prog 96 #[.slice A0 l0.length c0, .int .i64 a1, .func (.func 97) #[] #[]] w fun e w' => e = .returned (.tuple #[.int .i64 r1, .bool r2]) ∧ Below w.heap.size w w' := by
  have hu74 := Tryz.underlying74
  have HR0 := Aside0.mk hr0
  have HC0 := Aside0.mk hc0
  clear hr0 hc0
  have HB := Aside0.mk (Below.refl w.heap.size w)
  have H : (impl_Bucket_int.l0 k l0 a1 (l0.length : Int) 0 (l0.length : Int)) = some (r1, r2) := h
  clear h
  have H' := Aside0.mk H
  clear H
  go_enter Tryz.func96, Tryz.ntmps96
  go_wp2
  go_loopg [9, 10] k (fun kq v9 v10 w' => ∃ (x9_1 : Int) (x10_1 : Int), v9 = .int .i64 x9_1 ∧ v10 = .int .i64 x10_1 ∧ Aside0 (impl_Bucket_int.l0 kq l0 a1 (l0.length : Int) x9_1 x10_1 = some (r1, r2)) ∧ Aside0 (kq ≤ k) ∧ Aside0 (Below w.heap.size w w'))
  case atStart => exact ⟨(0), ((l0.length : Int)), (z14_), (z14_), H', ⟨Nat.le_refl _⟩, ⟨z7_⟩⟩
  case round =>
    clear H'
    try clear p2
    obtain ⟨x9_1, x10_1, rfl, rfl, HA, HK1, HB⟩ := hrel
    cases gk with
    | zero => exact absurd HA.out (by simp [impl_Bucket_int.l0])
    | succ k1 =>
      have H := HA.out
      clear HA
      simp only [impl_Bucket_int.l0] at H
      by_cases c4 : x9_1 < x10_1
      · rw [if_pos c4] at H
        have c4b0 : decide (x9_1 < x10_1) = true := decide_eq_true c4
        clear c4
        obtain ⟨ji5, hji5⟩ : ∃ j_ : Int, (wrap64 ((IntKind.u64.wrap (wrap64 (x9_1 + x10_1))) / 2)) = j_ := ⟨_, rfl⟩
        replace H : (if 0 ≤ (ji5) then (if (ji5) < (l0.length : Int) then ((impl_bucketPlace_1.f ((rd_T74 l0 (ji5)).f0) ((rd_T74 l0 (ji5)).f1) ((rd_T74 l0 (ji5)).f2) a1).bind fun t269 => (if t269 < 0 then (impl_Bucket_int.l0 k1 l0 a1 (l0.length : Int) (wrap64 ((ji5) + 1)) x10_1) else (impl_Bucket_int.l0 k1 l0 a1 (l0.length : Int) x9_1 ji5))) else (none)) else (none)) = some (r1, r2) := by first | (rw [hji5] at H; exact H) | (simp only [hji5] at H ⊢; exact H)
        have hji5w : (IntKind.i64.wrap ((IntKind.u64.wrap (wrap64 (x9_1 + x10_1))) / 2)) = ji5 := (i64_w _).trans hji5
        by_cases c6 : 0 ≤ (ji5)
        · rw [if_pos c6] at H
          have c6b0 : decide (0 ≤ (ji5)) = true := decide_eq_true c6
          clear c6
          by_cases c7 : (ji5) < (l0.length : Int)
          · rw [if_pos c7] at H
            have c7b0 : decide ((ji5) < (l0.length : Int)) = true := decide_eq_true c7
            clear c7
            replace H := Option.bind_eq_some_iff.mp H
            obtain ⟨t269, A80, H⟩ := H
            replace H : (if t269 < 0 then (impl_Bucket_int.l0 k1 l0 a1 (l0.length : Int) (wrap64 ((ji5) + 1)) x10_1) else (impl_Bucket_int.l0 k1 l0 a1 (l0.length : Int) x9_1 ji5)) = some (r1, r2) := H
            have A8 := Aside0.mk A80
            clear A80
            by_cases c9 : t269 < 0
            · rw [if_pos c9] at H
              have c9b0 : decide (t269 < 0) = true := decide_eq_true c9
              clear c9
              have H' := Aside0.mk H
              clear H
              have p268 : 0 ≤ ((ji5) : Int) := of_decide_eq_true (z13_)
              have q268 : (ji5) < (l0.length : Int) := of_decide_eq_true (z13_)
              obtain ⟨ad268, e268, hx268_0, hx268_1, hx268_2⟩ := at_T74 HR0.out (ji5) p268 q268
              cases e268
              replace hx268_0 := (HB.out.cell (World.block_lt_of_cell? w _ hx268_0)).trans hx268_0
              replace hx268_1 := (HB.out.cell (World.block_lt_of_cell? w _ hx268_1)).trans hx268_1
              replace hx268_2 := (HB.out.cell (World.block_lt_of_cell? w _ hx268_2)).trans hx268_2
              replace p268 := eq_true p268
              replace q268 := eq_true q268
              go_wp2_with (first | (go_at_call 97; (with_reducible refine (impl_bucketPlace_1.calls ((rd_T74 l0 (ji5)).f0) ((rd_T74 l0 (ji5)).f1) ((rd_T74 l0 (ji5)).f2) a1 t269 _ A8.out).mono ?_); rintro e w10 ⟨rfl, hb⟩; have n0_ := Aside0.mk (below_step (z7_) hb); clear HB; have HB := n0_; clear n0_; (try clear hb); (try clear hb2); (try clear hk); (try clear hi)))
              go_roundg k1
              case measure => have := HK1.out; omega
              case rel => exact ⟨(wrap64 ((ji5) + 1)), (x10_1), (z11_), (z14_), H', ⟨by have := HK1.out; omega⟩, ⟨z7_⟩⟩
            · rw [if_neg c9] at H
              have c9b0 : decide (t269 < 0) = false := decide_eq_false c9
              clear c9
              have H' := Aside0.mk H
              clear H
              have p268 : 0 ≤ ((ji5) : Int) := of_decide_eq_true (z13_)
              have q268 : (ji5) < (l0.length : Int) := of_decide_eq_true (z13_)
              obtain ⟨ad268, e268, hx268_0, hx268_1, hx268_2⟩ := at_T74 HR0.out (ji5) p268 q268
              cases e268
              replace hx268_0 := (HB.out.cell (World.block_lt_of_cell? w _ hx268_0)).trans hx268_0
              replace hx268_1 := (HB.out.cell (World.block_lt_of_cell? w _ hx268_1)).trans hx268_1
              replace hx268_2 := (HB.out.cell (World.block_lt_of_cell? w _ hx268_2)).trans hx268_2
              replace p268 := eq_true p268
              replace q268 := eq_true q268
              go_wp2_with (first | (go_at_call 97; (with_reducible refine (impl_bucketPlace_1.calls ((rd_T74 l0 (ji5)).f0) ((rd_T74 l0 (ji5)).f1) ((rd_T74 l0 (ji5)).f2) a1 t269 _ A8.out).mono ?_); rintro e w11 ⟨rfl, hb⟩; have n0_ := Aside0.mk (below_step (z7_) hb); clear HB; have HB := n0_; clear n0_; (try clear hb); (try clear hb2); (try clear hk); (try clear hi)))
              go_roundg k1
              case measure => have := HK1.out; omega
              case rel => exact ⟨(x9_1), (ji5), (z14_), (z11_), H', ⟨by have := HK1.out; omega⟩, ⟨z7_⟩⟩
          · rw [if_neg c7] at H
            exact absurd H (by simp)
        · rw [if_neg c6] at H
          exact absurd H (by simp)
      · rw [if_neg c4] at H
        have c4b0 : decide (x9_1 < x10_1) = false := decide_eq_false c4
        clear c4
        by_cases c12 : x9_1 < (l0.length : Int)
        · rw [if_pos c12] at H
          have c12b0 : decide (x9_1 < (l0.length : Int)) = true := decide_eq_true c12
          clear c12
          by_cases c13 : 0 ≤ x9_1
          · rw [if_pos c13] at H
            have c13b0 : decide (0 ≤ x9_1) = true := decide_eq_true c13
            clear c13
            by_cases c14 : x9_1 < (l0.length : Int)
            · rw [if_pos c14] at H
              have c14b0 : decide (x9_1 < (l0.length : Int)) = true := decide_eq_true c14
              clear c14
              replace H := Option.bind_eq_some_iff.mp H
              obtain ⟨t271, A150, H⟩ := H
              replace H : (some (x9_1, (t271 == 0))) = some (r1, r2) := H
              have A15 := Aside0.mk A150
              clear A150
              simp only [Option.some.injEq, Prod.mk.injEq] at H
              obtain ⟨rfl, rfl⟩ := H
              have p270 : 0 ≤ (x9_1 : Int) := of_decide_eq_true (z13_)
              have q270 : x9_1 < (l0.length : Int) := of_decide_eq_true (z13_)
              obtain ⟨ad270, e270, hx270_0, hx270_1, hx270_2⟩ := at_T74 HR0.out x9_1 p270 q270
              cases e270
              replace hx270_0 := (HB.out.cell (World.block_lt_of_cell? w _ hx270_0)).trans hx270_0
              replace hx270_1 := (HB.out.cell (World.block_lt_of_cell? w _ hx270_1)).trans hx270_1
              replace hx270_2 := (HB.out.cell (World.block_lt_of_cell? w _ hx270_2)).trans hx270_2
              replace p270 := eq_true p270
              replace q270 := eq_true q270
              go_wp2_with (first | (go_at_call 97; (with_reducible refine (impl_bucketPlace_1.calls ((rd_T74 l0 x9_1).f0) ((rd_T74 l0 x9_1).f1) ((rd_T74 l0 x9_1).f2) a1 t271 _ A15.out).mono ?_); rintro e w16 ⟨rfl, hb⟩; have n0_ := Aside0.mk (below_step (z7_) hb); clear HB; have HB := n0_; clear n0_; (try clear hb); (try clear hb2); (try clear hk); (try clear hi)))
              go_ret2
              exact ⟨z10_, z7_⟩
            · rw [if_neg c14] at H
              exact absurd H (by simp)
          · rw [if_neg c13] at H
            exact absurd H (by simp)
        · rw [if_neg c12] at H
          have c12b0 : decide (x9_1 < (l0.length : Int)) = false := decide_eq_false c12
          clear c12
          simp only [Option.some.injEq, Prod.mk.injEq] at H
          obtain ⟨rfl, rfl⟩ := H
          go_wp2
          go_ret2
          exact ⟨z10_, z7_⟩

/-! ### impl_bucketPlace: function 73 -/
def impl_bucketPlace.f (k : Nat) (l0 : List (S74)) (a1 : Int) : Option (Int × Bool) := (impl_Bucket_int.f k l0 a1 ()).bind fun bt272 => (some (bt272.1, bt272.2))
theorem impl_bucketPlace.mono : ∀ a0 a1 k, LeO (impl_bucketPlace.f k a0 a1) (impl_bucketPlace.f (k + 1) a0 a1) := by
  intro a0 a1 k
  unfold impl_bucketPlace.f
  repeat' first
      | (with_reducible exact impl_Bucket_int.mono _ _ _ _)
      | (with_reducible exact LeO.refl _)
      | (with_reducible exact LeO.none _)
      | (with_reducible refine LeO.ite ?_ ?_)
      | (with_reducible refine LeO.bind ?_ (fun _ => ?_))
      | exact impl_Bucket_int.mono _ _ _ _
      | exact LeO.none _
      | refine LeO.ite ?_ ?_
      | refine LeO.bind ?_ (fun _ => ?_)
set_option maxHeartbeats 8000000 in
set_option maxRecDepth 100000 in
theorem impl_bucketPlace.calls (k : Nat) (A0 : Option Addr) (c0 : Nat) (l0 : List (S74)) (a1 : Int) (r1 : Int) (r2 : Bool) (w : World) (hr0 : Kd.C k74 w A0 l0.length l0) (hc0 : l0.length ≤ c0) (h : impl_bucketPlace.f k l0 a1 = some (r1, r2)) :
    Calls Tryz.prog 73 #[.slice A0 l0.length c0, .int .i64 a1] w fun e w' => e = .returned (.tuple #[.int .i64 r1, .bool r2]) ∧ Below w.heap.size w w' := by
  have HR0 := Aside0.mk hr0
  have HC0 := Aside0.mk hc0
  clear hr0 hc0
  have HB := Aside0.mk (Below.refl w.heap.size w)
  have H : ((impl_Bucket_int.f k l0 a1 ()).bind fun bt272 => (some (bt272.1, bt272.2))) = some (r1, r2) := h
  clear h
  replace H := Option.bind_eq_some_iff.mp H
  obtain ⟨⟨t272, t273⟩, A30, H⟩ := H
  replace H : (some (t272, t273)) = some (r1, r2) := H
  have A3 := Aside0.mk A30
  clear A30
  simp only [Option.some.injEq, Prod.mk.injEq] at H
  obtain ⟨rfl, rfl⟩ := H
  go_enter Tryz.func73, Tryz.ntmps73
  go_wp2_with (first | ((with_reducible refine gate_callee (f := 96) rfl ?_); refine goesL_ (some 8) rfl rfl Tryz.func96 (by kernel_rfl) rfl #[.slice A0 l0.length c0, .int .i64 a1, .func (.func 97) #[] #[]] rfl (z6_) ?_; (with_reducible refine (impl_Bucket_int.calls k _ _ l0 a1 () t272 t273 _ ?side1 ?side2 A3.out).mono ?_); (case side1 => repeat (first | exact HR0.out | (with_reducible refine Kd.C_alloc ?_ _) | (with_reducible refine Kd.C_drewN ?_ _) | (with_reducible refine Kd.C_drew ?_))); (case side2 => exact HC0.out); rintro e w4 ⟨rfl, hb⟩; refine ⟨_, rfl, ?_⟩; have n0_ := Aside0.mk (below_step (z7_) hb); clear HB; have HB := n0_; clear n0_; (try clear hb); (try clear hb2); (try clear hk); (try clear hi)))
  go_ret2
  exact ⟨z10_, z7_⟩

end Go.Proofs.YtdggcfpimjdckaaGreatDoor.PFnExactRunSession
