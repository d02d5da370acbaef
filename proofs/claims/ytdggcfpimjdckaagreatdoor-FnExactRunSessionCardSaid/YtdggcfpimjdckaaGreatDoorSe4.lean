/- The rounds of RunSession of both sides; no condition of its own. -/
import Derived.Test.YtdggcfpimjdckaaGreatDoorSe0
import Derived.IntWalk
namespace Go.Proofs.YtdggcfpimjdckaaGreatDoor.PFnExactRunSession
open Go.RowKit Go.Proofs.YtdggcfpimjdckaaGreatDoorW.PrintWords Go.Proofs.YtdggcfpimjdckaaGreatDoorW.PrintLast Go.Proofs.YtdggcfpimjdckaaGreatDoorW.PrintMore
attribute [local go_sem] max2_int min2_int max_two min_two max_three min_three max_four min_four   -- for this text's walks alone
set_option linter.unusedVariables false
set_option linter.unusedSimpArgs false
/-- Lines one by one; st is what a line does. -/
def runC (st : Sta → ByteArray → ByteArray × Sta) : Sta → List ByteArray → ByteArray → ByteArray
  | _, [], out => out
  | s, a :: l, out => runC st (st s a).2 l (out ++ ((st s a).1 ++ ⟨#[10]⟩))
def Sta.zero : Sta := ⟨0, [], 1000000, 10, 0⟩
structure Runs (st : Sta → ByteArray → ByteArray × Sta) (Ok : Sta → Prop) (f : FuncId) (I : World → Nat → Sta → Prop) : Prop where
  call : ∀ (g : Nat) (s : Sta) (a : ByteArray) (w0 w : World), Tc w0 → Below w0.heap.size w0 w → w0.heap.size ≤ g → I w g s → Ok s → a.size ≤ 1048576 →
    Calls Tryz.prog f #[.pointer (some ⟨g, 0, none⟩), .string a] w fun e w' => e = .returned (.string (st s a).1) ∧ I w' g (st s a).2 ∧ Below w0.heap.size w0 w'
  ok : ∀ s a, Ok s → a.size ≤ 1048576 → Ok (st s a).2
  size : ∀ s a, Ok s → a.size ≤ 1048576 → (st s a).1.size ≤ 4000
/-- What holds at the head of a round. -/
structure RunI (st : Sta → ByteArray → ByteArray × Sta) (Ok : Sta → Prop) (I : World → Nat → Sta → Prop) (w0 : World) (g : Nat) (R : ByteArray) (l : List ByteArray) (n : Nat) (s : Sta) (out : ByteArray) (W : World) : Prop where
  ok : Ok s
  i : I W g s
  b : Below w0.heap.size w0 W
  r : runC st s l out = R
  z : out.size ≤ n * 4001
theorem below_cell1 {w W : World} (h : Below w.heap.size w W) {a : Addr} {v : Value} (c : w.cell? a = some v) : W.cell? a = some v := (h.cell (World.block_lt_of_cell? w _ c)).trans c
theorem RunI.next {st : Sta → ByteArray → ByteArray × Sta} {Ok : Sta → Prop} {f : FuncId} {I : World → Nat → Sta → Prop} (hst : Runs st Ok f I) {w0 : World} {g : Nat} {R : ByteArray} {a : ByteArray} {l : List ByteArray} {n : Nat} {s : Sta} {out out' : ByteArray} {W W' : World} (h : RunI st Ok I w0 g R (a :: l) n s out W) (ha : a.size ≤ 1048576) (hi : I W' g (st s a).2) (hb : Below w0.heap.size w0 W') (ho : out' = out ++ ((st s a).1 ++ ⟨#[10]⟩)) : RunI st Ok I w0 g R l (n + 1) (st s a).2 out' W' := by
  have h1 := hst.size s a h.ok ha
  have h2 := h.z
  refine ⟨hst.ok s a h.ok ha, hi, hb, by rw [ho]; exact h.r, ?_⟩
  rw [ho, ByteArray.size_append, ByteArray.size_append]
  show out.size + ((st s a).1.size + 1) ≤ _
  omega
theorem take20 {l : List ByteArray} {i M : Nat} (hM : M = min l.length 20) (h : i < M) : ((l.take M).drop i) = rdOf ByteArray.empty l (i : Int) :: (l.take M).drop (i + 1) ∧ rdOf ByteArray.empty l (i : Int) ∈ l := by
  have h1 : i < l.length := by omega
  have e : rdOf ByteArray.empty l (i : Int) = l[i] := by unfold rdOf; simp [List.getD_eq_getElem?_getD, h1]
  rw [e]
  refine ⟨?_, List.getElem_mem _⟩
  rw [List.drop_eq_getElem_cons (by rw [List.length_take]; omega)]
  simp
set_option maxRecDepth 100000 in
set_option maxHeartbeats 8000000 in
theorem se_run (st : Sta → ByteArray → ByteArray × Sta) (Ok : Sta → Prop) (hst : Runs st Ok 10 SeI) (h0 : Ok Sta.zero) (A : Option Addr) (c : Nat) (l : List ByteArray) (w : World) (hT : Tc w) (hr : Kd.string.C w A l.length l) (hc : l.length ≤ c) (hl : ∀ x ∈ l, x.size ≤ 1048576) (R : ByteArray) (hR : runC st Sta.zero (l.take (min l.length 20)) ⟨#[]⟩ = R) :
    Calls Tryz.prog 7 #[.slice A l.length c] w fun e w' => e = .returned (.string R) ∧ Below w.heap.size w w' := by
  have HR := Aside0.mk hr
  have HT := Aside0.mk hT
  have HS := Aside0.mk hst
  have HL := Aside0.mk hl
  have hu36 := Tryz.underlying36
  have hu30 := Tryz.underlying30
  obtain ⟨i22, hi22, hz0, hz1, hz2⟩ := info_parts info9
  have hI0 : Aside0 (SeI (w.alloc (.cells #[.int .i64 0, .slice none 0 0, .int .i64 1000000, .int .i64 10, .int .i64 0] 36)) w.heap.size Sta.zero) := ⟨⟨_, heap_alloc_new _ _, Kd.R_nil _ _ _ _ _⟩⟩
  have H0 : Aside0 (Ok Sta.zero ∧ runC st Sta.zero (l.take (min l.length 20)) ⟨#[]⟩ = R) := ⟨h0, hR⟩
  by_cases hm : 20 < l.length
  · have hM : 20 = min l.length 20 := by omega
    have HM := Aside0.mk hM
    have hcut : ∀ W : World, (Instr.slice 22 (.slice A l.length c) none (some (.int .i64 20)) none).run Tryz.prog W = .ok (.slice A 20 c) W := cut_to (P := Tryz.prog) 22 9 .i64 Tryz.underlying22 hi22 A l.length c 20 (by omega) (by omega) hc
    have hf : (20 : Int) < (l.length : Int) := by omega
    have hf2 : (20 : Int) ≤ (c : Int) := by omega
    clear hm
    rw [← hM] at H0
    clear hr hT hst hl h0 hR hi22 hz0 hz1 hz2 hM
    go_enter Tryz.func7, Tryz.ntmps7
    go_wp2
    go_loopw [4, 15] (fun v4 v15 W => ∃ (i : Nat) (s : Sta) (out : ByteArray), i ≤ 20 ∧ v15 = .int .i64 i ∧ v4 = .string out ∧ Aside0 (RunI st Ok SeI w w.heap.size R ((l.take 20).drop i) i s out W)) (fun v4 v15 _ => 20 - (intOf v15).toNat)
    case atStart => exact ⟨0, Sta.zero, _, Nat.zero_le _, rfl, rfl, ⟨⟨H0.out.1, hI0.out, below_alloc (Below.refl _ _) _, H0.out.2, Nat.zero_le _⟩⟩⟩
    case round =>
      obtain ⟨i, s, out, hi, rfl, rfl, HI⟩ := hrel
      by_cases hlt : i < 20
      · obtain ⟨hx, hxl⟩ := take20 HM.out hlt
        have hli : i < l.length := by have := HM.out; omega
        obtain ⟨ad, e, x0⟩ := Kd.at_string HR.out (i : Int) (by omega) (by omega)
        cases e
        simp only [Int.toNat_natCast] at x0
        have HX := Aside0.mk (HL.out _ hxl)
        have d0 := below_cell1 HI.out.b x0
        clear x0
        generalize rdOf ByteArray.empty l (i : Int) = x at *
        have HXX := Aside0.mk hx
        have hsz := HS.out.size s x HI.out.ok HX.out
        have hoz := HI.out.z
        have hi20 : i < 20 := by have := HM.out; omega
        have z1 : (9223372036854775807 < (st s x).1.size + 1) = False := eq_false (by omega)
        have z2 : (9223372036854775807 < out.size + ((st s x).1.size + 1)) = False := eq_false (by omega)
        have z3 : (9223372036854775807 < out.size + (st s x).1.size) = False := eq_false (by omega)
        have z4 : (9223372036854775807 < out.size + (st s x).1.size + 1) = False := eq_false (by omega)
        have HH := Aside0.mk (And.intro hlt (And.intro hi20 hli))
        clear hx hxl hsz hoz hi20
        go_wp2_with (first | (go_at_call 10; (with_reducible refine (HS.out.call w.heap.size s x w _ HT.out HI.out.b (Nat.le_refl _) HI.out.i HI.out.ok HX.out).mono ?_); rintro _ w2 ⟨rfl, hi2, hb2⟩; have HN : Aside0 (SeI w2 w.heap.size (st s x).2 ∧ Below w.heap.size w w2) := ⟨hi2, hb2⟩; clear hi2 hb2))
        go_roundw
        case rel => exact ⟨i + 1, (st s x).2, _, HH.out.1, by go_num, rfl, ⟨RunI.next HS.out (HXX.out ▸ HI.out) HX.out HN.out.1 HN.out.2 rfl⟩⟩
        case measure => have := HH.out; simp [intOf]; omega
      · obtain rfl : i = 20 := by omega
        have hr := HI.out.r
        rw [List.drop_eq_nil_of_le (by rw [List.length_take]; omega)] at hr
        have hr2 : out = R := hr
        have HR2 := Aside0.mk hr2
        clear hr hr2
        go_wp2
        go_ret
        exact ⟨by rw [← HR2.out]; rfl, HI.out.b⟩
  · have hM : l.length = min l.length 20 := by omega
    have HM := Aside0.mk hM
    have hcut : ∀ W : World, (Instr.slice 22 (.slice A l.length c) none (some (.int .i64 (l.length : Int))) none).run Tryz.prog W = .ok (.slice A l.length c) W := cut_to (P := Tryz.prog) 22 9 .i64 Tryz.underlying22 hi22 A l.length c (l.length : Int) (by omega) (by omega) hc
    have hf : (l.length : Int) ≤ 20 := by omega
    have hf2 : l.length ≤ c := hc
    clear hm
    rw [← hM] at H0
    clear hr hT hst hl h0 hR hi22 hz0 hz1 hz2 hM
    go_enter Tryz.func7, Tryz.ntmps7
    go_wp2
    go_loopw [4, 15] (fun v4 v15 W => ∃ (i : Nat) (s : Sta) (out : ByteArray), i ≤ l.length ∧ v15 = .int .i64 i ∧ v4 = .string out ∧ Aside0 (RunI st Ok SeI w w.heap.size R ((l.take l.length).drop i) i s out W)) (fun v4 v15 _ => l.length - (intOf v15).toNat)
    case atStart => exact ⟨0, Sta.zero, _, Nat.zero_le _, rfl, rfl, ⟨⟨H0.out.1, hI0.out, below_alloc (Below.refl _ _) _, H0.out.2, Nat.zero_le _⟩⟩⟩
    case round =>
      obtain ⟨i, s, out, hi, rfl, rfl, HI⟩ := hrel
      by_cases hlt : i < l.length
      · obtain ⟨hx, hxl⟩ := take20 HM.out hlt
        have hli : i < l.length := by have := HM.out; omega
        obtain ⟨ad, e, x0⟩ := Kd.at_string HR.out (i : Int) (by omega) (by omega)
        cases e
        simp only [Int.toNat_natCast] at x0
        have HX := Aside0.mk (HL.out _ hxl)
        have d0 := below_cell1 HI.out.b x0
        clear x0
        generalize rdOf ByteArray.empty l (i : Int) = x at *
        have HXX := Aside0.mk hx
        have hsz := HS.out.size s x HI.out.ok HX.out
        have hoz := HI.out.z
        have hi20 : i < 20 := by have := HM.out; omega
        have z1 : (9223372036854775807 < (st s x).1.size + 1) = False := eq_false (by omega)
        have z2 : (9223372036854775807 < out.size + ((st s x).1.size + 1)) = False := eq_false (by omega)
        have z3 : (9223372036854775807 < out.size + (st s x).1.size) = False := eq_false (by omega)
        have z4 : (9223372036854775807 < out.size + (st s x).1.size + 1) = False := eq_false (by omega)
        have HH := Aside0.mk (And.intro hlt (And.intro hi20 hli))
        clear hx hxl hsz hoz hi20
        go_wp2_with (first | (go_at_call 10; (with_reducible refine (HS.out.call w.heap.size s x w _ HT.out HI.out.b (Nat.le_refl _) HI.out.i HI.out.ok HX.out).mono ?_); rintro _ w2 ⟨rfl, hi2, hb2⟩; have HN : Aside0 (SeI w2 w.heap.size (st s x).2 ∧ Below w.heap.size w w2) := ⟨hi2, hb2⟩; clear hi2 hb2))
        go_roundw
        case rel => exact ⟨i + 1, (st s x).2, _, HH.out.1, by go_num, rfl, ⟨RunI.next HS.out (HXX.out ▸ HI.out) HX.out HN.out.1 HN.out.2 rfl⟩⟩
        case measure => have := HH.out; simp [intOf]; omega
      · obtain rfl : i = l.length := by omega
        have hr := HI.out.r
        rw [List.drop_eq_nil_of_le (by rw [List.length_take]; omega)] at hr
        have hr2 : out = R := hr
        have HR2 := Aside0.mk hr2
        clear hr hr2
        go_wp2
        go_ret
        exact ⟨by rw [← HR2.out]; rfl, HI.out.b⟩
set_option maxRecDepth 100000 in
set_option maxHeartbeats 8000000 in
theorem dk_run (st : Sta → ByteArray → ByteArray × Sta) (Ok : Sta → Prop) (hst : Runs st Ok 9 DkI) (h0 : Ok Sta.zero) (A : Option Addr) (c : Nat) (l : List ByteArray) (w : World) (hT : Tc w) (hr : Kd.string.C w A l.length l) (hc : l.length ≤ c) (hl : ∀ x ∈ l, x.size ≤ 1048576) (R : ByteArray) (hR : runC st Sta.zero (l.take (min l.length 20)) ⟨#[]⟩ = R) :
    Calls Tryz.prog 5 #[.slice A l.length c] w fun e w' => e = .returned (.string R) ∧ Below w.heap.size w w' := by
  have HR := Aside0.mk hr
  have HT := Aside0.mk hT
  have HS := Aside0.mk hst
  have HL := Aside0.mk hl
  have hu36 := Tryz.underlying33
  have hu30 := Tryz.underlying30
  obtain ⟨i22, hi22, hz0, hz1, hz2⟩ := info_parts info9
  have hI0 : Aside0 (DkI (w.alloc (.cells #[.int .i64 1000000, .int .i64 10, .int .i64 0, .int .i64 0, .slice none 0 0] 33)) w.heap.size Sta.zero) := ⟨⟨_, heap_alloc_new _ _, Kd.R_nil _ _ _ _ _⟩⟩
  have H0 : Aside0 (Ok Sta.zero ∧ runC st Sta.zero (l.take (min l.length 20)) ⟨#[]⟩ = R) := ⟨h0, hR⟩
  by_cases hm : 20 < l.length
  · have hM : 20 = min l.length 20 := by omega
    have HM := Aside0.mk hM
    rw [← hM] at H0
    have hq : (20 : Int) < (l.length : Int) := by omega
    clear hr hT hst hl h0 hR hi22 hz0 hz1 hz2 hM
    go_enter Tryz.func5, Tryz.ntmps5
    go_wp2
    go_loopw [4, 5] (fun v4 v5 W => ∃ (i : Nat) (s : Sta) (out : ByteArray), i ≤ 20 ∧ v5 = .int .i64 i ∧ v4 = .string out ∧ Aside0 (RunI st Ok DkI w w.heap.size R ((l.take 20).drop i) i s out W)) (fun v4 v5 _ => 20 - (intOf v5).toNat)
    case atStart => exact ⟨0, Sta.zero, _, Nat.zero_le _, rfl, rfl, ⟨⟨H0.out.1, hI0.out, below_alloc (Below.refl _ _) _, H0.out.2, Nat.zero_le _⟩⟩⟩
    case round =>
      obtain ⟨i, s, out, hi, rfl, rfl, HI⟩ := hrel
      by_cases hlt : i < 20
      · obtain ⟨hx, hxl⟩ := take20 HM.out hlt
        have hli : i < l.length := by have := HM.out; omega
        obtain ⟨ad, e, x0⟩ := Kd.at_string HR.out (i : Int) (by omega) (by omega)
        cases e
        simp only [Int.toNat_natCast] at x0
        have HX := Aside0.mk (HL.out _ hxl)
        have d0 := below_cell1 HI.out.b x0
        clear x0
        generalize rdOf ByteArray.empty l (i : Int) = x at *
        have HXX := Aside0.mk hx
        have hsz := HS.out.size s x HI.out.ok HX.out
        have hoz := HI.out.z
        have hi20 : i < 20 := by have := HM.out; omega
        have z1 : (9223372036854775807 < (st s x).1.size + 1) = False := eq_false (by omega)
        have z2 : (9223372036854775807 < out.size + ((st s x).1.size + 1)) = False := eq_false (by omega)
        have z3 : (9223372036854775807 < out.size + (st s x).1.size) = False := eq_false (by omega)
        have z4 : (9223372036854775807 < out.size + (st s x).1.size + 1) = False := eq_false (by omega)
        have HH := Aside0.mk (And.intro hlt (And.intro hi20 hli))
        have p1 : decide ((i : Int) < (l.length : Int)) = true := decide_eq_true (by omega)
        have p2 : decide ((i : Int) < 20) = true := decide_eq_true (by omega)
        clear hx hxl hsz hoz hi20
        go_wp2_with (first | (go_at_call 9; (with_reducible refine (HS.out.call w.heap.size s x w _ HT.out HI.out.b (Nat.le_refl _) HI.out.i HI.out.ok HX.out).mono ?_); rintro _ w2 ⟨rfl, hi2, hb2⟩; have HN : Aside0 (DkI w2 w.heap.size (st s x).2 ∧ Below w.heap.size w w2) := ⟨hi2, hb2⟩; clear hi2 hb2))
        go_roundw
        case rel => exact ⟨i + 1, (st s x).2, _, HH.out.1, by go_num, rfl, ⟨RunI.next HS.out (HXX.out ▸ HI.out) HX.out HN.out.1 HN.out.2 ByteArray.append_assoc⟩⟩
        case measure => have := HH.out; simp [intOf]; omega
      · obtain rfl : i = 20 := by omega
        have hr := HI.out.r
        rw [List.drop_eq_nil_of_le (by rw [List.length_take]; omega)] at hr
        have hr2 : out = R := hr
        have HR2 := Aside0.mk hr2
        clear hr hr2
        have p1 : decide ((20 : Int) < (l.length : Int)) = true := decide_eq_true (by have := HM.out; omega)
        go_wp2
        go_ret
        exact ⟨by rw [← HR2.out]; rfl, HI.out.b⟩
  · have hM : l.length = min l.length 20 := by omega
    have HM := Aside0.mk hM
    rw [← hM] at H0
    have hq : (l.length : Int) ≤ 20 := by omega
    clear hr hT hst hl h0 hR hi22 hz0 hz1 hz2 hM
    go_enter Tryz.func5, Tryz.ntmps5
    go_wp2
    go_loopw [4, 5] (fun v4 v5 W => ∃ (i : Nat) (s : Sta) (out : ByteArray), i ≤ l.length ∧ v5 = .int .i64 i ∧ v4 = .string out ∧ Aside0 (RunI st Ok DkI w w.heap.size R ((l.take l.length).drop i) i s out W)) (fun v4 v5 _ => l.length - (intOf v5).toNat)
    case atStart => exact ⟨0, Sta.zero, _, Nat.zero_le _, rfl, rfl, ⟨⟨H0.out.1, hI0.out, below_alloc (Below.refl _ _) _, H0.out.2, Nat.zero_le _⟩⟩⟩
    case round =>
      obtain ⟨i, s, out, hi, rfl, rfl, HI⟩ := hrel
      by_cases hlt : i < l.length
      · obtain ⟨hx, hxl⟩ := take20 HM.out hlt
        have hli : i < l.length := by have := HM.out; omega
        obtain ⟨ad, e, x0⟩ := Kd.at_string HR.out (i : Int) (by omega) (by omega)
        cases e
        simp only [Int.toNat_natCast] at x0
        have HX := Aside0.mk (HL.out _ hxl)
        have d0 := below_cell1 HI.out.b x0
        clear x0
        generalize rdOf ByteArray.empty l (i : Int) = x at *
        have HXX := Aside0.mk hx
        have hsz := HS.out.size s x HI.out.ok HX.out
        have hoz := HI.out.z
        have hi20 : i < 20 := by have := HM.out; omega
        have z1 : (9223372036854775807 < (st s x).1.size + 1) = False := eq_false (by omega)
        have z2 : (9223372036854775807 < out.size + ((st s x).1.size + 1)) = False := eq_false (by omega)
        have z3 : (9223372036854775807 < out.size + (st s x).1.size) = False := eq_false (by omega)
        have z4 : (9223372036854775807 < out.size + (st s x).1.size + 1) = False := eq_false (by omega)
        have HH := Aside0.mk (And.intro hlt (And.intro hi20 hli))
        have p1 : decide ((i : Int) < (l.length : Int)) = true := decide_eq_true (by omega)
        have p2 : decide ((i : Int) < 20) = true := decide_eq_true (by omega)
        clear hx hxl hsz hoz hi20
        go_wp2_with (first | (go_at_call 9; (with_reducible refine (HS.out.call w.heap.size s x w _ HT.out HI.out.b (Nat.le_refl _) HI.out.i HI.out.ok HX.out).mono ?_); rintro _ w2 ⟨rfl, hi2, hb2⟩; have HN : Aside0 (DkI w2 w.heap.size (st s x).2 ∧ Below w.heap.size w w2) := ⟨hi2, hb2⟩; clear hi2 hb2))
        go_roundw
        case rel => exact ⟨i + 1, (st s x).2, _, HH.out.1, by go_num, rfl, ⟨RunI.next HS.out (HXX.out ▸ HI.out) HX.out HN.out.1 HN.out.2 ByteArray.append_assoc⟩⟩
        case measure => have := HH.out; simp [intOf]; omega
      · obtain rfl : i = l.length := by omega
        have hr := HI.out.r
        rw [List.drop_eq_nil_of_le (by rw [List.length_take]; omega)] at hr
        have hr2 : out = R := hr
        have HR2 := Aside0.mk hr2
        clear hr hr2
        have p1 : decide ((l.length : Int) < (l.length : Int)) = false := decide_eq_false (by omega)
        go_wp2
        go_ret
        exact ⟨by rw [← HR2.out]; rfl, HI.out.b⟩
end Go.Proofs.YtdggcfpimjdckaaGreatDoor.PFnExactRunSession
