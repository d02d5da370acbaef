/- Lines of both sides, branch by branch; no condition of its own. -/
import Derived.Test.YtdggcfpimjdckaaGreatDoorSe0
import Derived.IntWalk
namespace Go.Proofs.YtdggcfpimjdckaaGreatDoor.PFnExactRunSession
open Go.RowKit Go.Proofs.YtdggcfpimjdckaaGreatDoorW.PrintWords Go.Proofs.YtdggcfpimjdckaaGreatDoorW.PrintLast Go.Proofs.YtdggcfpimjdckaaGreatDoorW.PrintMore
attribute [local go_sem] max2_int min2_int max_two min_two max_three min_three max_four min_four   -- for this text's walks alone
set_option linter.unusedVariables false
set_option linter.unusedSimpArgs false
theorem strC {W : World} {gw : Nat} {ws : List ByteArray} (h : W.heap[gw]? = some (.cells (ws.map Value.string).toArray 9 (0, 0))) (hl : ws.length ≤ 9223372036854775807) : Kd.string.C W (some ⟨gw, 0, none⟩) ws.length ws := by
  refine ⟨rfl, hl, fun _ => ⟨⟨gw, 0, none⟩, rfl, fun j p hj => ⟨[.string p], rfl, rfl, fun i u hu => ?_⟩⟩⟩
  obtain ⟨rfl, rfl⟩ : i = 0 ∧ u = .string p := by
    cases i with
    | zero => simp at hu; exact ⟨rfl, hu.symm⟩
    | succ i => simp at hu
  rw [show (⟨gw, 0, none⟩ : Addr).add (j * Kd.string.sz + 0) = ⟨gw, j, none⟩ by rw [add_plain]; show (⟨gw, j * 1 + 0, none⟩ : Addr) = _; simp]
  rw [blk_cell h]
  simp [hj]
theorem bt_at0 (a : ByteArray) : ∀ h : 0 < a.size, ((a[0]'h).toNat : Int) = bt a 0 := bt_at a 0
theorem add0 (ad : Addr) : ad.add 0 = ad := by cases ad; unfold Addr.add; split <;> simp_all
theorem str1 {W : World} {A : Option Addr} {x : ByteArray} {ws : List ByteArray} (h : Kd.string.C W A (x :: ws).length (x :: ws)) : ∃ ad, A = some ad ∧ W.cell? ad = some (.string x) := by
  obtain ⟨ad, e, h0⟩ := Kd.at_string h 0 (by decide) (by simp)
  refine ⟨ad, e, ?_⟩
  rw [show ad.add (0 : Int).toNat = ad from add0 ad] at h0
  exact h0
theorem str2 {W : World} {A : Option Addr} {x y : ByteArray} (h : Kd.string.C W A [x, y].length [x, y]) : ∃ ad, A = some ad ∧ W.cell? ad = some (.string x) ∧ W.cell? ⟨ad.block, ad.off + 1, none⟩ = some (.string y) := by
  obtain ⟨ad, e, h0⟩ := str1 h
  obtain ⟨ad', e', h1⟩ := Kd.at_string h 1 (by decide) (by simp)
  cases e.symm.trans e'
  rw [show ad.add (1 : Int).toNat = ⟨(ad.add 0).block, (ad.add 0).off + 1, none⟩ from add_field ad 0 1 (by omega), add0] at h1
  exact ⟨ad, e, h0, h1⟩
/-- A call that hands back a row of texts and turns nothing that was there. -/
abbrev RetS (f : FuncId) (args : Array Value) (ws : List ByteArray) : Prop := ∀ w, Tc w → Calls Tryz.prog f args w fun e w' => ∃ A c, e = .returned (.slice A ws.length c) ∧ ws.length ≤ c ∧ Kd.string.C w' A ws.length ws ∧ Below w.heap.size w w'
def WhatC (x0 : ByteArray) (n : Nat) : Prop := (x0.toList = [119, 97, 105, 116] ∧ ¬ n = 2) ∨ (x0.toList = [97, 115, 107] ∧ ¬ n = 2) ∨ (x0.toList = [108, 101, 118, 101, 108] ∧ ¬ n = 1) ∨ (x0.toList = [100, 97, 116, 101] ∧ ¬ n = 1) ∨ (¬ x0.toList = [119, 97, 105, 116] ∧ ¬ x0.toList = [97, 115, 107] ∧ ¬ x0.toList = [108, 101, 118, 101, 108] ∧ ¬ x0.toList = [100, 97, 116, 101])
theorem mem0 (ws : List ByteArray) (h : ws ≠ []) : (0 : Int) < (ws.length : Int) := by cases ws with | nil => exact absurd rfl h | cons _ _ => simp only [List.length_cons]; omega
abbrev bWhat : ByteArray := ⟨#[119, 104, 97, 116]⟩
theorem se_prefix (a : ByteArray) (b : Bool) (h : strings_HasPrefix.f a ⟨#[36]⟩ = some b) (w : World) : Calls Tryz.prog 20 #[.string a, .string ⟨#[36]⟩] w fun e w' => e = .returned (.bool b) ∧ Drawn0 w w' := strings_HasPrefix.calls a _ b w h
set_option maxRecDepth 100000 in
set_option maxHeartbeats 4000000 in
theorem se_line_fix (g : Nat) (s : Sta) (a : ByteArray) (w0 w : World) (hT : Tc w0) (hB : Below w0.heap.size w0 w) (hg : w0.heap.size ≤ g) (hI : SeI w g s) (r : ByteArray) (s2 : Sta)
    (hp : strings_HasPrefix.f a ⟨#[36]⟩ = some true)
    (hF : ∀ w, Below w0.heap.size w0 w → SeI w g s → Calls Tryz.prog 21 #[.pointer (some ⟨g, 0, none⟩), .string a] w fun e w' => e = .returned (.string r) ∧ SeI w' g s2 ∧ Below w0.heap.size w0 w') :
    Calls Tryz.prog 10 #[.pointer (some ⟨g, 0, none⟩), .string a] w fun e w' => e = .returned (.string (r)) ∧ SeI w' g (s2) ∧ Below w0.heap.size w0 w' := by
  have HI := Aside0.mk hI
  have HB := Aside0.mk hB
  have HT := Aside0.mk hT
  clear hI hB hT
  have HP := Aside0.mk (se_prefix a true hp)
  have HF := Aside0.mk hF
  clear hp hF
  go_enter Tryz.func10, Tryz.ntmps10
  go_wp2_with (first | (go_at_call 20; (with_reducible refine (HP.out _).mono ?_); rintro _ _ ⟨rfl, ⟨nd, rfl⟩⟩; have nB := Aside0.mk (pw_below_drewN HB.out nd); have nI := Aside0.mk (SeI.below HI.out (pw_below_drewN (Below.refl _ _) nd)); clear HB HI; have HB := nB; have HI := nI; clear nB nI) | (go_at_call 21; (with_reducible refine (HF.out _ HB.out HI.out).mono ?_); rintro _ _ ⟨rfl, hI2, hB2⟩; have HI2 := Aside0.mk hI2; have HB2 := Aside0.mk hB2; clear hI2 hB2))
  go_ret
  exact ⟨rfl, HI2.out, HB2.out⟩
set_option maxRecDepth 100000 in
set_option maxHeartbeats 4000000 in
theorem se_line_wait (g : Nat) (s : Sta) (a : ByteArray) (w0 w : World) (hT : Tc w0) (hB : Below w0.heap.size w0 w) (hg : w0.heap.size ≤ g) (hI : SeI w g s) (x : ByteArray) (hS : RetS 22 #[.string a, .string ⟨#[32]⟩] [⟨#[119, 97, 105, 116]⟩, x]) (n : Int) (hN : Ret 24 #[.string x] (.int .i64 n)) (r : ByteArray) (s2 : Sta)
    (hp : strings_HasPrefix.f a ⟨#[36]⟩ = some false)
    (hF : ∀ w, Below w0.heap.size w0 w → SeI w g s → Calls Tryz.prog 23 #[.pointer (some ⟨g, 0, none⟩), .int .i64 n] w fun e w' => e = .returned (.string r) ∧ SeI w' g s2 ∧ Below w0.heap.size w0 w') :
    Calls Tryz.prog 10 #[.pointer (some ⟨g, 0, none⟩), .string a] w fun e w' => e = .returned (.string (r)) ∧ SeI w' g (s2) ∧ Below w0.heap.size w0 w' := by
  have HI := Aside0.mk hI
  have HB := Aside0.mk hB
  have HT := Aside0.mk hT
  clear hI hB hT
  have HP := Aside0.mk (se_prefix a false hp)
  have HF := Aside0.mk hF
  have HS := Aside0.mk hS
  have HN := Aside0.mk hN
  clear hp hF hS hN
  go_enter Tryz.func10, Tryz.ntmps10
  go_wp2_with (first | (go_at_call 20; (with_reducible refine (HP.out _).mono ?_); rintro _ _ ⟨rfl, ⟨nd, rfl⟩⟩; have nB := Aside0.mk (pw_below_drewN HB.out nd); have nI := Aside0.mk (SeI.below HI.out (pw_below_drewN (Below.refl _ _) nd)); clear HB HI; have HB := nB; have HI := nI; clear nB nI) | (go_at_call 22; (with_reducible refine (HS.out _ (Tc.keep HT.out HB.out)).mono ?_); rintro _ w1 ⟨A, cp, rfl, hl, hc, hb⟩; have nB := Aside0.mk (below_step HB.out hb); have nI := Aside0.mk (SeI.below HI.out hb); clear HB HI hb; have HB := nB; have HI := nI; clear nB nI; have HC := Aside0.mk hc; have HL := Aside0.mk hl; clear hc hl; obtain ⟨ad, e, x0, x1⟩ := str2 HC.out; subst e) | (go_at_call 24; (with_reducible refine (HN.out _ (Tc.keep HT.out HB.out)).mono ?_); rintro _ w2 ⟨rfl, hb⟩; have nB := Aside0.mk (below_step HB.out hb); have nI := Aside0.mk (SeI.below HI.out hb); clear HB HI hb; have HB := nB; have HI := nI; clear nB nI) | (go_at_call 23; (with_reducible refine (HF.out _ HB.out HI.out).mono ?_); rintro _ w3 ⟨rfl, hI2, hB2⟩; have HI2 := Aside0.mk hI2; have HB2 := Aside0.mk hB2; clear hI2 hB2))
  go_ret
  exact ⟨rfl, HI2.out, HB2.out⟩
set_option maxRecDepth 100000 in
set_option maxHeartbeats 4000000 in
theorem se_line_ask (g : Nat) (s : Sta) (a : ByteArray) (w0 w : World) (hT : Tc w0) (hB : Below w0.heap.size w0 w) (hg : w0.heap.size ≤ g) (hI : SeI w g s) (x : ByteArray) (hS : RetS 22 #[.string a, .string ⟨#[32]⟩] [⟨#[97, 115, 107]⟩, x]) (n : Int) (hN : Ret 24 #[.string x] (.int .i64 n)) (r : ByteArray) (s2 : Sta)
    (hp : strings_HasPrefix.f a ⟨#[36]⟩ = some false)
    (hF : ∀ w, Below w0.heap.size w0 w → SeI w g s → Calls Tryz.prog 25 #[.pointer (some ⟨g, 0, none⟩), .int .i64 n] w fun e w' => e = .returned (.string r) ∧ SeI w' g s2 ∧ Below w0.heap.size w0 w') :
    Calls Tryz.prog 10 #[.pointer (some ⟨g, 0, none⟩), .string a] w fun e w' => e = .returned (.string (r)) ∧ SeI w' g (s2) ∧ Below w0.heap.size w0 w' := by
  have HI := Aside0.mk hI
  have HB := Aside0.mk hB
  have HT := Aside0.mk hT
  clear hI hB hT
  have HP := Aside0.mk (se_prefix a false hp)
  have HF := Aside0.mk hF
  have HS := Aside0.mk hS
  have HN := Aside0.mk hN
  clear hp hF hS hN
  go_enter Tryz.func10, Tryz.ntmps10
  go_wp2_with (first | (go_at_call 20; (with_reducible refine (HP.out _).mono ?_); rintro _ _ ⟨rfl, ⟨nd, rfl⟩⟩; have nB := Aside0.mk (pw_below_drewN HB.out nd); have nI := Aside0.mk (SeI.below HI.out (pw_below_drewN (Below.refl _ _) nd)); clear HB HI; have HB := nB; have HI := nI; clear nB nI) | (go_at_call 22; (with_reducible refine (HS.out _ (Tc.keep HT.out HB.out)).mono ?_); rintro _ w1 ⟨A, cp, rfl, hl, hc, hb⟩; have nB := Aside0.mk (below_step HB.out hb); have nI := Aside0.mk (SeI.below HI.out hb); clear HB HI hb; have HB := nB; have HI := nI; clear nB nI; have HC := Aside0.mk hc; have HL := Aside0.mk hl; clear hc hl; obtain ⟨ad, e, x0, x1⟩ := str2 HC.out; subst e) | (go_at_call 24; (with_reducible refine (HN.out _ (Tc.keep HT.out HB.out)).mono ?_); rintro _ w2 ⟨rfl, hb⟩; have nB := Aside0.mk (below_step HB.out hb); have nI := Aside0.mk (SeI.below HI.out hb); clear HB HI hb; have HB := nB; have HI := nI; clear nB nI) | (go_at_call 25; (with_reducible refine (HF.out _ HB.out HI.out).mono ?_); rintro _ w3 ⟨rfl, hI2, hB2⟩; have HI2 := Aside0.mk hI2; have HB2 := Aside0.mk hB2; clear hI2 hB2))
  go_ret
  exact ⟨rfl, HI2.out, HB2.out⟩
structure seInv (w0 : World) (g : Nat) (s : Sta) (W : World) : Prop where
  i : SeI W g s
  b : Below w0.heap.size w0 W
theorem seInv.drew {w0 : World} {g : Nat} {s : Sta} {W : World} (h : seInv w0 g s W) : seInv w0 g s W.drew := ⟨h.i, below_drew1 h.b⟩
theorem seInv.below {w0 : World} {g : Nat} {s : Sta} {W W' : World} (h : seInv w0 g s W) (hb : Below W.heap.size W W') : seInv w0 g s W' := ⟨h.i.below hb, below_step h.b hb⟩
structure seDat (w0 : World) (g : Nat) (s : Sta) (gb : Nat) (cs : Array Value) (W : World) : Prop where
  i : seInv w0 g s W
  h : W.heap[gb]? = some (.cells cs 42 (0, 0))
theorem seDat.drew {w0 : World} {g : Nat} {s : Sta} {gb : Nat} {cs : Array Value} {W : World} (h : seDat w0 g s gb cs W) : seDat w0 g s gb cs W.drew := ⟨h.i.drew, h.h⟩
theorem seDat.below {w0 : World} {g : Nat} {s : Sta} {gb : Nat} {cs : Array Value} {W W' : World} (h : seDat w0 g s gb cs W) (hb : Below W.heap.size W W') : seDat w0 g s gb cs W' := ⟨h.i.below hb, blk_below h.h hb⟩
set_option maxRecDepth 100000 in
set_option maxHeartbeats 4000000 in
theorem se_line_level (g : Nat) (s : Sta) (a : ByteArray) (w0 w : World) (hT : Tc w0) (hB : Below w0.heap.size w0 w) (hg : w0.heap.size ≤ g) (hI : SeI w g s) (hS : RetS 22 #[.string a, .string ⟨#[32]⟩] [⟨#[108, 101, 118, 101, 108]⟩]) (r : ByteArray) (hv : VS s.e s.wa s.sn s.t) (hR : Ret 26 #[.int .i64 (levV s.e s.wa s.sn s.t)] (.string r)) (hp : strings_HasPrefix.f a ⟨#[36]⟩ = some false) :
    Calls Tryz.prog 10 #[.pointer (some ⟨g, 0, none⟩), .string a] w fun e w' => e = .returned (.string (r)) ∧ SeI w' g (s) ∧ Below w0.heap.size w0 w' := by
  have HI := Aside0.mk hI
  have HB := Aside0.mk hB
  have HT := Aside0.mk hT
  clear hI hB hT
  have HP := Aside0.mk (se_prefix a false hp)
  have HS := Aside0.mk hS
  have HR := Aside0.mk hR
  have HV := Aside0.mk (impl_LA s.e s.wa s.sn s.t hv)
  clear hp hS hR hv
  go_enter Tryz.func10, Tryz.ntmps10
  go_wp2_with (first | (go_at_call 20; (with_reducible refine (HP.out _).mono ?_); rintro _ _ ⟨rfl, ⟨nd, rfl⟩⟩; have nB := Aside0.mk (pw_below_drewN HB.out nd); have nI := Aside0.mk (SeI.below HI.out (pw_below_drewN (Below.refl _ _) nd)); clear HB HI; have HB := nB; have HI := nI; clear nB nI) | (go_at_call 22; (with_reducible refine (HS.out _ (Tc.keep HT.out HB.out)).mono ?_); rintro _ w1 ⟨A, cp, rfl, hl, hc, hb⟩; have nB := Aside0.mk (below_step HB.out hb); have nI := Aside0.mk (SeI.below HI.out hb); clear HB HI hb; have HB := nB; have HI := nI; clear nB nI; have HC := Aside0.mk hc; have HL := Aside0.mk hl; clear hc hl; obtain ⟨ad, e, x0⟩ := str1 HC.out; subst e))
  have n2 : Aside0 (seInv w0 g s w1) := ⟨HI.out, HB.out⟩
  clear HI HB x0
  go_region_held3 (fun w' => w'.cell? ⟨g, 0, none⟩ = some (.int .i64 s.t) ∧ w'.cell? ⟨g, 2, none⟩ = some (.int .i64 s.e) ∧ w'.cell? ⟨g, 3, none⟩ = some (.int .i64 s.wa) ∧ w'.cell? ⟨g, 4, none⟩ = some (.int .i64 s.sn) ∧ Aside0 (seInv w0 g s w')) (first | exact ⟨(SeI.cells ((seInv.drew n2.out)).i).1, (SeI.cells ((seInv.drew n2.out)).i).2.1, (SeI.cells ((seInv.drew n2.out)).i).2.2.1, (SeI.cells ((seInv.drew n2.out)).i).2.2.2, ⟨(seInv.drew n2.out)⟩⟩ | exact ⟨(SeI.cells (n3.out).i).1, (SeI.cells (n3.out).i).2.1, (SeI.cells (n3.out).i).2.2.1, (SeI.cells (n3.out).i).2.2.2, ⟨n3.out⟩⟩ | exact ⟨(SeI.cells (n4.out).i).1, (SeI.cells (n4.out).i).2.1, (SeI.cells (n4.out).i).2.2.1, (SeI.cells (n4.out).i).2.2.2, ⟨n4.out⟩⟩)
    (first | (go_at_call 27; (with_reducible refine (HV.out _).mono ?_); rintro _ w3 ⟨rfl, hb⟩; have n3 : Aside0 (seInv w0 g s w3) := ⟨seInv.below (seInv.drew n2.out) hb⟩; clear hb) | (go_at_call 26; (with_reducible refine (HR.out _ (Tc.keep HT.out n3.out.b)).mono ?_); rintro _ w4 ⟨rfl, hb⟩; have n4 : Aside0 (seInv w0 g s w4) := ⟨seInv.below n3.out hb⟩; clear hb))
  go_wp2
  go_ret
  exact ⟨rfl, n4.out.i, n4.out.b⟩
set_option maxRecDepth 100000 in
set_option maxHeartbeats 4000000 in
theorem se_line_date (g : Nat) (s : Sta) (a : ByteArray) (w0 w : World) (hT : Tc w0) (hB : Below w0.heap.size w0 w) (hg : w0.heap.size ≤ g) (hI : SeI w g s) (hS : RetS 22 #[.string a, .string ⟨#[32]⟩] [⟨#[100, 97, 116, 101]⟩]) (y m d sc n : Int) (Y M D : ByteArray) (hF : Ret 28 #[.int .i64 s.t, .int .i64 0] (.agg #[.int .i64 y, .int .i64 m, .int .i64 d, .int .i64 sc, .int .i64 n]))
    (hY : Ret 26 #[.int .i64 y] (.string Y)) (hM : Ret 29 #[.int .i64 m] (.string M)) (hD : Ret 29 #[.int .i64 d] (.string D)) (hz : Y.size ≤ 1000 ∧ M.size ≤ 1000 ∧ D.size ≤ 1000) (hp : strings_HasPrefix.f a ⟨#[36]⟩ = some false) :
    Calls Tryz.prog 10 #[.pointer (some ⟨g, 0, none⟩), .string a] w fun e w' => e = .returned (.string (Y ++ ⟨#[45]⟩ ++ M ++ ⟨#[45]⟩ ++ D)) ∧ SeI w' g (s) ∧ Below w0.heap.size w0 w' := by
  have HI := Aside0.mk hI
  have HB := Aside0.mk hB
  have HT := Aside0.mk hT
  clear hI hB hT
  have HP := Aside0.mk (se_prefix a false hp)
  have HS := Aside0.mk hS
  have HF := Aside0.mk hF
  have HY := Aside0.mk hY
  have HM := Aside0.mk hM
  have HD := Aside0.mk hD
  have z1 : (9223372036854775807 < Y.size + 1) = False := eq_false (by omega)
  have z2 : (9223372036854775807 < Y.size + 1 + M.size) = False := eq_false (by omega)
  have z3 : (9223372036854775807 < Y.size + 1 + M.size + 1) = False := eq_false (by omega)
  have z4 : (9223372036854775807 < Y.size + 1 + M.size + 1 + D.size) = False := eq_false (by omega)
  have Z := Aside0.mk (And.intro z1 (And.intro z2 (And.intro z3 z4)))
  clear hp hS hF hY hM hD hz z1 z2 z3 z4
  have hu44 := Tryz.underlying44
  have hfl : ∀ W : World, (Instr.field 44 (.agg #[.int .i64 y, .int .i64 m, .int .i64 d, .int .i64 sc, .int .i64 n]) 0).run Tryz.prog W = .ok (.agg #[.int .i64 y, .int .i64 m, .int .i64 d]) W := fun _ => by kernel_rfl
  have hu42 := Tryz.underlying42
  go_enter Tryz.func10, Tryz.ntmps10
  go_wp2_with (first | (go_at_call 20; (with_reducible refine (HP.out _).mono ?_); rintro _ _ ⟨rfl, ⟨nd, rfl⟩⟩; have nB := Aside0.mk (pw_below_drewN HB.out nd); have nI := Aside0.mk (SeI.below HI.out (pw_below_drewN (Below.refl _ _) nd)); clear HB HI; have HB := nB; have HI := nI; clear nB nI) | (go_at_call 22; (with_reducible refine (HS.out _ (Tc.keep HT.out HB.out)).mono ?_); rintro _ w1 ⟨A, cp, rfl, hl, hc, hb⟩; have nB := Aside0.mk (below_step HB.out hb); have nI := Aside0.mk (SeI.below HI.out hb); clear HB HI hb; have HB := nB; have HI := nI; clear nB nI; have HC := Aside0.mk hc; have HL := Aside0.mk hl; clear hc hl; obtain ⟨ad, e, x0⟩ := str1 HC.out; subst e; obtain ⟨k0, -⟩ := SeI.cells HI.out) | (go_at_call 28; (with_reducible refine (HF.out _ (Tc.keep HT.out HB.out)).mono ?_); rintro _ w2 ⟨rfl, hb⟩; have n2 : Aside0 (seInv w0 g s w2) := ⟨⟨SeI.below HI.out hb, below_step HB.out hb⟩⟩; clear hb))
  have n3 : Aside0 (seDat w0 g s w2.heap.size #[.int .i64 y, .int .i64 m, .int .i64 d] (w2.alloc (.cells #[.int .i64 y, .int .i64 m, .int .i64 d] 42))) := ⟨⟨n2.out.below (below_alloc (Below.refl _ _) _), heap_alloc_new _ _⟩⟩
  clear HI HB x0 k0 n2
  generalize w2.alloc (.cells #[.int .i64 y, .int .i64 m, .int .i64 d] 42) = w3 at *
  generalize w2.heap.size = gb at *
  obtain ⟨z1, z2, z3, z4⟩ := Z.out
  go_region_held3 (fun w' => w'.cell? ⟨gb, 0, none⟩ = some (.int .i64 y) ∧ w'.cell? ⟨gb, 1, none⟩ = some (.int .i64 m) ∧ w'.cell? ⟨gb, 2, none⟩ = some (.int .i64 d) ∧ Aside0 (seDat w0 g s gb #[.int .i64 y, .int .i64 m, .int .i64 d] w')) (first | exact ⟨(blk_cell ((seDat.drew n3.out)).h 0).trans rfl, (blk_cell ((seDat.drew n3.out)).h 1).trans rfl, (blk_cell ((seDat.drew n3.out)).h 2).trans rfl, ⟨(seDat.drew n3.out)⟩⟩ | exact ⟨(blk_cell (n4.out).h 0).trans rfl, (blk_cell (n4.out).h 1).trans rfl, (blk_cell (n4.out).h 2).trans rfl, ⟨n4.out⟩⟩ | exact ⟨(blk_cell (n5.out).h 0).trans rfl, (blk_cell (n5.out).h 1).trans rfl, (blk_cell (n5.out).h 2).trans rfl, ⟨n5.out⟩⟩ | exact ⟨(blk_cell (n6.out).h 0).trans rfl, (blk_cell (n6.out).h 1).trans rfl, (blk_cell (n6.out).h 2).trans rfl, ⟨n6.out⟩⟩)
    (first | (go_at_call 26; (with_reducible refine (HY.out _ (Tc.keep HT.out ((seDat.drew n3.out)).i.b)).mono ?_); rintro _ w4 ⟨rfl, hb⟩; have n4 : Aside0 (seDat w0 g s gb #[.int .i64 y, .int .i64 m, .int .i64 d] w4) := ⟨seDat.below (seDat.drew n3.out) hb⟩; clear hb) | (go_at_call 29; (with_reducible refine (HM.out _ (Tc.keep HT.out (n4.out).i.b)).mono ?_); rintro _ w5 ⟨rfl, hb⟩; have n5 : Aside0 (seDat w0 g s gb #[.int .i64 y, .int .i64 m, .int .i64 d] w5) := ⟨seDat.below n4.out hb⟩; clear hb) | (go_at_call 29; (with_reducible refine (HD.out _ (Tc.keep HT.out (n5.out).i.b)).mono ?_); rintro _ w6 ⟨rfl, hb⟩; have n6 : Aside0 (seDat w0 g s gb #[.int .i64 y, .int .i64 m, .int .i64 d] w6) := ⟨seDat.below n5.out hb⟩; clear hb))
  go_wp2
  go_ret
  exact ⟨rfl, n6.out.i.i, n6.out.i.b⟩
set_option maxRecDepth 100000 in
set_option maxHeartbeats 8000000 in
theorem se_line_what (g : Nat) (s : Sta) (a : ByteArray) (w0 w : World) (hT : Tc w0) (hB : Below w0.heap.size w0 w) (hg : w0.heap.size ≤ g) (hI : SeI w g s) (x0 : ByteArray) (ws : List ByteArray) (hS : RetS 22 #[.string a, .string ⟨#[32]⟩] (x0 :: ws)) (hW : WhatC x0 (x0 :: ws).length) (hp : strings_HasPrefix.f a ⟨#[36]⟩ = some false) :
    Calls Tryz.prog 10 #[.pointer (some ⟨g, 0, none⟩), .string a] w fun e w' => e = .returned (.string (bWhat)) ∧ SeI w' g (s) ∧ Below w0.heap.size w0 w' := by
  have HI := Aside0.mk hI
  have HB := Aside0.mk hB
  have HT := Aside0.mk hT
  clear hI hB hT
  have HP := Aside0.mk (se_prefix a false hp)
  have HS := Aside0.mk hS
  clear hp hS
  rcases hW with h | h | h | h | h
  · obtain ⟨h0, h1⟩ := h
    have c0 : (x0.toList == [119, 97, 105, 116]) = true := by rw [h0]; decide
    have c1 : (x0.toList == [97, 115, 107]) = false := by rw [h0]; decide
    have c2 : (x0.toList == [108, 101, 118, 101, 108]) = false := by rw [h0]; decide
    have c3 : (x0.toList == [100, 97, 116, 101]) = false := by rw [h0]; decide
    have c9 : ((((x0 :: ws).length : Nat) : Int) == 2) = false := beq_eq_false_iff_ne.2 (by omega)
    have c8 : ¬ ((((x0 :: ws).length : Nat) : Int) = 2) := by omega
    clear h0 h1
    generalize hgn : (x0 :: ws).length = nn at *
    go_enter Tryz.func10, Tryz.ntmps10
    go_wp2_with (first | (go_at_call 20; (with_reducible refine (HP.out _).mono ?_); rintro _ _ ⟨rfl, ⟨nd, rfl⟩⟩; have nB := Aside0.mk (pw_below_drewN HB.out nd); have nI := Aside0.mk (SeI.below HI.out (pw_below_drewN (Below.refl _ _) nd)); clear HB HI; have HB := nB; have HI := nI; clear nB nI) | (go_at_call 22; (with_reducible refine (HS.out _ (Tc.keep HT.out HB.out)).mono ?_); rintro _ w1 ⟨A, cp, rfl, hl, hc, hb⟩; have nB := Aside0.mk (below_step HB.out hb); have nI := Aside0.mk (SeI.below HI.out hb); clear HB HI hb; have HB := nB; have HI := nI; clear nB nI; have HC := Aside0.mk hc; have HL := Aside0.mk hl; clear hc hl; obtain ⟨ad, e, hx0'⟩ := str1 HC.out; subst e; have hm0 := mem0 (x0 :: ws) (by simp)))
    go_ret
    exact ⟨rfl, HI.out, HB.out⟩
  · obtain ⟨h0, h1⟩ := h
    have c0 : (x0.toList == [119, 97, 105, 116]) = false := by rw [h0]; decide
    have c1 : (x0.toList == [97, 115, 107]) = true := by rw [h0]; decide
    have c2 : (x0.toList == [108, 101, 118, 101, 108]) = false := by rw [h0]; decide
    have c3 : (x0.toList == [100, 97, 116, 101]) = false := by rw [h0]; decide
    have c9 : ((((x0 :: ws).length : Nat) : Int) == 2) = false := beq_eq_false_iff_ne.2 (by omega)
    have c8 : ¬ ((((x0 :: ws).length : Nat) : Int) = 2) := by omega
    clear h0 h1
    generalize hgn : (x0 :: ws).length = nn at *
    go_enter Tryz.func10, Tryz.ntmps10
    go_wp2_with (first | (go_at_call 20; (with_reducible refine (HP.out _).mono ?_); rintro _ _ ⟨rfl, ⟨nd, rfl⟩⟩; have nB := Aside0.mk (pw_below_drewN HB.out nd); have nI := Aside0.mk (SeI.below HI.out (pw_below_drewN (Below.refl _ _) nd)); clear HB HI; have HB := nB; have HI := nI; clear nB nI) | (go_at_call 22; (with_reducible refine (HS.out _ (Tc.keep HT.out HB.out)).mono ?_); rintro _ w1 ⟨A, cp, rfl, hl, hc, hb⟩; have nB := Aside0.mk (below_step HB.out hb); have nI := Aside0.mk (SeI.below HI.out hb); clear HB HI hb; have HB := nB; have HI := nI; clear nB nI; have HC := Aside0.mk hc; have HL := Aside0.mk hl; clear hc hl; obtain ⟨ad, e, hx0'⟩ := str1 HC.out; subst e; have hm0 := mem0 (x0 :: ws) (by simp)))
    go_ret
    exact ⟨rfl, HI.out, HB.out⟩
  · obtain ⟨h0, h1⟩ := h
    have c0 : (x0.toList == [119, 97, 105, 116]) = false := by rw [h0]; decide
    have c1 : (x0.toList == [97, 115, 107]) = false := by rw [h0]; decide
    have c2 : (x0.toList == [108, 101, 118, 101, 108]) = true := by rw [h0]; decide
    have c3 : (x0.toList == [100, 97, 116, 101]) = false := by rw [h0]; decide
    have c9 : ((((x0 :: ws).length : Nat) : Int) == 1) = false := beq_eq_false_iff_ne.2 (by omega)
    have c8 : ¬ ((((x0 :: ws).length : Nat) : Int) = 1) := by omega
    clear h0 h1
    generalize hgn : (x0 :: ws).length = nn at *
    go_enter Tryz.func10, Tryz.ntmps10
    go_wp2_with (first | (go_at_call 20; (with_reducible refine (HP.out _).mono ?_); rintro _ _ ⟨rfl, ⟨nd, rfl⟩⟩; have nB := Aside0.mk (pw_below_drewN HB.out nd); have nI := Aside0.mk (SeI.below HI.out (pw_below_drewN (Below.refl _ _) nd)); clear HB HI; have HB := nB; have HI := nI; clear nB nI) | (go_at_call 22; (with_reducible refine (HS.out _ (Tc.keep HT.out HB.out)).mono ?_); rintro _ w1 ⟨A, cp, rfl, hl, hc, hb⟩; have nB := Aside0.mk (below_step HB.out hb); have nI := Aside0.mk (SeI.below HI.out hb); clear HB HI hb; have HB := nB; have HI := nI; clear nB nI; have HC := Aside0.mk hc; have HL := Aside0.mk hl; clear hc hl; obtain ⟨ad, e, hx0'⟩ := str1 HC.out; subst e; have hm0 := mem0 (x0 :: ws) (by simp)))
    go_ret
    exact ⟨rfl, HI.out, HB.out⟩
  · obtain ⟨h0, h1⟩ := h
    have c0 : (x0.toList == [119, 97, 105, 116]) = false := by rw [h0]; decide
    have c1 : (x0.toList == [97, 115, 107]) = false := by rw [h0]; decide
    have c2 : (x0.toList == [108, 101, 118, 101, 108]) = false := by rw [h0]; decide
    have c3 : (x0.toList == [100, 97, 116, 101]) = true := by rw [h0]; decide
    have c9 : ((((x0 :: ws).length : Nat) : Int) == 1) = false := beq_eq_false_iff_ne.2 (by omega)
    have c8 : ¬ ((((x0 :: ws).length : Nat) : Int) = 1) := by omega
    clear h0 h1
    generalize hgn : (x0 :: ws).length = nn at *
    go_enter Tryz.func10, Tryz.ntmps10
    go_wp2_with (first | (go_at_call 20; (with_reducible refine (HP.out _).mono ?_); rintro _ _ ⟨rfl, ⟨nd, rfl⟩⟩; have nB := Aside0.mk (pw_below_drewN HB.out nd); have nI := Aside0.mk (SeI.below HI.out (pw_below_drewN (Below.refl _ _) nd)); clear HB HI; have HB := nB; have HI := nI; clear nB nI) | (go_at_call 22; (with_reducible refine (HS.out _ (Tc.keep HT.out HB.out)).mono ?_); rintro _ w1 ⟨A, cp, rfl, hl, hc, hb⟩; have nB := Aside0.mk (below_step HB.out hb); have nI := Aside0.mk (SeI.below HI.out hb); clear HB HI hb; have HB := nB; have HI := nI; clear nB nI; have HC := Aside0.mk hc; have HL := Aside0.mk hl; clear hc hl; obtain ⟨ad, e, hx0'⟩ := str1 HC.out; subst e; have hm0 := mem0 (x0 :: ws) (by simp)))
    go_ret
    exact ⟨rfl, HI.out, HB.out⟩
  · have h0 := h
    clear h
    obtain ⟨h0, h1, h2, h3⟩ := h0
    have c0 : (x0.toList == [119, 97, 105, 116]) = false := beq_eq_false_iff_ne.2 h0
    have c1 : (x0.toList == [97, 115, 107]) = false := beq_eq_false_iff_ne.2 h1
    have c2 : (x0.toList == [108, 101, 118, 101, 108]) = false := beq_eq_false_iff_ne.2 h2
    have c3 : (x0.toList == [100, 97, 116, 101]) = false := beq_eq_false_iff_ne.2 h3
    clear h0 h1 h2 h3
    generalize hgn : (x0 :: ws).length = nn at *
    go_enter Tryz.func10, Tryz.ntmps10
    go_wp2_with (first | (go_at_call 20; (with_reducible refine (HP.out _).mono ?_); rintro _ _ ⟨rfl, ⟨nd, rfl⟩⟩; have nB := Aside0.mk (pw_below_drewN HB.out nd); have nI := Aside0.mk (SeI.below HI.out (pw_below_drewN (Below.refl _ _) nd)); clear HB HI; have HB := nB; have HI := nI; clear nB nI) | (go_at_call 22; (with_reducible refine (HS.out _ (Tc.keep HT.out HB.out)).mono ?_); rintro _ w1 ⟨A, cp, rfl, hl, hc, hb⟩; have nB := Aside0.mk (below_step HB.out hb); have nI := Aside0.mk (SeI.below HI.out hb); clear HB HI hb; have HB := nB; have HI := nI; clear nB nI; have HC := Aside0.mk hc; have HL := Aside0.mk hl; clear hc hl; obtain ⟨ad, e, hx0'⟩ := str1 HC.out; subst e; have hm0 := mem0 (x0 :: ws) (by simp)))
    go_ret
    exact ⟨rfl, HI.out, HB.out⟩
set_option maxRecDepth 100000 in
set_option maxHeartbeats 4000000 in
theorem dk_line_fix (g : Nat) (s : Sta) (a : ByteArray) (w0 w : World) (hT : Tc w0) (hB : Below w0.heap.size w0 w) (hg : w0.heap.size ≤ g) (hI : DkI w g s) (r : ByteArray) (s2 : Sta) (ws : List ByteArray) (hS : RetS 11 #[.string a, .int .u8 32] ws)
    (hp : 0 < a.size ∧ bt a 0 = 36)
    (hF : ∀ w, Below w0.heap.size w0 w → DkI w g s → Calls Tryz.prog 12 #[.pointer (some ⟨g, 0, none⟩), .string a] w fun e w' => e = .returned (.string r) ∧ DkI w' g s2 ∧ Below w0.heap.size w0 w') :
    Calls Tryz.prog 9 #[.pointer (some ⟨g, 0, none⟩), .string a] w fun e w' => e = .returned (.string (r)) ∧ DkI w' g (s2) ∧ Below w0.heap.size w0 w' := by
  have HI := Aside0.mk hI
  have HB := Aside0.mk hB
  have HT := Aside0.mk hT
  clear hI hB hT
  have hx0 := bt_at0 a
  have hz0 : decide (0 < a.size) = true := decide_eq_true hp.1
  have hz1 := hp.1
  have hz2 : decide ((0 : Int) < (a.size : Int)) = true := decide_eq_true (by omega)
  have hc0 : (bt a 0 == 36) = true := beq_iff_eq.2 hp.2
  have HF := Aside0.mk hF
  have HS := Aside0.mk hS
  clear hS
  clear hp hF
  go_enter Tryz.func9, Tryz.ntmps9
  go_wp2_with (first | (go_at_call 11; (with_reducible refine (HS.out _ (Tc.keep HT.out HB.out)).mono ?_); rintro _ w1 ⟨A, cp, rfl, hl, hc, hb⟩; have nB := Aside0.mk (below_step HB.out hb); have nI := Aside0.mk (DkI.below HI.out hb); clear HB HI hb; have HB := nB; have HI := nI; clear nB nI; have HC := Aside0.mk hc; have HL := Aside0.mk hl; clear hc hl) | (go_at_call 12; (with_reducible refine (HF.out _ HB.out HI.out).mono ?_); rintro _ _ ⟨rfl, hI2, hB2⟩; have HI2 := Aside0.mk hI2; have HB2 := Aside0.mk hB2; clear hI2 hB2))
  go_ret
  exact ⟨rfl, HI2.out, HB2.out⟩
set_option maxRecDepth 100000 in
set_option maxHeartbeats 4000000 in
theorem dk_line_wait (g : Nat) (s : Sta) (a : ByteArray) (w0 w : World) (hT : Tc w0) (hB : Below w0.heap.size w0 w) (hg : w0.heap.size ≤ g) (hI : DkI w g s) (x : ByteArray) (hS : RetS 11 #[.string a, .int .u8 32] [⟨#[119, 97, 105, 116]⟩, x]) (n : Int) (hN : Ret 14 #[.string x] (.int .i64 n)) (r : ByteArray) (s2 : Sta)
    (hp : 0 < a.size ∧ ¬ bt a 0 = 36)
    (hF : ∀ w, Below w0.heap.size w0 w → DkI w g s → Calls Tryz.prog 13 #[.pointer (some ⟨g, 0, none⟩), .int .i64 n] w fun e w' => e = .returned (.string r) ∧ DkI w' g s2 ∧ Below w0.heap.size w0 w') :
    Calls Tryz.prog 9 #[.pointer (some ⟨g, 0, none⟩), .string a] w fun e w' => e = .returned (.string (r)) ∧ DkI w' g (s2) ∧ Below w0.heap.size w0 w' := by
  have HI := Aside0.mk hI
  have HB := Aside0.mk hB
  have HT := Aside0.mk hT
  clear hI hB hT
  have hx0 := bt_at0 a
  have hz0 : decide (0 < a.size) = true := decide_eq_true hp.1
  have hz1 := hp.1
  have hz2 : decide ((0 : Int) < (a.size : Int)) = true := decide_eq_true (by omega)
  have hc0 : (bt a 0 == 36) = false := beq_eq_false_iff_ne.2 hp.2
  have HF := Aside0.mk hF
  have HS := Aside0.mk hS
  have HN := Aside0.mk hN
  clear hp hF hS hN
  go_enter Tryz.func9, Tryz.ntmps9
  go_wp2_with (first | (go_at_call 11; (with_reducible refine (HS.out _ (Tc.keep HT.out HB.out)).mono ?_); rintro _ w1 ⟨A, cp, rfl, hl, hc, hb⟩; have nB := Aside0.mk (below_step HB.out hb); have nI := Aside0.mk (DkI.below HI.out hb); clear HB HI hb; have HB := nB; have HI := nI; clear nB nI; have HC := Aside0.mk hc; have HL := Aside0.mk hl; clear hc hl; obtain ⟨ad, e, x0, x1⟩ := str2 HC.out; subst e) | (go_at_call 14; (with_reducible refine (HN.out _ (Tc.keep HT.out HB.out)).mono ?_); rintro _ w2 ⟨rfl, hb⟩; have nB := Aside0.mk (below_step HB.out hb); have nI := Aside0.mk (DkI.below HI.out hb); clear HB HI hb; have HB := nB; have HI := nI; clear nB nI) | (go_at_call 13; (with_reducible refine (HF.out _ HB.out HI.out).mono ?_); rintro _ w3 ⟨rfl, hI2, hB2⟩; have HI2 := Aside0.mk hI2; have HB2 := Aside0.mk hB2; clear hI2 hB2))
  go_ret
  exact ⟨rfl, HI2.out, HB2.out⟩
set_option maxRecDepth 100000 in
set_option maxHeartbeats 4000000 in
theorem dk_line_ask (g : Nat) (s : Sta) (a : ByteArray) (w0 w : World) (hT : Tc w0) (hB : Below w0.heap.size w0 w) (hg : w0.heap.size ≤ g) (hI : DkI w g s) (x : ByteArray) (hS : RetS 11 #[.string a, .int .u8 32] [⟨#[97, 115, 107]⟩, x]) (n : Int) (hN : Ret 14 #[.string x] (.int .i64 n)) (r : ByteArray) (s2 : Sta)
    (hp : 0 < a.size ∧ ¬ bt a 0 = 36)
    (hF : ∀ w, Below w0.heap.size w0 w → DkI w g s → Calls Tryz.prog 15 #[.pointer (some ⟨g, 0, none⟩), .int .i64 n] w fun e w' => e = .returned (.string r) ∧ DkI w' g s2 ∧ Below w0.heap.size w0 w') :
    Calls Tryz.prog 9 #[.pointer (some ⟨g, 0, none⟩), .string a] w fun e w' => e = .returned (.string (r)) ∧ DkI w' g (s2) ∧ Below w0.heap.size w0 w' := by
  have HI := Aside0.mk hI
  have HB := Aside0.mk hB
  have HT := Aside0.mk hT
  clear hI hB hT
  have hx0 := bt_at0 a
  have hz0 : decide (0 < a.size) = true := decide_eq_true hp.1
  have hz1 := hp.1
  have hz2 : decide ((0 : Int) < (a.size : Int)) = true := decide_eq_true (by omega)
  have hc0 : (bt a 0 == 36) = false := beq_eq_false_iff_ne.2 hp.2
  have HF := Aside0.mk hF
  have HS := Aside0.mk hS
  have HN := Aside0.mk hN
  clear hp hF hS hN
  go_enter Tryz.func9, Tryz.ntmps9
  go_wp2_with (first | (go_at_call 11; (with_reducible refine (HS.out _ (Tc.keep HT.out HB.out)).mono ?_); rintro _ w1 ⟨A, cp, rfl, hl, hc, hb⟩; have nB := Aside0.mk (below_step HB.out hb); have nI := Aside0.mk (DkI.below HI.out hb); clear HB HI hb; have HB := nB; have HI := nI; clear nB nI; have HC := Aside0.mk hc; have HL := Aside0.mk hl; clear hc hl; obtain ⟨ad, e, x0, x1⟩ := str2 HC.out; subst e) | (go_at_call 14; (with_reducible refine (HN.out _ (Tc.keep HT.out HB.out)).mono ?_); rintro _ w2 ⟨rfl, hb⟩; have nB := Aside0.mk (below_step HB.out hb); have nI := Aside0.mk (DkI.below HI.out hb); clear HB HI hb; have HB := nB; have HI := nI; clear nB nI) | (go_at_call 15; (with_reducible refine (HF.out _ HB.out HI.out).mono ?_); rintro _ w3 ⟨rfl, hI2, hB2⟩; have HI2 := Aside0.mk hI2; have HB2 := Aside0.mk hB2; clear hI2 hB2))
  go_ret
  exact ⟨rfl, HI2.out, HB2.out⟩
structure dkInv (w0 : World) (g : Nat) (s : Sta) (W : World) : Prop where
  i : DkI W g s
  b : Below w0.heap.size w0 W
theorem dkInv.drew {w0 : World} {g : Nat} {s : Sta} {W : World} (h : dkInv w0 g s W) : dkInv w0 g s W.drew := ⟨h.i, below_drew1 h.b⟩
theorem dkInv.below {w0 : World} {g : Nat} {s : Sta} {W W' : World} (h : dkInv w0 g s W) (hb : Below W.heap.size W W') : dkInv w0 g s W' := ⟨h.i.below hb, below_step h.b hb⟩
structure dkDat (w0 : World) (g : Nat) (s : Sta) (gb : Nat) (cs : Array Value) (W : World) : Prop where
  i : dkInv w0 g s W
  h : W.heap[gb]? = some (.cells cs 44 (0, 0))
theorem dkDat.drew {w0 : World} {g : Nat} {s : Sta} {gb : Nat} {cs : Array Value} {W : World} (h : dkDat w0 g s gb cs W) : dkDat w0 g s gb cs W.drew := ⟨h.i.drew, h.h⟩
theorem dkDat.below {w0 : World} {g : Nat} {s : Sta} {gb : Nat} {cs : Array Value} {W W' : World} (h : dkDat w0 g s gb cs W) (hb : Below W.heap.size W W') : dkDat w0 g s gb cs W' := ⟨h.i.below hb, blk_below h.h hb⟩
set_option maxRecDepth 100000 in
set_option maxHeartbeats 4000000 in
theorem dk_line_level (g : Nat) (s : Sta) (a : ByteArray) (w0 w : World) (hT : Tc w0) (hB : Below w0.heap.size w0 w) (hg : w0.heap.size ≤ g) (hI : DkI w g s) (hS : RetS 11 #[.string a, .int .u8 32] [a]) (ha : a.toList = [108, 101, 118, 101, 108]) (r : ByteArray) (hv : VS s.e s.wa s.sn s.t) (hR : Ret 16 #[.int .i64 (levV s.e s.wa s.sn s.t)] (.string r)) (hp : 0 < a.size ∧ ¬ bt a 0 = 36) :
    Calls Tryz.prog 9 #[.pointer (some ⟨g, 0, none⟩), .string a] w fun e w' => e = .returned (.string (r)) ∧ DkI w' g (s) ∧ Below w0.heap.size w0 w' := by
  have HI := Aside0.mk hI
  have HB := Aside0.mk hB
  have HT := Aside0.mk hT
  clear hI hB hT
  have hx0 := bt_at0 a
  have hz0 : decide (0 < a.size) = true := decide_eq_true hp.1
  have hz1 := hp.1
  have hz2 : decide ((0 : Int) < (a.size : Int)) = true := decide_eq_true (by omega)
  have hc0 : (bt a 0 == 36) = false := beq_eq_false_iff_ne.2 hp.2
  have y0 : (a.toList == [119, 97, 105, 116]) = false := by rw [ha]; decide
  have y1 : (a.toList == [97, 115, 107]) = false := by rw [ha]; decide
  have y2 : (a.toList == [108, 101, 118, 101, 108]) = true := by rw [ha]; decide
  have y3 : (a.toList == [100, 97, 116, 101]) = false := by rw [ha]; decide
  clear ha
  have HS := Aside0.mk hS
  have HR := Aside0.mk hR
  have HV := Aside0.mk (spec_LA s.e s.wa s.sn s.t hv)
  clear hp hS hR hv
  go_enter Tryz.func9, Tryz.ntmps9
  go_wp2_with (first | (go_at_call 11; (with_reducible refine (HS.out _ (Tc.keep HT.out HB.out)).mono ?_); rintro _ w1 ⟨A, cp, rfl, hl, hc, hb⟩; have nB := Aside0.mk (below_step HB.out hb); have nI := Aside0.mk (DkI.below HI.out hb); clear HB HI hb; have HB := nB; have HI := nI; clear nB nI; have HC := Aside0.mk hc; have HL := Aside0.mk hl; clear hc hl; obtain ⟨ad, e, x0⟩ := str1 HC.out; subst e))
  have n2 : Aside0 (dkInv w0 g s w1) := ⟨HI.out, HB.out⟩
  clear HI HB x0
  go_region_held3 (fun w' => w'.cell? ⟨g, 3, none⟩ = some (.int .i64 s.t) ∧ w'.cell? ⟨g, 0, none⟩ = some (.int .i64 s.e) ∧ w'.cell? ⟨g, 1, none⟩ = some (.int .i64 s.wa) ∧ w'.cell? ⟨g, 2, none⟩ = some (.int .i64 s.sn) ∧ Aside0 (dkInv w0 g s w')) (first | exact ⟨(DkI.cells ((dkInv.drew n2.out)).i).1, (DkI.cells ((dkInv.drew n2.out)).i).2.1, (DkI.cells ((dkInv.drew n2.out)).i).2.2.1, (DkI.cells ((dkInv.drew n2.out)).i).2.2.2, ⟨(dkInv.drew n2.out)⟩⟩ | exact ⟨(DkI.cells (n3.out).i).1, (DkI.cells (n3.out).i).2.1, (DkI.cells (n3.out).i).2.2.1, (DkI.cells (n3.out).i).2.2.2, ⟨n3.out⟩⟩ | exact ⟨(DkI.cells (n4.out).i).1, (DkI.cells (n4.out).i).2.1, (DkI.cells (n4.out).i).2.2.1, (DkI.cells (n4.out).i).2.2.2, ⟨n4.out⟩⟩)
    (first | (go_at_call 17; (with_reducible refine (HV.out _).mono ?_); rintro _ w3 ⟨rfl, hb⟩; have n3 : Aside0 (dkInv w0 g s w3) := ⟨dkInv.below (dkInv.drew n2.out) hb⟩; clear hb) | (go_at_call 16; (with_reducible refine (HR.out _ (Tc.keep HT.out n3.out.b)).mono ?_); rintro _ w4 ⟨rfl, hb⟩; have n4 : Aside0 (dkInv w0 g s w4) := ⟨dkInv.below n3.out hb⟩; clear hb))
  go_wp2
  go_ret
  exact ⟨rfl, n4.out.i, n4.out.b⟩
set_option maxRecDepth 100000 in
set_option maxHeartbeats 4000000 in
theorem dk_line_date (g : Nat) (s : Sta) (a : ByteArray) (w0 w : World) (hT : Tc w0) (hB : Below w0.heap.size w0 w) (hg : w0.heap.size ≤ g) (hI : DkI w g s) (hS : RetS 11 #[.string a, .int .u8 32] [a]) (ha : a.toList = [100, 97, 116, 101]) (y m d sc n : Int) (Y M D : ByteArray) (hF : Ret 18 #[.int .i64 s.t, .int .i64 0] (.agg #[.int .i64 y, .int .i64 m, .int .i64 d, .int .i64 sc, .int .i64 n]))
    (hY : Ret 16 #[.int .i64 y] (.string Y)) (hM : Ret 19 #[.int .i64 m, .int .i64 2] (.string M)) (hD : Ret 19 #[.int .i64 d, .int .i64 2] (.string D)) (hz : Y.size ≤ 1000 ∧ M.size ≤ 1000 ∧ D.size ≤ 1000) (hp : 0 < a.size ∧ ¬ bt a 0 = 36) :
    Calls Tryz.prog 9 #[.pointer (some ⟨g, 0, none⟩), .string a] w fun e w' => e = .returned (.string (Y ++ ⟨#[45]⟩ ++ M ++ ⟨#[45]⟩ ++ D)) ∧ DkI w' g (s) ∧ Below w0.heap.size w0 w' := by
  have HI := Aside0.mk hI
  have HB := Aside0.mk hB
  have HT := Aside0.mk hT
  clear hI hB hT
  have hx0 := bt_at0 a
  have hz0 : decide (0 < a.size) = true := decide_eq_true hp.1
  have hz1 := hp.1
  have hz2 : decide ((0 : Int) < (a.size : Int)) = true := decide_eq_true (by omega)
  have hc0 : (bt a 0 == 36) = false := beq_eq_false_iff_ne.2 hp.2
  have y0 : (a.toList == [119, 97, 105, 116]) = false := by rw [ha]; decide
  have y1 : (a.toList == [97, 115, 107]) = false := by rw [ha]; decide
  have y2 : (a.toList == [108, 101, 118, 101, 108]) = false := by rw [ha]; decide
  have y3 : (a.toList == [100, 97, 116, 101]) = true := by rw [ha]; decide
  clear ha
  have HS := Aside0.mk hS
  have HF := Aside0.mk hF
  have HY := Aside0.mk hY
  have HM := Aside0.mk hM
  have HD := Aside0.mk hD
  have z1 : (9223372036854775807 < Y.size + 1) = False := eq_false (by omega)
  have z2 : (9223372036854775807 < Y.size + 1 + M.size) = False := eq_false (by omega)
  have z3 : (9223372036854775807 < Y.size + 1 + M.size + 1) = False := eq_false (by omega)
  have z4 : (9223372036854775807 < Y.size + 1 + M.size + 1 + D.size) = False := eq_false (by omega)
  have Z := Aside0.mk (And.intro z1 (And.intro z2 (And.intro z3 z4)))
  clear hp hS hF hY hM hD hz z1 z2 z3 z4
  have hu44 := Tryz.underlying44
  have hfl : ∀ W : World, (Instr.field 44 (.agg #[.int .i64 y, .int .i64 m, .int .i64 d, .int .i64 sc, .int .i64 n]) 0).run Tryz.prog W = .ok (.agg #[.int .i64 y, .int .i64 m, .int .i64 d]) W := fun _ => by kernel_rfl
  have hu42 := Tryz.underlying42
  go_enter Tryz.func9, Tryz.ntmps9
  go_wp2_with (first | (go_at_call 11; (with_reducible refine (HS.out _ (Tc.keep HT.out HB.out)).mono ?_); rintro _ w1 ⟨A, cp, rfl, hl, hc, hb⟩; have nB := Aside0.mk (below_step HB.out hb); have nI := Aside0.mk (DkI.below HI.out hb); clear HB HI hb; have HB := nB; have HI := nI; clear nB nI; have HC := Aside0.mk hc; have HL := Aside0.mk hl; clear hc hl; obtain ⟨ad, e, x0⟩ := str1 HC.out; subst e; obtain ⟨k0, -⟩ := DkI.cells HI.out) | (go_at_call 18; (with_reducible refine (HF.out _ (Tc.keep HT.out HB.out)).mono ?_); rintro _ w2 ⟨rfl, hb⟩; have n2 : Aside0 (dkInv w0 g s w2) := ⟨⟨DkI.below HI.out hb, below_step HB.out hb⟩⟩; clear hb))
  have n3 : Aside0 (dkDat w0 g s w2.heap.size #[.int .i64 y, .int .i64 m, .int .i64 d, .int .i64 sc, .int .i64 n] (w2.alloc (.cells #[.int .i64 y, .int .i64 m, .int .i64 d, .int .i64 sc, .int .i64 n] 44))) := ⟨⟨n2.out.below (below_alloc (Below.refl _ _) _), heap_alloc_new _ _⟩⟩
  clear HI HB x0 k0 n2
  generalize w2.alloc (.cells #[.int .i64 y, .int .i64 m, .int .i64 d, .int .i64 sc, .int .i64 n] 44) = w3 at *
  generalize w2.heap.size = gb at *
  obtain ⟨z1, z2, z3, z4⟩ := Z.out
  go_region_held3 (fun w' => w'.cell? ⟨gb, 0, none⟩ = some (.int .i64 y) ∧ w'.cell? ⟨gb, 1, none⟩ = some (.int .i64 m) ∧ w'.cell? ⟨gb, 2, none⟩ = some (.int .i64 d) ∧ Aside0 (dkDat w0 g s gb #[.int .i64 y, .int .i64 m, .int .i64 d, .int .i64 sc, .int .i64 n] w')) (first | exact ⟨(blk_cell ((dkDat.drew n3.out)).h 0).trans rfl, (blk_cell ((dkDat.drew n3.out)).h 1).trans rfl, (blk_cell ((dkDat.drew n3.out)).h 2).trans rfl, ⟨(dkDat.drew n3.out)⟩⟩ | exact ⟨(blk_cell (n4.out).h 0).trans rfl, (blk_cell (n4.out).h 1).trans rfl, (blk_cell (n4.out).h 2).trans rfl, ⟨n4.out⟩⟩ | exact ⟨(blk_cell (n5.out).h 0).trans rfl, (blk_cell (n5.out).h 1).trans rfl, (blk_cell (n5.out).h 2).trans rfl, ⟨n5.out⟩⟩ | exact ⟨(blk_cell (n6.out).h 0).trans rfl, (blk_cell (n6.out).h 1).trans rfl, (blk_cell (n6.out).h 2).trans rfl, ⟨n6.out⟩⟩)
    (first | (go_at_call 16; (with_reducible refine (HY.out _ (Tc.keep HT.out ((dkDat.drew n3.out)).i.b)).mono ?_); rintro _ w4 ⟨rfl, hb⟩; have n4 : Aside0 (dkDat w0 g s gb #[.int .i64 y, .int .i64 m, .int .i64 d, .int .i64 sc, .int .i64 n] w4) := ⟨dkDat.below (dkDat.drew n3.out) hb⟩; clear hb) | (go_at_call 19; (with_reducible refine (HM.out _ (Tc.keep HT.out (n4.out).i.b)).mono ?_); rintro _ w5 ⟨rfl, hb⟩; have n5 : Aside0 (dkDat w0 g s gb #[.int .i64 y, .int .i64 m, .int .i64 d, .int .i64 sc, .int .i64 n] w5) := ⟨dkDat.below n4.out hb⟩; clear hb) | (go_at_call 19; (with_reducible refine (HD.out _ (Tc.keep HT.out (n5.out).i.b)).mono ?_); rintro _ w6 ⟨rfl, hb⟩; have n6 : Aside0 (dkDat w0 g s gb #[.int .i64 y, .int .i64 m, .int .i64 d, .int .i64 sc, .int .i64 n] w6) := ⟨dkDat.below n5.out hb⟩; clear hb))
  go_wp2
  go_ret
  exact ⟨rfl, n6.out.i.i, n6.out.i.b⟩
set_option maxRecDepth 100000 in
set_option maxHeartbeats 8000000 in
theorem dk_line_what (g : Nat) (s : Sta) (a : ByteArray) (w0 w : World) (hT : Tc w0) (hB : Below w0.heap.size w0 w) (hg : w0.heap.size ≤ g) (hI : DkI w g s) (x0 : ByteArray) (ws : List ByteArray) (hS : RetS 11 #[.string a, .int .u8 32] (x0 :: ws)) (hW : WhatC x0 (x0 :: ws).length) (hl : ¬ a.toList = [108, 101, 118, 101, 108]) (hd : ¬ a.toList = [100, 97, 116, 101]) (hp : 0 < a.size ∧ ¬ bt a 0 = 36) :
    Calls Tryz.prog 9 #[.pointer (some ⟨g, 0, none⟩), .string a] w fun e w' => e = .returned (.string (bWhat)) ∧ DkI w' g (s) ∧ Below w0.heap.size w0 w' := by
  have HI := Aside0.mk hI
  have HB := Aside0.mk hB
  have HT := Aside0.mk hT
  clear hI hB hT
  have hx0 := bt_at0 a
  have hz0 : decide (0 < a.size) = true := decide_eq_true hp.1
  have hz1 := hp.1
  have hz2 : decide ((0 : Int) < (a.size : Int)) = true := decide_eq_true (by omega)
  have hc0 : (bt a 0 == 36) = false := beq_eq_false_iff_ne.2 hp.2
  have HS := Aside0.mk hS
  clear hp hS
  have w0 : (a.toList == [108, 101, 118, 101, 108]) = false := beq_eq_false_iff_ne.2 hl
  have w1 : (a.toList == [100, 97, 116, 101]) = false := beq_eq_false_iff_ne.2 hd
  clear hl hd
  rcases hW with h | h | h | h | h
  · obtain ⟨h0, h1⟩ := h
    have c0 : (x0.toList == [119, 97, 105, 116]) = true := by rw [h0]; decide
    have c1 : (x0.toList == [97, 115, 107]) = false := by rw [h0]; decide
    have c2 : (x0.toList == [108, 101, 118, 101, 108]) = false := by rw [h0]; decide
    have c3 : (x0.toList == [100, 97, 116, 101]) = false := by rw [h0]; decide
    have c9 : ((((x0 :: ws).length : Nat) : Int) == 2) = false := beq_eq_false_iff_ne.2 (by omega)
    have c8 : ¬ ((((x0 :: ws).length : Nat) : Int) = 2) := by omega
    clear h0 h1
    generalize hgn : (x0 :: ws).length = nn at *
    go_enter Tryz.func9, Tryz.ntmps9
    go_wp2_with (first | (go_at_call 11; (with_reducible refine (HS.out _ (Tc.keep HT.out HB.out)).mono ?_); rintro _ w1 ⟨A, cp, rfl, hl, hc, hb⟩; have nB := Aside0.mk (below_step HB.out hb); have nI := Aside0.mk (DkI.below HI.out hb); clear HB HI hb; have HB := nB; have HI := nI; clear nB nI; have HC := Aside0.mk hc; have HL := Aside0.mk hl; clear hc hl; obtain ⟨ad, e, hx0'⟩ := str1 HC.out; subst e; have hm0 := mem0 (x0 :: ws) (by simp)))
    go_ret
    exact ⟨rfl, HI.out, HB.out⟩
  · obtain ⟨h0, h1⟩ := h
    have c0 : (x0.toList == [119, 97, 105, 116]) = false := by rw [h0]; decide
    have c1 : (x0.toList == [97, 115, 107]) = true := by rw [h0]; decide
    have c2 : (x0.toList == [108, 101, 118, 101, 108]) = false := by rw [h0]; decide
    have c3 : (x0.toList == [100, 97, 116, 101]) = false := by rw [h0]; decide
    have c9 : ((((x0 :: ws).length : Nat) : Int) == 2) = false := beq_eq_false_iff_ne.2 (by omega)
    have c8 : ¬ ((((x0 :: ws).length : Nat) : Int) = 2) := by omega
    clear h0 h1
    generalize hgn : (x0 :: ws).length = nn at *
    go_enter Tryz.func9, Tryz.ntmps9
    go_wp2_with (first | (go_at_call 11; (with_reducible refine (HS.out _ (Tc.keep HT.out HB.out)).mono ?_); rintro _ w1 ⟨A, cp, rfl, hl, hc, hb⟩; have nB := Aside0.mk (below_step HB.out hb); have nI := Aside0.mk (DkI.below HI.out hb); clear HB HI hb; have HB := nB; have HI := nI; clear nB nI; have HC := Aside0.mk hc; have HL := Aside0.mk hl; clear hc hl; obtain ⟨ad, e, hx0'⟩ := str1 HC.out; subst e; have hm0 := mem0 (x0 :: ws) (by simp)))
    go_ret
    exact ⟨rfl, HI.out, HB.out⟩
  · obtain ⟨h0, h1⟩ := h
    have c0 : (x0.toList == [119, 97, 105, 116]) = false := by rw [h0]; decide
    have c1 : (x0.toList == [97, 115, 107]) = false := by rw [h0]; decide
    have c2 : (x0.toList == [108, 101, 118, 101, 108]) = true := by rw [h0]; decide
    have c3 : (x0.toList == [100, 97, 116, 101]) = false := by rw [h0]; decide
    have c9 : ((((x0 :: ws).length : Nat) : Int) == 1) = false := beq_eq_false_iff_ne.2 (by omega)
    have c8 : ¬ ((((x0 :: ws).length : Nat) : Int) = 1) := by omega
    clear h0 h1
    generalize hgn : (x0 :: ws).length = nn at *
    go_enter Tryz.func9, Tryz.ntmps9
    go_wp2_with (first | (go_at_call 11; (with_reducible refine (HS.out _ (Tc.keep HT.out HB.out)).mono ?_); rintro _ w1 ⟨A, cp, rfl, hl, hc, hb⟩; have nB := Aside0.mk (below_step HB.out hb); have nI := Aside0.mk (DkI.below HI.out hb); clear HB HI hb; have HB := nB; have HI := nI; clear nB nI; have HC := Aside0.mk hc; have HL := Aside0.mk hl; clear hc hl; obtain ⟨ad, e, hx0'⟩ := str1 HC.out; subst e; have hm0 := mem0 (x0 :: ws) (by simp)))
    go_ret
    exact ⟨rfl, HI.out, HB.out⟩
  · obtain ⟨h0, h1⟩ := h
    have c0 : (x0.toList == [119, 97, 105, 116]) = false := by rw [h0]; decide
    have c1 : (x0.toList == [97, 115, 107]) = false := by rw [h0]; decide
    have c2 : (x0.toList == [108, 101, 118, 101, 108]) = false := by rw [h0]; decide
    have c3 : (x0.toList == [100, 97, 116, 101]) = true := by rw [h0]; decide
    have c9 : ((((x0 :: ws).length : Nat) : Int) == 1) = false := beq_eq_false_iff_ne.2 (by omega)
    have c8 : ¬ ((((x0 :: ws).length : Nat) : Int) = 1) := by omega
    clear h0 h1
    generalize hgn : (x0 :: ws).length = nn at *
    go_enter Tryz.func9, Tryz.ntmps9
    go_wp2_with (first | (go_at_call 11; (with_reducible refine (HS.out _ (Tc.keep HT.out HB.out)).mono ?_); rintro _ w1 ⟨A, cp, rfl, hl, hc, hb⟩; have nB := Aside0.mk (below_step HB.out hb); have nI := Aside0.mk (DkI.below HI.out hb); clear HB HI hb; have HB := nB; have HI := nI; clear nB nI; have HC := Aside0.mk hc; have HL := Aside0.mk hl; clear hc hl; obtain ⟨ad, e, hx0'⟩ := str1 HC.out; subst e; have hm0 := mem0 (x0 :: ws) (by simp)))
    go_ret
    exact ⟨rfl, HI.out, HB.out⟩
  · have h0 := h
    clear h
    obtain ⟨h0, h1, h2, h3⟩ := h0
    have c0 : (x0.toList == [119, 97, 105, 116]) = false := beq_eq_false_iff_ne.2 h0
    have c1 : (x0.toList == [97, 115, 107]) = false := beq_eq_false_iff_ne.2 h1
    have c2 : (x0.toList == [108, 101, 118, 101, 108]) = false := beq_eq_false_iff_ne.2 h2
    have c3 : (x0.toList == [100, 97, 116, 101]) = false := beq_eq_false_iff_ne.2 h3
    clear h0 h1 h2 h3
    generalize hgn : (x0 :: ws).length = nn at *
    go_enter Tryz.func9, Tryz.ntmps9
    go_wp2_with (first | (go_at_call 11; (with_reducible refine (HS.out _ (Tc.keep HT.out HB.out)).mono ?_); rintro _ w1 ⟨A, cp, rfl, hl, hc, hb⟩; have nB := Aside0.mk (below_step HB.out hb); have nI := Aside0.mk (DkI.below HI.out hb); clear HB HI hb; have HB := nB; have HI := nI; clear nB nI; have HC := Aside0.mk hc; have HL := Aside0.mk hl; clear hc hl; obtain ⟨ad, e, hx0'⟩ := str1 HC.out; subst e; have hm0 := mem0 (x0 :: ws) (by simp)))
    go_ret
    exact ⟨rfl, HI.out, HB.out⟩
set_option maxRecDepth 100000 in
set_option maxHeartbeats 8000000 in
theorem dk_line_empty (g : Nat) (s : Sta) (a : ByteArray) (w0 w : World) (hT : Tc w0) (hB : Below w0.heap.size w0 w) (hg : w0.heap.size ≤ g) (hI : DkI w g s) (hS : RetS 11 #[.string a, .int .u8 32] [a]) (hz : a.toList = []) (hp : a.size = 0) :
    Calls Tryz.prog 9 #[.pointer (some ⟨g, 0, none⟩), .string a] w fun e w' => e = .returned (.string (bWhat)) ∧ DkI w' g (s) ∧ Below w0.heap.size w0 w' := by
  have HI := Aside0.mk hI
  have HB := Aside0.mk hB
  have HT := Aside0.mk hT
  clear hI hB hT
  have HS := Aside0.mk hS
  have q0 : decide (0 < a.size) = false := decide_eq_false (by omega)
  have q1 : decide ((0 : Int) < (a.size : Int)) = false := decide_eq_false (by omega)
  have q2 : a.size = 0 := hp
  have c0 : (a.toList == [119, 97, 105, 116]) = false := by rw [hz]; decide
  have c1 : (a.toList == [97, 115, 107]) = false := by rw [hz]; decide
  have c2 : (a.toList == [108, 101, 118, 101, 108]) = false := by rw [hz]; decide
  have c3 : (a.toList == [100, 97, 116, 101]) = false := by rw [hz]; decide
  clear hS hz hp
  go_enter Tryz.func9, Tryz.ntmps9
  go_wp2_with (first | (go_at_call 11; (with_reducible refine (HS.out _ (Tc.keep HT.out HB.out)).mono ?_); rintro _ w1 ⟨A, cp, rfl, hl, hc, hb⟩; have nB := Aside0.mk (below_step HB.out hb); have nI := Aside0.mk (DkI.below HI.out hb); clear HB HI hb; have HB := nB; have HI := nI; clear nB nI; have HC := Aside0.mk hc; have HL := Aside0.mk hl; clear hc hl; obtain ⟨ad, e, x0⟩ := str1 HC.out; subst e))
  go_ret
  exact ⟨rfl, HI.out, HB.out⟩
end Go.Proofs.YtdggcfpimjdckaaGreatDoor.PFnExactRunSession
