/- Ask of both sides; no condition of its own. -/
import Derived.Test.YtdggcfpimjdckaaGreatDoorSe0
import Derived.IntWalk
namespace Go.Proofs.YtdggcfpimjdckaaGreatDoor.PFnExactRunSession
open Go.RowKit Go.Proofs.YtdggcfpimjdckaaGreatDoorW.PrintWords Go.Proofs.YtdggcfpimjdckaaGreatDoorW.PrintLast Go.Proofs.YtdggcfpimjdckaaGreatDoorW.PrintMore
attribute [local go_sem] max2_int min2_int max_two min_two max_three min_three max_four min_four   -- for this text's walks alone
set_option linter.unusedVariables false
set_option linter.unusedSimpArgs false
theorem SeI.row {W : World} {g : Nat} {s : Sta} (h : SeI W g s) : ∃ A c, W.cell? ⟨g, 1, none⟩ = some (.slice A s.l.length c) ∧ s.l.length ≤ c ∧ Kd.C k74 W A s.l.length s.l := by
  obtain ⟨v, h1, h2⟩ := h
  obtain ⟨A, c, rfl, hl, hr⟩ := Kd.R_reads h2
  exact ⟨A, c, (blk_cell h1 1).trans rfl, hl, hr⟩
theorem DkI.row {W : World} {g : Nat} {s : Sta} (h : DkI W g s) : ∃ A c, W.cell? ⟨g, 4, none⟩ = some (.slice A s.l.length c) ∧ s.l.length ≤ c ∧ Kd.C k74 W A s.l.length s.l := by
  obtain ⟨v, h1, h2⟩ := h
  obtain ⟨A, c, rfl, hl, hr⟩ := Kd.R_reads h2
  exact ⟨A, c, (blk_cell h1 4).trans rfl, hl, hr⟩
theorem SeI.lt {W : World} {g : Nat} {s : Sta} (h : SeI W g s) : g < W.heap.size := by
  obtain ⟨_, h1, _⟩ := h; exact blk_lt h1
theorem DkI.lt {W : World} {g : Nat} {s : Sta} (h : DkI W g s) : g < W.heap.size := by
  obtain ⟨_, h1, _⟩ := h; exact blk_lt h1
/-- A call of TakeToken (function f) on l. -/
abbrev RetT (f : FuncId) (l : List S74) (n t : Int) (l' : List S74) (an ok : Bool) : Prop := ∀ w A c, Kd.C k74 w A l.length l → l.length ≤ c → Calls Tryz.prog f #[.slice A l.length c, .int .i64 n, .int .i64 t] w fun e w' => ∃ v, e = .returned (.tuple #[v, .bool an, .bool ok]) ∧ Kd.R k74 74 w' w.heap.size (fun _ => True) v l' ∧ Below w.heap.size w w'
abbrev bLater : ByteArray := ⟨#[108, 97, 116, 101, 114]⟩
abbrev bAlarm : ByteArray := ⟨#[97, 108, 97, 114, 109]⟩
/-- What ask does: l', an, ok are what TakeToken gives, x and y the texts of the time and of the error. -/
def askC (s : Sta) (l' : List S74) (an ok : Bool) (x y : ByteArray) : ByteArray × Sta :=
  if ok = false then (bNo, s) else if an = false then (bLater, s) else
    (if levV s.e s.wa s.sn s.t = 0 then bAlarm else x ++ ⟨#[32]⟩ ++ y, { s with l := l' })
structure SeseA (w0 : World) (g : Nat) (s : Sta) (A : Option Addr) (W : World) : Prop where
  i : SeI W g s
  b : Below w0.heap.size w0 W
  c : Kd.C k74 W A s.l.length s.l
theorem SeseA.drew {w0 : World} {g : Nat} {s : Sta} {A : Option Addr} {W : World} (h : SeseA w0 g s A W) : SeseA w0 g s A W.drew := ⟨h.i, below_drew1 h.b, Kd.C_drew h.c⟩
theorem SeseA.below {w0 : World} {g : Nat} {s : Sta} {A : Option Addr} {W W' : World} (h : SeseA w0 g s A W) (hb : Below W.heap.size W W') : SeseA w0 g s A W' := ⟨h.i.below hb, below_step h.b hb, Kd.C_below h.c hb⟩
structure SeseB (w0 : World) (g : Nat) (s : Sta) (W : World) : Prop where
  i : SeI W g s
  b : Below w0.heap.size w0 W
theorem SeseB.drew {w0 : World} {g : Nat} {s : Sta} {W : World} (h : SeseB w0 g s W) : SeseB w0 g s W.drew := ⟨h.i, below_drew1 h.b⟩
theorem SeseB.below {w0 : World} {g : Nat} {s : Sta} {W W' : World} (h : SeseB w0 g s W) (hb : Below W.heap.size W W') : SeseB w0 g s W' := ⟨h.i.below hb, below_step h.b hb⟩
set_option maxRecDepth 100000 in
set_option maxHeartbeats 4000000 in
theorem se_ask (g : Nat) (s : Sta) (n : Int) (l' : List S74) (an ok : Bool) (x y : ByteArray) (w0 w : World) (hT : Tc w0) (hB : Below w0.heap.size w0 w) (hg : w0.heap.size ≤ g) (hI : SeI w g s)
    (hk : RetT 45 s.l n s.t l' an ok) (hx : Ret 26 #[.int .i64 s.t] (.string x)) (hy : Ret 26 #[.int .i64 (errV s.e s.wa s.sn s.t)] (.string y)) (hv : VS s.e s.wa s.sn s.t) (hz : x.size ≤ 1000 ∧ y.size ≤ 1000) :
    Calls Tryz.prog 25 #[.pointer (some ⟨g, 0, none⟩), .int .i64 n] w fun e w' => e = .returned (.string (askC s l' an ok x y).1) ∧ SeI w' g (askC s l' an ok x y).2 ∧ Below w0.heap.size w0 w' := by
  obtain ⟨A, cp, c1, hl, hr⟩ := hI.row
  obtain ⟨c0, -, -, -⟩ := hI.cells
  have HK := Aside0.mk hk
  have HL := Aside0.mk hl
  have HT := Aside0.mk hT
  have HX := Aside0.mk hx
  have HY := Aside0.mk hy
  have HLa := Aside0.mk (impl_LA s.e s.wa s.sn s.t hv)
  have HEa := Aside0.mk (impl_EA s.e s.wa s.sn s.t hv)
  have hS : Aside0 (SeseA w0 g s A w) := ⟨hI, hB, hr⟩
  have z1 : (9223372036854775807 < x.size + 1) = False := eq_false (by omega)
  have z2 : (9223372036854775807 < x.size + 1 + y.size) = False := eq_false (by omega)
  clear hI hB hr hl hk hT hx hy hv hz
  unfold askC
  cases ok with
  | false =>
    rw [if_pos rfl]
    clear z1 z2
    go_enter Tryz.func25, Tryz.ntmps25
    go_wp2_with fail
    go_region_held3 (fun w' => w'.cell? ⟨g, 0, none⟩ = some (.int .i64 s.t) ∧ w'.cell? ⟨g, 1, none⟩ = some (.slice A s.l.length cp) ∧ Aside0 (SeseA w0 g s A w')) (first | exact ⟨by go_simp, by go_simp, ⟨SeseA.drew hS.out⟩⟩ | exact ⟨d0, d1, nS⟩)
      (first | (go_at_call 45; (with_reducible refine (HK.out _ _ _ (SeseA.drew hS.out).c HL.out).mono ?_); rintro _ w1 ⟨v, rfl, hv', hb⟩; have nS : Aside0 (SeseA w0 g s A w1) := ⟨SeseA.below (SeseA.drew hS.out) hb⟩; have nR : Aside0 (Kd.R k74 74 w1 0 (fun k => k ≠ g) v l') := ⟨rnew hv' hS.out.i.lt⟩; have d0 := (SeI.cells nS.out.i).1; have d1 := pw_cell_below hb (show w.drew.cell? _ = _ from c1); clear hv' hb))
    go_wp2
    go_ret
    exact ⟨rfl, nS.out.i, nS.out.b⟩
  | true =>
  rw [if_neg (by simp)]
  cases an with
  | false =>
    rw [if_pos rfl]
    clear z1 z2
    go_enter Tryz.func25, Tryz.ntmps25
    go_wp2_with fail
    go_region_held3 (fun w' => w'.cell? ⟨g, 0, none⟩ = some (.int .i64 s.t) ∧ w'.cell? ⟨g, 1, none⟩ = some (.slice A s.l.length cp) ∧ Aside0 (SeseA w0 g s A w')) (first | exact ⟨by go_simp, by go_simp, ⟨SeseA.drew hS.out⟩⟩ | exact ⟨d0, d1, nS⟩)
      (first | (go_at_call 45; (with_reducible refine (HK.out _ _ _ (SeseA.drew hS.out).c HL.out).mono ?_); rintro _ w1 ⟨v, rfl, hv', hb⟩; have nS : Aside0 (SeseA w0 g s A w1) := ⟨SeseA.below (SeseA.drew hS.out) hb⟩; have nR : Aside0 (Kd.R k74 74 w1 0 (fun k => k ≠ g) v l') := ⟨rnew hv' hS.out.i.lt⟩; have d0 := (SeI.cells nS.out.i).1; have d1 := pw_cell_below hb (show w.drew.cell? _ = _ from c1); clear hv' hb))
    go_wp2
    go_ret
    exact ⟨rfl, nS.out.i, nS.out.b⟩
  | true =>
  rw [if_neg (by simp)]
  generalize hLv : levV s.e s.wa s.sn s.t = lv at *
  by_cases h0 : lv = 0
  · rw [if_pos h0]
    subst h0
    clear z1 z2
    have t0 : HLa = HLa := rfl
    clear t0
    go_enter Tryz.func25, Tryz.ntmps25
    go_wp2_with fail
    go_region_held3 (fun w' => w'.cell? ⟨g, 0, none⟩ = some (.int .i64 s.t) ∧ w'.cell? ⟨g, 1, none⟩ = some (.slice A s.l.length cp) ∧ Aside0 (SeseA w0 g s A w')) (first | exact ⟨by go_simp, by go_simp, ⟨SeseA.drew hS.out⟩⟩ | exact ⟨d0, d1, nS⟩)
      (first | (go_at_call 45; (with_reducible refine (HK.out _ _ _ (SeseA.drew hS.out).c HL.out).mono ?_); rintro _ w1 ⟨v, rfl, hv', hb⟩; have nS : Aside0 (SeseA w0 g s A w1) := ⟨SeseA.below (SeseA.drew hS.out) hb⟩; have nR : Aside0 (Kd.R k74 74 w1 0 (fun k => k ≠ g) v l') := ⟨rnew hv' hS.out.i.lt⟩; have d0 := (SeI.cells nS.out.i).1; have d1 := pw_cell_below hb (show w.drew.cell? _ = _ from c1); clear hv' hb))
    have fz := SeI.free nS.out.i 1
    obtain ⟨c, hc⟩ : ∃ u, w1.cell? ⟨g, 1, none⟩ = some u := ⟨_, d1⟩
    obtain ⟨A2, c2, rfl⟩ := Kd.R_slice nR.out
    have nS2 : Aside0 (SeseB w0 g { s with l := l' } (w1.setCell ⟨g, 1, none⟩ (.slice A2 l'.length c2))) := ⟨SeI.set_l nS.out.i nR.out, below_set nS.out.b hg⟩
    go_wp2_with fail
    generalize w1.setCell ⟨g, 1, none⟩ (.slice A2 l'.length c2) = w2 at nS2 ⊢
    clear d0 nS nR fz d1
    go_region_held3 (fun w' => w'.cell? ⟨g, 0, none⟩ = some (.int .i64 s.t) ∧ w'.cell? ⟨g, 2, none⟩ = some (.int .i64 s.e) ∧ w'.cell? ⟨g, 3, none⟩ = some (.int .i64 s.wa) ∧ w'.cell? ⟨g, 4, none⟩ = some (.int .i64 s.sn) ∧ Aside0 (SeseB w0 g { s with l := l' } w')) (first | exact ⟨(SeI.cells ((SeseB.drew nS2.out)).i).1, (SeI.cells ((SeseB.drew nS2.out)).i).2.1, (SeI.cells ((SeseB.drew nS2.out)).i).2.2.1, (SeI.cells ((SeseB.drew nS2.out)).i).2.2.2, ⟨(SeseB.drew nS2.out)⟩⟩ | exact ⟨(SeI.cells (n3.out).i).1, (SeI.cells (n3.out).i).2.1, (SeI.cells (n3.out).i).2.2.1, (SeI.cells (n3.out).i).2.2.2, ⟨n3.out⟩⟩)
      (first | (go_at_call 27; (with_reducible refine (HLa.out _).mono ?_); rintro _ w3 ⟨rfl, hb⟩; have n3 : Aside0 (SeseB w0 g { s with l := l' } w3) := ⟨SeseB.below (SeseB.drew nS2.out) hb⟩; clear hb))
    go_wp2
    go_ret
    exact ⟨rfl, n3.out.i, n3.out.b⟩
  · rw [if_neg h0]
    have e0 : (lv == 0) = false := beq_eq_false_iff_ne.2 h0
    have e1 : ¬ lv = 0 := h0
    have Z1 := Aside0.mk z1
    have Z2 := Aside0.mk z2
    clear h0 z1 z2
    go_enter Tryz.func25, Tryz.ntmps25
    go_wp2_with fail
    go_region_held3 (fun w' => w'.cell? ⟨g, 0, none⟩ = some (.int .i64 s.t) ∧ w'.cell? ⟨g, 1, none⟩ = some (.slice A s.l.length cp) ∧ Aside0 (SeseA w0 g s A w')) (first | exact ⟨by go_simp, by go_simp, ⟨SeseA.drew hS.out⟩⟩ | exact ⟨d0, d1, nS⟩)
      (first | (go_at_call 45; (with_reducible refine (HK.out _ _ _ (SeseA.drew hS.out).c HL.out).mono ?_); rintro _ w1 ⟨v, rfl, hv', hb⟩; have nS : Aside0 (SeseA w0 g s A w1) := ⟨SeseA.below (SeseA.drew hS.out) hb⟩; have nR : Aside0 (Kd.R k74 74 w1 0 (fun k => k ≠ g) v l') := ⟨rnew hv' hS.out.i.lt⟩; have d0 := (SeI.cells nS.out.i).1; have d1 := pw_cell_below hb (show w.drew.cell? _ = _ from c1); clear hv' hb))
    have fz := SeI.free nS.out.i 1
    obtain ⟨A2, c2, rfl⟩ := Kd.R_slice nR.out
    have nS2 : Aside0 (SeseB w0 g { s with l := l' } (w1.setCell ⟨g, 1, none⟩ (.slice A2 l'.length c2))) := ⟨SeI.set_l nS.out.i nR.out, below_set nS.out.b hg⟩
    go_wp2_with fail
    generalize w1.setCell ⟨g, 1, none⟩ (.slice A2 l'.length c2) = w2 at nS2 ⊢
    clear d0 nS nR fz d1
    go_region_held3 (fun w' => w'.cell? ⟨g, 0, none⟩ = some (.int .i64 s.t) ∧ w'.cell? ⟨g, 2, none⟩ = some (.int .i64 s.e) ∧ w'.cell? ⟨g, 3, none⟩ = some (.int .i64 s.wa) ∧ w'.cell? ⟨g, 4, none⟩ = some (.int .i64 s.sn) ∧ Aside0 (SeseB w0 g { s with l := l' } w')) (first | exact ⟨(SeI.cells ((SeseB.drew nS2.out)).i).1, (SeI.cells ((SeseB.drew nS2.out)).i).2.1, (SeI.cells ((SeseB.drew nS2.out)).i).2.2.1, (SeI.cells ((SeseB.drew nS2.out)).i).2.2.2, ⟨(SeseB.drew nS2.out)⟩⟩ | exact ⟨(SeI.cells (n3.out).i).1, (SeI.cells (n3.out).i).2.1, (SeI.cells (n3.out).i).2.2.1, (SeI.cells (n3.out).i).2.2.2, ⟨n3.out⟩⟩)
      (first | (go_at_call 27; (with_reducible refine (HLa.out _).mono ?_); rintro _ w3 ⟨rfl, hb⟩; have n3 : Aside0 (SeseB w0 g { s with l := l' } w3) := ⟨SeseB.below (SeseB.drew nS2.out) hb⟩; clear hb))
    go_wp2_with fail
    have z1 := Z1.out
    have z2 := Z2.out
    go_region_held3 (fun w' => w'.cell? ⟨g, 0, none⟩ = some (.int .i64 s.t) ∧ w'.cell? ⟨g, 2, none⟩ = some (.int .i64 s.e) ∧ w'.cell? ⟨g, 3, none⟩ = some (.int .i64 s.wa) ∧ w'.cell? ⟨g, 4, none⟩ = some (.int .i64 s.sn) ∧ Aside0 (SeseB w0 g { s with l := l' } w')) (first | exact ⟨(SeI.cells ((SeseB.drew n3.out)).i).1, (SeI.cells ((SeseB.drew n3.out)).i).2.1, (SeI.cells ((SeseB.drew n3.out)).i).2.2.1, (SeI.cells ((SeseB.drew n3.out)).i).2.2.2, ⟨(SeseB.drew n3.out)⟩⟩ | exact ⟨(SeI.cells (n4.out).i).1, (SeI.cells (n4.out).i).2.1, (SeI.cells (n4.out).i).2.2.1, (SeI.cells (n4.out).i).2.2.2, ⟨n4.out⟩⟩ | exact ⟨(SeI.cells (n5.out).i).1, (SeI.cells (n5.out).i).2.1, (SeI.cells (n5.out).i).2.2.1, (SeI.cells (n5.out).i).2.2.2, ⟨n5.out⟩⟩ | exact ⟨(SeI.cells (n6.out).i).1, (SeI.cells (n6.out).i).2.1, (SeI.cells (n6.out).i).2.2.1, (SeI.cells (n6.out).i).2.2.2, ⟨n6.out⟩⟩)
      (first | (go_at_call 26; (with_reducible refine (HX.out _ (Tc.keep HT.out (SeseB.drew n3.out).b)).mono ?_); rintro _ w4 ⟨rfl, hb⟩; have n4 : Aside0 (SeseB w0 g { s with l := l' } w4) := ⟨SeseB.below (SeseB.drew n3.out) hb⟩; clear hb) | (go_at_call 46; (with_reducible refine (HEa.out _).mono ?_); rintro _ w5 ⟨rfl, hb⟩; have n5 : Aside0 (SeseB w0 g { s with l := l' } w5) := ⟨SeseB.below n4.out hb⟩; clear hb) | (go_at_call 26; (with_reducible refine (HY.out _ (Tc.keep HT.out n5.out.b)).mono ?_); rintro _ w6 ⟨rfl, hb⟩; have n6 : Aside0 (SeseB w0 g { s with l := l' } w6) := ⟨SeseB.below n5.out hb⟩; clear hb))
    go_wp2
    go_ret
    exact ⟨rfl, n6.out.i, n6.out.b⟩

structure SedkA (w0 : World) (g : Nat) (s : Sta) (A : Option Addr) (W : World) : Prop where
  i : DkI W g s
  b : Below w0.heap.size w0 W
  c : Kd.C k74 W A s.l.length s.l
theorem SedkA.drew {w0 : World} {g : Nat} {s : Sta} {A : Option Addr} {W : World} (h : SedkA w0 g s A W) : SedkA w0 g s A W.drew := ⟨h.i, below_drew1 h.b, Kd.C_drew h.c⟩
theorem SedkA.below {w0 : World} {g : Nat} {s : Sta} {A : Option Addr} {W W' : World} (h : SedkA w0 g s A W) (hb : Below W.heap.size W W') : SedkA w0 g s A W' := ⟨h.i.below hb, below_step h.b hb, Kd.C_below h.c hb⟩
structure SedkB (w0 : World) (g : Nat) (s : Sta) (W : World) : Prop where
  i : DkI W g s
  b : Below w0.heap.size w0 W
theorem SedkB.drew {w0 : World} {g : Nat} {s : Sta} {W : World} (h : SedkB w0 g s W) : SedkB w0 g s W.drew := ⟨h.i, below_drew1 h.b⟩
theorem SedkB.below {w0 : World} {g : Nat} {s : Sta} {W W' : World} (h : SedkB w0 g s W) (hb : Below W.heap.size W W') : SedkB w0 g s W' := ⟨h.i.below hb, below_step h.b hb⟩
set_option maxRecDepth 100000 in
set_option maxHeartbeats 4000000 in
theorem dk_ask (g : Nat) (s : Sta) (n : Int) (l' : List S74) (an ok : Bool) (x y : ByteArray) (w0 w : World) (hT : Tc w0) (hB : Below w0.heap.size w0 w) (hg : w0.heap.size ≤ g) (hI : DkI w g s)
    (hk : RetT 35 s.l n s.t l' an ok) (hl2 : ok = true → an = false → l' = s.l) (hx : Ret 16 #[.int .i64 s.t] (.string x)) (hy : Ret 16 #[.int .i64 (errV s.e s.wa s.sn s.t)] (.string y)) (hv : VS s.e s.wa s.sn s.t) (hz : x.size ≤ 1000 ∧ y.size ≤ 1000) :
    Calls Tryz.prog 15 #[.pointer (some ⟨g, 0, none⟩), .int .i64 n] w fun e w' => e = .returned (.string (askC s l' an ok x y).1) ∧ DkI w' g (askC s l' an ok x y).2 ∧ Below w0.heap.size w0 w' := by
  obtain ⟨A, cp, c1, hl, hr⟩ := hI.row
  obtain ⟨c0, -, -, -⟩ := hI.cells
  have HK := Aside0.mk hk
  have HL := Aside0.mk hl
  have HT := Aside0.mk hT
  have HX := Aside0.mk hx
  have HY := Aside0.mk hy
  have HLa := Aside0.mk (spec_LA s.e s.wa s.sn s.t hv)
  have HEa := Aside0.mk (spec_EA s.e s.wa s.sn s.t hv)
  have hS : Aside0 (SedkA w0 g s A w) := ⟨hI, hB, hr⟩
  have z1 : (9223372036854775807 < x.size + 1) = False := eq_false (by omega)
  have z2 : (9223372036854775807 < x.size + 1 + y.size) = False := eq_false (by omega)
  have HQ := Aside0.mk hl2
  clear hI hB hr hl hk hT hx hy hv hz hl2
  unfold askC
  cases ok with
  | false =>
    rw [if_pos rfl]
    clear z1 z2
    go_enter Tryz.func15, Tryz.ntmps15
    go_wp2_with fail
    go_region_held3 (fun w' => w'.cell? ⟨g, 3, none⟩ = some (.int .i64 s.t) ∧ w'.cell? ⟨g, 4, none⟩ = some (.slice A s.l.length cp) ∧ Aside0 (SedkA w0 g s A w')) (first | exact ⟨by go_simp, by go_simp, ⟨SedkA.drew hS.out⟩⟩ | exact ⟨d0, d1, nS⟩)
      (first | (go_at_call 35; (with_reducible refine (HK.out _ _ _ (SedkA.drew hS.out).c HL.out).mono ?_); rintro _ w1 ⟨v, rfl, hv', hb⟩; have nS : Aside0 (SedkA w0 g s A w1) := ⟨SedkA.below (SedkA.drew hS.out) hb⟩; have nR : Aside0 (Kd.R k74 74 w1 0 (fun k => k ≠ g) v l') := ⟨rnew hv' hS.out.i.lt⟩; have d0 := (DkI.cells nS.out.i).1; have d1 := pw_cell_below hb (show w.drew.cell? _ = _ from c1); clear hv' hb))
    go_wp2
    go_ret
    exact ⟨rfl, nS.out.i, nS.out.b⟩
  | true =>
  rw [if_neg (by simp)]
  cases an with
  | false =>
    rw [if_pos rfl]
    clear z1 z2
    go_enter Tryz.func15, Tryz.ntmps15
    go_wp2_with fail
    go_region_held3 (fun w' => w'.cell? ⟨g, 3, none⟩ = some (.int .i64 s.t) ∧ w'.cell? ⟨g, 4, none⟩ = some (.slice A s.l.length cp) ∧ Aside0 (SedkA w0 g s A w')) (first | exact ⟨by go_simp, by go_simp, ⟨SedkA.drew hS.out⟩⟩ | exact ⟨d0, d1, nS⟩)
      (first | (go_at_call 35; (with_reducible refine (HK.out _ _ _ (SedkA.drew hS.out).c HL.out).mono ?_); rintro _ w1 ⟨v, rfl, hv', hb⟩; have nS : Aside0 (SedkA w0 g s A w1) := ⟨SedkA.below (SedkA.drew hS.out) hb⟩; have nR : Aside0 (Kd.R k74 74 w1 0 (fun k => k ≠ g) v l') := ⟨rnew hv' hS.out.i.lt⟩; have d0 := (DkI.cells nS.out.i).1; have d1 := pw_cell_below hb (show w.drew.cell? _ = _ from c1); clear hv' hb))
    have fz := DkI.free nS.out.i 4
    obtain ⟨A2, c2, rfl⟩ := Kd.R_slice nR.out
    have nS2 : Aside0 (SedkB w0 g { s with l := l' } (w1.setCell ⟨g, 4, none⟩ (.slice A2 l'.length c2))) := ⟨DkI.set_l nS.out.i nR.out, below_set nS.out.b hg⟩
    go_wp2
    go_ret
    have e_ : ({ s with l := l' } : Sta) = s := by rw [HQ.out (by simp) (by simp)]
    exact ⟨rfl, by have q_ := nS2.out.i; rw [e_] at q_; exact q_, nS2.out.b⟩
  | true =>
  rw [if_neg (by simp)]
  generalize hLv : levV s.e s.wa s.sn s.t = lv at *
  by_cases h0 : lv = 0
  · rw [if_pos h0]
    subst h0
    clear z1 z2
    have t0 : HLa = HLa := rfl
    clear t0
    go_enter Tryz.func15, Tryz.ntmps15
    go_wp2_with fail
    go_region_held3 (fun w' => w'.cell? ⟨g, 3, none⟩ = some (.int .i64 s.t) ∧ w'.cell? ⟨g, 4, none⟩ = some (.slice A s.l.length cp) ∧ Aside0 (SedkA w0 g s A w')) (first | exact ⟨by go_simp, by go_simp, ⟨SedkA.drew hS.out⟩⟩ | exact ⟨d0, d1, nS⟩)
      (first | (go_at_call 35; (with_reducible refine (HK.out _ _ _ (SedkA.drew hS.out).c HL.out).mono ?_); rintro _ w1 ⟨v, rfl, hv', hb⟩; have nS : Aside0 (SedkA w0 g s A w1) := ⟨SedkA.below (SedkA.drew hS.out) hb⟩; have nR : Aside0 (Kd.R k74 74 w1 0 (fun k => k ≠ g) v l') := ⟨rnew hv' hS.out.i.lt⟩; have d0 := (DkI.cells nS.out.i).1; have d1 := pw_cell_below hb (show w.drew.cell? _ = _ from c1); clear hv' hb))
    have fz := DkI.free nS.out.i 4
    obtain ⟨c, hc⟩ : ∃ u, w1.cell? ⟨g, 4, none⟩ = some u := ⟨_, d1⟩
    obtain ⟨A2, c2, rfl⟩ := Kd.R_slice nR.out
    have nS2 : Aside0 (SedkB w0 g { s with l := l' } (w1.setCell ⟨g, 4, none⟩ (.slice A2 l'.length c2))) := ⟨DkI.set_l nS.out.i nR.out, below_set nS.out.b hg⟩
    go_wp2_with fail
    generalize w1.setCell ⟨g, 4, none⟩ (.slice A2 l'.length c2) = w2 at nS2 ⊢
    clear d0 nS nR fz d1
    go_region_held3 (fun w' => w'.cell? ⟨g, 3, none⟩ = some (.int .i64 s.t) ∧ w'.cell? ⟨g, 0, none⟩ = some (.int .i64 s.e) ∧ w'.cell? ⟨g, 1, none⟩ = some (.int .i64 s.wa) ∧ w'.cell? ⟨g, 2, none⟩ = some (.int .i64 s.sn) ∧ Aside0 (SedkB w0 g { s with l := l' } w')) (first | exact ⟨(DkI.cells ((SedkB.drew nS2.out)).i).1, (DkI.cells ((SedkB.drew nS2.out)).i).2.1, (DkI.cells ((SedkB.drew nS2.out)).i).2.2.1, (DkI.cells ((SedkB.drew nS2.out)).i).2.2.2, ⟨(SedkB.drew nS2.out)⟩⟩ | exact ⟨(DkI.cells (n3.out).i).1, (DkI.cells (n3.out).i).2.1, (DkI.cells (n3.out).i).2.2.1, (DkI.cells (n3.out).i).2.2.2, ⟨n3.out⟩⟩)
      (first | (go_at_call 17; (with_reducible refine (HLa.out _).mono ?_); rintro _ w3 ⟨rfl, hb⟩; have n3 : Aside0 (SedkB w0 g { s with l := l' } w3) := ⟨SedkB.below (SedkB.drew nS2.out) hb⟩; clear hb))
    go_wp2
    go_ret
    exact ⟨rfl, n3.out.i, n3.out.b⟩
  · rw [if_neg h0]
    have e0 : (lv == 0) = false := beq_eq_false_iff_ne.2 h0
    have e1 : ¬ lv = 0 := h0
    have Z1 := Aside0.mk z1
    have Z2 := Aside0.mk z2
    clear h0 z1 z2
    go_enter Tryz.func15, Tryz.ntmps15
    go_wp2_with fail
    go_region_held3 (fun w' => w'.cell? ⟨g, 3, none⟩ = some (.int .i64 s.t) ∧ w'.cell? ⟨g, 4, none⟩ = some (.slice A s.l.length cp) ∧ Aside0 (SedkA w0 g s A w')) (first | exact ⟨by go_simp, by go_simp, ⟨SedkA.drew hS.out⟩⟩ | exact ⟨d0, d1, nS⟩)
      (first | (go_at_call 35; (with_reducible refine (HK.out _ _ _ (SedkA.drew hS.out).c HL.out).mono ?_); rintro _ w1 ⟨v, rfl, hv', hb⟩; have nS : Aside0 (SedkA w0 g s A w1) := ⟨SedkA.below (SedkA.drew hS.out) hb⟩; have nR : Aside0 (Kd.R k74 74 w1 0 (fun k => k ≠ g) v l') := ⟨rnew hv' hS.out.i.lt⟩; have d0 := (DkI.cells nS.out.i).1; have d1 := pw_cell_below hb (show w.drew.cell? _ = _ from c1); clear hv' hb))
    have fz := DkI.free nS.out.i 4
    obtain ⟨A2, c2, rfl⟩ := Kd.R_slice nR.out
    have nS2 : Aside0 (SedkB w0 g { s with l := l' } (w1.setCell ⟨g, 4, none⟩ (.slice A2 l'.length c2))) := ⟨DkI.set_l nS.out.i nR.out, below_set nS.out.b hg⟩
    go_wp2_with fail
    generalize w1.setCell ⟨g, 4, none⟩ (.slice A2 l'.length c2) = w2 at nS2 ⊢
    clear d0 nS nR fz d1
    go_region_held3 (fun w' => w'.cell? ⟨g, 3, none⟩ = some (.int .i64 s.t) ∧ w'.cell? ⟨g, 0, none⟩ = some (.int .i64 s.e) ∧ w'.cell? ⟨g, 1, none⟩ = some (.int .i64 s.wa) ∧ w'.cell? ⟨g, 2, none⟩ = some (.int .i64 s.sn) ∧ Aside0 (SedkB w0 g { s with l := l' } w')) (first | exact ⟨(DkI.cells ((SedkB.drew nS2.out)).i).1, (DkI.cells ((SedkB.drew nS2.out)).i).2.1, (DkI.cells ((SedkB.drew nS2.out)).i).2.2.1, (DkI.cells ((SedkB.drew nS2.out)).i).2.2.2, ⟨(SedkB.drew nS2.out)⟩⟩ | exact ⟨(DkI.cells (n3.out).i).1, (DkI.cells (n3.out).i).2.1, (DkI.cells (n3.out).i).2.2.1, (DkI.cells (n3.out).i).2.2.2, ⟨n3.out⟩⟩)
      (first | (go_at_call 17; (with_reducible refine (HLa.out _).mono ?_); rintro _ w3 ⟨rfl, hb⟩; have n3 : Aside0 (SedkB w0 g { s with l := l' } w3) := ⟨SedkB.below (SedkB.drew nS2.out) hb⟩; clear hb))
    go_wp2_with fail
    have z1 := Z1.out
    have z2 := Z2.out
    go_region_held3 (fun w' => w'.cell? ⟨g, 3, none⟩ = some (.int .i64 s.t) ∧ w'.cell? ⟨g, 0, none⟩ = some (.int .i64 s.e) ∧ w'.cell? ⟨g, 1, none⟩ = some (.int .i64 s.wa) ∧ w'.cell? ⟨g, 2, none⟩ = some (.int .i64 s.sn) ∧ Aside0 (SedkB w0 g { s with l := l' } w')) (first | exact ⟨(DkI.cells ((SedkB.drew n3.out)).i).1, (DkI.cells ((SedkB.drew n3.out)).i).2.1, (DkI.cells ((SedkB.drew n3.out)).i).2.2.1, (DkI.cells ((SedkB.drew n3.out)).i).2.2.2, ⟨(SedkB.drew n3.out)⟩⟩ | exact ⟨(DkI.cells (n4.out).i).1, (DkI.cells (n4.out).i).2.1, (DkI.cells (n4.out).i).2.2.1, (DkI.cells (n4.out).i).2.2.2, ⟨n4.out⟩⟩ | exact ⟨(DkI.cells (n5.out).i).1, (DkI.cells (n5.out).i).2.1, (DkI.cells (n5.out).i).2.2.1, (DkI.cells (n5.out).i).2.2.2, ⟨n5.out⟩⟩ | exact ⟨(DkI.cells (n6.out).i).1, (DkI.cells (n6.out).i).2.1, (DkI.cells (n6.out).i).2.2.1, (DkI.cells (n6.out).i).2.2.2, ⟨n6.out⟩⟩)
      (first | (go_at_call 16; (with_reducible refine (HX.out _ (Tc.keep HT.out (SedkB.drew n3.out).b)).mono ?_); rintro _ w4 ⟨rfl, hb⟩; have n4 : Aside0 (SedkB w0 g { s with l := l' } w4) := ⟨SedkB.below (SedkB.drew n3.out) hb⟩; clear hb) | (go_at_call 36; (with_reducible refine (HEa.out _).mono ?_); rintro _ w5 ⟨rfl, hb⟩; have n5 : Aside0 (SedkB w0 g { s with l := l' } w5) := ⟨SedkB.below n4.out hb⟩; clear hb) | (go_at_call 16; (with_reducible refine (HY.out _ (Tc.keep HT.out n5.out.b)).mono ?_); rintro _ w6 ⟨rfl, hb⟩; have n6 : Aside0 (SedkB w0 g { s with l := l' } w6) := ⟨SedkB.below n5.out hb⟩; clear hb))
    go_wp2
    go_ret
    exact ⟨rfl, n6.out.i, n6.out.b⟩

end Go.Proofs.YtdggcfpimjdckaaGreatDoor.PFnExactRunSession
