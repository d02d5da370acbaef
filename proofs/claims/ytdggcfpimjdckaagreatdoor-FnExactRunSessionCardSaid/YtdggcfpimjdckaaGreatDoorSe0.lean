/- The session's and the desk's state in memory; wait and fix of both sides; no condition of its own. -/
import Derived.Test.YtdggcfpimjdckaaGreatDoorHo
import Derived.IntWalk
namespace Go.Proofs.YtdggcfpimjdckaaGreatDoor.PFnExactRunSession
open Go.RowKit Go.Proofs.YtdggcfpimjdckaaGreatDoorW.PrintWords Go.Proofs.YtdggcfpimjdckaaGreatDoorW.PrintLast Go.Proofs.YtdggcfpimjdckaaGreatDoorW.PrintMore
attribute [local go_sem] max2_int min2_int max_two min_two max_three min_three max_four min_four   -- for this text's walks alone
set_option linter.unusedVariables false
set_option linter.unusedSimpArgs false
/-- The session's state: its time, its buckets, the error, its growth and when it was seen. -/
structure Sta where
  t : Int
  l : List S74
  e : Int
  wa : Int
  sn : Int
/-- The session (type 36) lies in block g. -/
def SeI (W : World) (g : Nat) (s : Sta) : Prop := ∃ v, W.heap[g]? = some (.cells #[.int .i64 s.t, v, .int .i64 s.e, .int .i64 s.wa, .int .i64 s.sn] 36 (0, 0)) ∧ Kd.R k74 74 W 0 (fun k => k ≠ g) v s.l
/-- The desk (type 33) lies in block g. -/
def DkI (W : World) (g : Nat) (s : Sta) : Prop := ∃ v, W.heap[g]? = some (.cells #[.int .i64 s.e, .int .i64 s.wa, .int .i64 s.sn, .int .i64 s.t, v] 33 (0, 0)) ∧ Kd.R k74 74 W 0 (fun k => k ≠ g) v s.l
theorem SeI.below {W W' : World} {g : Nat} {s : Sta} (h : SeI W g s) (hb : Below W.heap.size W W') : SeI W' g s :=
  have ⟨v, h1, h2⟩ := h
  ⟨v, blk_below h1 hb, Kd.R_below h2 hb⟩
theorem DkI.below {W W' : World} {g : Nat} {s : Sta} (h : DkI W g s) (hb : Below W.heap.size W W') : DkI W' g s :=
  have ⟨v, h1, h2⟩ := h
  ⟨v, blk_below h1 hb, Kd.R_below h2 hb⟩
theorem rfar {W : World} {g j : Nat} {v : Value} {l : List S74} (h : Kd.R k74 74 W 0 (fun k => k ≠ g) v l) (u : Value) : Kd.R k74 74 (W.setCell ⟨g, j, none⟩ u) 0 (fun k => k ≠ g) v l :=
  Kd.R_far (p := ⟨g, j, none⟩) h (fun k hk => hk) u
theorem SeI.set_t {W : World} {g : Nat} {s : Sta} (h : SeI W g s) (x : Int) : SeI (W.setCell ⟨g, 0, none⟩ (.int .i64 x)) g { s with t := x } :=
  have ⟨v, h1, h2⟩ := h
  ⟨v, blk_put h1 0 _ rfl, rfar h2 _⟩
theorem SeI.set_s {W : World} {g : Nat} {s : Sta} (h : SeI W g s) (x y z : Int) : SeI (((W.setCell ⟨g, 2, none⟩ (.int .i64 x)).setCell ⟨g, 3, none⟩ (.int .i64 y)).setCell ⟨g, 4, none⟩ (.int .i64 z)) g { s with e := x, wa := y, sn := z } :=
  have ⟨v, h1, h2⟩ := h
  ⟨v, blk_put (blk_put (blk_put h1 2 _ rfl) 3 _ rfl) 4 _ rfl, rfar (rfar (rfar h2 _) _) _⟩
theorem DkI.set_t {W : World} {g : Nat} {s : Sta} (h : DkI W g s) (x : Int) : DkI (W.setCell ⟨g, 3, none⟩ (.int .i64 x)) g { s with t := x } :=
  have ⟨v, h1, h2⟩ := h
  ⟨v, blk_put h1 3 _ rfl, rfar h2 _⟩
theorem DkI.set_s {W : World} {g : Nat} {s : Sta} (h : DkI W g s) (x y z : Int) : DkI (((W.setCell ⟨g, 0, none⟩ (.int .i64 x)).setCell ⟨g, 1, none⟩ (.int .i64 y)).setCell ⟨g, 2, none⟩ (.int .i64 z)) g { s with e := x, wa := y, sn := z } :=
  have ⟨v, h1, h2⟩ := h
  ⟨v, blk_put (blk_put (blk_put h1 0 _ rfl) 1 _ rfl) 2 _ rfl, rfar (rfar (rfar h2 _) _) _⟩
/-- A row that a call has made (behind base, where g lies ahead of base). -/
theorem rnew {W' : World} {g : Nat} {v : Value} {l : List S74} {base : Nat} (h : Kd.R k74 74 W' base (fun _ => True) v l) (hg : g < base) : Kd.R k74 74 W' 0 (fun k => k ≠ g) v l :=
  Kd.R_lower (Kd.R_mono (Kd.R_bound h) (fun k hk e => by have := hk.2.1; omega)) (Nat.zero_le _)
theorem SeI.set_l {W : World} {g : Nat} {s : Sta} (h : SeI W g s) {v : Value} {l : List S74} (hv : Kd.R k74 74 W 0 (fun k => k ≠ g) v l) : SeI (W.setCell ⟨g, 1, none⟩ v) g { s with l := l } :=
  have ⟨_, h1, _⟩ := h
  ⟨v, blk_put h1 1 _ rfl, rfar hv _⟩
theorem DkI.set_l {W : World} {g : Nat} {s : Sta} (h : DkI W g s) {v : Value} {l : List S74} (hv : Kd.R k74 74 W 0 (fun k => k ≠ g) v l) : DkI (W.setCell ⟨g, 4, none⟩ v) g { s with l := l } :=
  have ⟨_, h1, _⟩ := h
  ⟨v, blk_put h1 4 _ rfl, rfar hv _⟩
theorem SeI.cells {W : World} {g : Nat} {s : Sta} (h : SeI W g s) : W.cell? ⟨g, 0, none⟩ = some (.int .i64 s.t) ∧ W.cell? ⟨g, 2, none⟩ = some (.int .i64 s.e) ∧ W.cell? ⟨g, 3, none⟩ = some (.int .i64 s.wa) ∧ W.cell? ⟨g, 4, none⟩ = some (.int .i64 s.sn) :=
  have ⟨_, h1, _⟩ := h
  ⟨(blk_cell h1 0).trans rfl, (blk_cell h1 2).trans rfl, (blk_cell h1 3).trans rfl, (blk_cell h1 4).trans rfl⟩
theorem SeI.free {W : World} {g : Nat} {s : Sta} (h : SeI W g s) (i : Nat) : W.frozen? ⟨g, i, none⟩ = false :=
  have ⟨_, h1, _⟩ := h
  blk_frozen h1 i
theorem DkI.cells {W : World} {g : Nat} {s : Sta} (h : DkI W g s) : W.cell? ⟨g, 3, none⟩ = some (.int .i64 s.t) ∧ W.cell? ⟨g, 0, none⟩ = some (.int .i64 s.e) ∧ W.cell? ⟨g, 1, none⟩ = some (.int .i64 s.wa) ∧ W.cell? ⟨g, 2, none⟩ = some (.int .i64 s.sn) :=
  have ⟨_, h1, _⟩ := h
  ⟨(blk_cell h1 3).trans rfl, (blk_cell h1 0).trans rfl, (blk_cell h1 1).trans rfl, (blk_cell h1 2).trans rfl⟩
theorem DkI.free {W : World} {g : Nat} {s : Sta} (h : DkI W g s) (i : Nat) : W.frozen? ⟨g, i, none⟩ = false :=
  have ⟨_, h1, _⟩ := h
  blk_frozen h1 i
abbrev bNo : ByteArray := ⟨#[110, 111]⟩
abbrev bOk : ByteArray := ⟨#[111, 107]⟩
/-- What the two sides' wait does. -/
def waitC (s : Sta) (n : Int) : ByteArray × Sta := if n < 0 ∨ 3786479999 < s.t + n then (bNo, s) else (bOk, { s with t := s.t + n })
set_option maxRecDepth 100000 in
theorem se_wait (g : Nat) (s : Sta) (n : Int) (w0 w : World) (hB : Below w0.heap.size w0 w) (hg : w0.heap.size ≤ g) (hI : SeI w g s) (ht : 0 ≤ s.t ∧ s.t ≤ 3786479999) (hn : -1 ≤ n ∧ n ≤ 9999999999) :
    Calls Tryz.prog 23 #[.pointer (some ⟨g, 0, none⟩), .int .i64 n] w fun e w' => e = .returned (.string (waitC s n).1) ∧ SeI w' g (waitC s n).2 ∧ Below w0.heap.size w0 w' := by
  obtain ⟨c0, -, -, -⟩ := hI.cells
  have f0 := hI.free 0
  have hs : IntKind.i64.wrap (s.t + n) = s.t + n := IntWalk.i64_in _ (by omega)
  have HI := Aside0.mk hI
  have HB := Aside0.mk hB
  clear hI hB
  unfold waitC
  by_cases h1 : n < 0
  · rw [if_pos (Or.inl h1)]
    have b1 := decide_eq_true h1
    clear h1 hn ht
    go_enter Tryz.func23, Tryz.ntmps23
    go_wp2
    go_ret
    exact ⟨rfl, HI.out, HB.out⟩
  have b1 := decide_eq_false h1
  by_cases h2 : 3786479999 < s.t + n
  · rw [if_pos (Or.inr h2)]
    have b2 := decide_eq_true h2
    clear h1 h2 hn ht
    go_enter Tryz.func23, Tryz.ntmps23
    go_wp2
    go_ret
    exact ⟨rfl, HI.out, HB.out⟩
  rw [if_neg (by omega)]
  have b2 := decide_eq_false h2
  clear h1 h2 hn ht
  go_enter Tryz.func23, Tryz.ntmps23
  go_wp2
  go_ret
  exact ⟨rfl, SeI.set_t HI.out _, below_set HB.out hg⟩
theorem validTime_c (a : Int) (b : Bool) (h : decide (0 ≤ a ∧ a ≤ 3786479999) = b) (w : World) : Calls Tryz.prog 33 #[.int .i64 a] w fun e w'' => e = .returned (.bool b) ∧ ∃ m, w'' = w.drewN m :=
  (spec_validTime.calls a b _ (by unfold spec_validTime.f spec_inRange.f; subst h; split <;> rename_i h <;> simp <;> omega)).mono fun _ _ ⟨e, ⟨m, e2⟩⟩ => ⟨e, m, e2⟩
set_option maxRecDepth 100000 in
theorem dk_wait (g : Nat) (s : Sta) (n : Int) (w0 w : World) (hB : Below w0.heap.size w0 w) (hg : w0.heap.size ≤ g) (hI : DkI w g s) (ht : 0 ≤ s.t ∧ s.t ≤ 3786479999) (hn : -1 ≤ n ∧ n ≤ 9999999999) :
    Calls Tryz.prog 13 #[.pointer (some ⟨g, 0, none⟩), .int .i64 n] w fun e w' => e = .returned (.string (waitC s n).1) ∧ DkI w' g (waitC s n).2 ∧ Below w0.heap.size w0 w' := by
  obtain ⟨c0, -, -, -⟩ := hI.cells
  have f0 := hI.free 3
  have hs : IntKind.i64.wrap (s.t + n) = s.t + n := IntWalk.i64_in _ (by omega)
  have HI := Aside0.mk hI
  have HB := Aside0.mk hB
  clear hI hB
  unfold waitC
  by_cases h1 : n < 0
  · rw [if_pos (Or.inl h1)]
    have b1 := decide_eq_true h1
    clear h1 hn ht
    go_enter Tryz.func13, Tryz.ntmps13
    go_wp2
    go_ret
    exact ⟨rfl, HI.out, HB.out⟩
  have b1 := decide_eq_false h1
  by_cases h2 : 3786479999 < s.t + n
  · rw [if_pos (Or.inr h2)]
    have hv := Aside0.mk (validTime_c (s.t + n) false (decide_eq_false (by omega)))
    clear h1 h2 hn ht
    go_enter Tryz.func13, Tryz.ntmps13
    go_wp2_with (go_at_call 33; (with_reducible refine (hv.out _).mono ?_); rintro _ _ ⟨rfl, nd, rfl⟩)
    go_ret
    exact ⟨rfl, HI.out, pw_below_drewN HB.out _⟩
  rw [if_neg (by omega)]
  have hv := Aside0.mk (validTime_c (s.t + n) true (decide_eq_true (by omega)))
  clear h1 h2 hn ht
  go_enter Tryz.func13, Tryz.ntmps13
  go_wp2_with (go_at_call 33; (with_reducible refine (hv.out _).mono ?_); rintro _ _ ⟨rfl, nd, rfl⟩)
  go_ret
  exact ⟨rfl, DkI.set_t (W := World.drewN _ _) HI.out _, below_set (pw_below_drewN HB.out _) hg⟩
/-- A call that hands back v and turns nothing that was there. -/
abbrev Ret (f : FuncId) (args : Array Value) (v : Value) : Prop := ∀ w, Tc w → Calls Tryz.prog f args w fun e w' => e = .returned v ∧ Below w.heap.size w w'
/-- What the two sides' fix does: p is what ParseFix gives, c its civil time. -/
def fixC (s : Sta) (p : Int × Int × Int × Int × Int × Bool) (c : Int) : ByteArray × Sta :=
  if p.2.2.2.2.2 = false ∨ c < s.t ∨ p.2.2.2.2.1 < 4 then (bNo, s) else (bOk, { s with t := c, e := seenV (errV s.e s.wa s.sn c), sn := c })
abbrev fixV (p : Int × Int × Int × Int × Int × Bool) : Value := .agg #[.int .i64 p.1, .int .i64 p.2.1, .int .i64 p.2.2.1, .int .i64 p.2.2.2.1, .int .i64 p.2.2.2.2.1]
theorem cell54 {w W : World} {a b c d e : Value} {t : TypeId} (hb : Below (w.alloc (.cells #[a, b, c, d, e] t)).heap.size (w.alloc (.cells #[a, b, c, d, e] t)) W) : W.cell? ⟨w.heap.size, 4, none⟩ = some e :=
  (blk_cell (blk_below (heap_alloc_new w (.cells #[a, b, c, d, e] t)) hb) 4).trans rfl
set_option maxRecDepth 100000 in
set_option maxHeartbeats 4000000 in
theorem se_fix (g : Nat) (s : Sta) (a : ByteArray) (y m d sc n : Int) (ok : Bool) (c : Int) (w0 w : World) (hT : Tc w0) (hB : Below w0.heap.size w0 w) (hg : w0.heap.size ≤ g) (hI : SeI w g s)
    (hp : Ret 40 #[.string a] (.tuple #[fixV (y, m, d, sc, n, ok), .bool ok])) (hc : Ret 41 #[fixV (y, m, d, sc, n, ok)] (.int .i64 c)) (hv : ok = true → ¬ c < s.t → VS s.e s.wa s.sn c) :
    Calls Tryz.prog 21 #[.pointer (some ⟨g, 0, none⟩), .string a] w fun e w' => e = .returned (.string (fixC s (y, m, d, sc, n, ok) c).1) ∧ SeI w' g (fixC s (y, m, d, sc, n, ok) c).2 ∧ Below w0.heap.size w0 w' := by
  have HI := Aside0.mk hI
  have HB := Aside0.mk hB
  have HT := Aside0.mk hT
  have HP := Aside0.mk hp
  have HC := Aside0.mk hc
  clear hI hB hT hp hc
  have hu := Tryz.underlying44
  unfold fixC
  dsimp only
  cases ok with
  | false =>
    rw [if_pos (Or.inl rfl)]
    clear hv
    go_enter Tryz.func21, Tryz.ntmps21
    go_wp2_with (first | (go_at_call 40; (with_reducible refine (HP.out _ (Tc.keep HT.out HB.out)).mono ?_); rintro _ w1 ⟨rfl, hb⟩; have nB := Aside0.mk (below_step HB.out hb); have nI := Aside0.mk (SeI.below HI.out hb); clear HB HI hb; have HB := nB; have HI := nI; clear nB nI) | (go_at_call 41; (with_reducible refine (HC.out _ (Tc.keep HT.out (below_alloc HB.out _))).mono ?_); rintro _ w2 ⟨rfl, hb⟩; have q4 := cell54 hb; have nB := Aside0.mk (below_step (below_alloc HB.out _) hb); have nI := Aside0.mk (SeI.below (SeI.below HI.out (below_alloc (Below.refl _ _) _)) hb); clear HB HI hb; have HB := nB; have HI := nI; clear nB nI; obtain ⟨k0, k2, k3, k4⟩ := SeI.cells HI.out))
    go_ret
    exact ⟨rfl, HI.out, HB.out⟩
  | true =>
  by_cases h2 : c < s.t
  · rw [if_pos (Or.inr (Or.inl h2))]
    have b2 := decide_eq_true h2
    clear h2 hv
    by_cases h3 : n < 4
    all_goals
      try have b3 := decide_eq_true h3
      try have b3 := decide_eq_false h3
      clear h3
      go_enter Tryz.func21, Tryz.ntmps21
      go_wp2_with (first | (go_at_call 40; (with_reducible refine (HP.out _ (Tc.keep HT.out HB.out)).mono ?_); rintro _ w1 ⟨rfl, hb⟩; have nB := Aside0.mk (below_step HB.out hb); have nI := Aside0.mk (SeI.below HI.out hb); clear HB HI hb; have HB := nB; have HI := nI; clear nB nI) | (go_at_call 41; (with_reducible refine (HC.out _ (Tc.keep HT.out (below_alloc HB.out _))).mono ?_); rintro _ w2 ⟨rfl, hb⟩; have q4 := cell54 hb; have nB := Aside0.mk (below_step (below_alloc HB.out _) hb); have nI := Aside0.mk (SeI.below (SeI.below HI.out (below_alloc (Below.refl _ _) _)) hb); clear HB HI hb; have HB := nB; have HI := nI; clear nB nI; obtain ⟨k0, k2, k3, k4⟩ := SeI.cells HI.out))
      go_ret
      exact ⟨rfl, HI.out, HB.out⟩
  have HV := Aside0.mk (hv rfl h2)
  have b2 := decide_eq_false h2
  clear hv
  by_cases h3 : n < 4
  · rw [if_pos (Or.inr (Or.inr h3))]
    have b3 := decide_eq_true h3
    clear h2 h3
    go_enter Tryz.func21, Tryz.ntmps21
    go_wp2_with (first | (go_at_call 40; (with_reducible refine (HP.out _ (Tc.keep HT.out HB.out)).mono ?_); rintro _ w1 ⟨rfl, hb⟩; have nB := Aside0.mk (below_step HB.out hb); have nI := Aside0.mk (SeI.below HI.out hb); clear HB HI hb; have HB := nB; have HI := nI; clear nB nI) | (go_at_call 41; (with_reducible refine (HC.out _ (Tc.keep HT.out (below_alloc HB.out _))).mono ?_); rintro _ w2 ⟨rfl, hb⟩; have q4 := cell54 hb; have nB := Aside0.mk (below_step (below_alloc HB.out _) hb); have nI := Aside0.mk (SeI.below (SeI.below HI.out (below_alloc (Below.refl _ _) _)) hb); clear HB HI hb; have HB := nB; have HI := nI; clear nB nI; obtain ⟨k0, k2, k3, k4⟩ := SeI.cells HI.out))
    go_ret
    exact ⟨rfl, HI.out, HB.out⟩
  · rw [if_neg (by rintro (h | h | h) <;> first | cases h | omega)]
    have b3 := decide_eq_false h3
    clear h2 h3
    have hu3 := Tryz.underlying30
    go_enter Tryz.func21, Tryz.ntmps21
    go_upto_region 8 with (first | (go_at_call 40; (with_reducible refine (HP.out _ (Tc.keep HT.out HB.out)).mono ?_); rintro _ w1 ⟨rfl, hb⟩; have nB := Aside0.mk (below_step HB.out hb); have nI := Aside0.mk (SeI.below HI.out hb); clear HB HI hb; have HB := nB; have HI := nI; clear nB nI) | (go_at_call 41; (with_reducible refine (HC.out _ (Tc.keep HT.out (below_alloc HB.out _))).mono ?_); rintro _ w2 ⟨rfl, hb⟩; have q4 := cell54 hb; have nB := Aside0.mk (below_step (below_alloc HB.out _) hb); have nI := Aside0.mk (SeI.below (SeI.below HI.out (below_alloc (Below.refl _ _) _)) hb); clear HB HI hb; have HB := nB; have HI := nI; clear nB nI; obtain ⟨k0, k2, k3, k4⟩ := SeI.cells HI.out) | (go_at_call 42; (with_reducible refine (impl_SA s.e s.wa s.sn c HV.out _).mono ?_); rintro _ w3 ⟨rfl, hb⟩; have nB := Aside0.mk (below_step HB.out hb); have nI := Aside0.mk (SeI.below HI.out hb); clear HB HI hb k0 k2 k3 k4; have HB := nB; have HI := nI; clear nB nI; obtain ⟨k0, k2, k3, k4⟩ := SeI.cells HI.out; have j0 := SeI.free HI.out 0; have j2 := SeI.free HI.out 2; have j3 := SeI.free HI.out 3; have j4 := SeI.free HI.out 4))
    have hgl : g < w3.heap.size := by obtain ⟨_, h1, _⟩ := HI.out; exact blk_lt h1
    have nI := Aside0.mk (SeI.below HI.out (below_alloc (Below.refl _ _) (.cells #[.int .i64 (seenV (errV s.e s.wa s.sn c)), .int .i64 s.wa, .int .i64 c] 30)))
    have nB := Aside0.mk (below_alloc HB.out (.cells #[.int .i64 (seenV (errV s.e s.wa s.sn c)), .int .i64 s.wa, .int .i64 c] 30))
    have nb := heap_alloc_new w3 (.cells #[.int .i64 (seenV (errV s.e s.wa s.sn c)), .int .i64 s.wa, .int .i64 c] 30)
    clear HI HB k0 k2 k3 k4 j0 j2 j3 j4 q4
    have hne : w3.heap.size ≠ g := by omega
    clear hgl
    generalize w3.alloc (.cells #[.int .i64 (seenV (errV s.e s.wa s.sn c)), .int .i64 s.wa, .int .i64 c] 30) = w4 at *
    generalize w3.heap.size = gb at *
    obtain ⟨k0, k2, k3, k4⟩ := SeI.cells nI.out
    have j0 := SeI.free nI.out 0
    have j2 := SeI.free nI.out 2
    have j3 := SeI.free nI.out 3
    have j4 := SeI.free nI.out 4
    have l0 := (blk_cell nb 0).trans rfl
    have l1 := (blk_cell nb 1).trans rfl
    have l2 := (blk_cell nb 2).trans rfl
    clear nb
    go_region
    go_wp2
    go_ret
    exact ⟨rfl, SeI.set_s (SeI.set_t nI.out c) _ _ _, by repeat (first | (with_reducible first | exact nB.out | apply below_drew1 | refine below_set ?_ hg) | exact nB.out)⟩
set_option maxRecDepth 100000 in
set_option maxHeartbeats 4000000 in
theorem dk_fix (g : Nat) (s : Sta) (a : ByteArray) (y m d sc n : Int) (ok : Bool) (c : Int) (w0 w : World) (hT : Tc w0) (hB : Below w0.heap.size w0 w) (hg : w0.heap.size ≤ g) (hI : DkI w g s)
    (hp : Ret 30 #[.string a] (.tuple #[fixV (y, m, d, sc, n, ok), .bool ok])) (hc : Ret 31 #[fixV (y, m, d, sc, n, ok)] (.int .i64 c)) (hv : ok = true → ¬ c < s.t → VS s.e s.wa s.sn c) :
    Calls Tryz.prog 12 #[.pointer (some ⟨g, 0, none⟩), .string a] w fun e w' => e = .returned (.string (fixC s (y, m, d, sc, n, ok) c).1) ∧ DkI w' g (fixC s (y, m, d, sc, n, ok) c).2 ∧ Below w0.heap.size w0 w' := by
  have HI := Aside0.mk hI
  have HB := Aside0.mk hB
  have HT := Aside0.mk hT
  have HP := Aside0.mk hp
  have HC := Aside0.mk hc
  clear hI hB hT hp hc
  have hu := Tryz.underlying44
  unfold fixC
  dsimp only
  cases ok with
  | false =>
    rw [if_pos (Or.inl rfl)]
    clear hv
    go_enter Tryz.func12, Tryz.ntmps12
    go_wp2_with (first | (go_at_call 30; (with_reducible refine (HP.out _ (Tc.keep HT.out HB.out)).mono ?_); rintro _ w1 ⟨rfl, hb⟩; have nB := Aside0.mk (below_step HB.out hb); have nI := Aside0.mk (DkI.below HI.out hb); clear HB HI hb; have HB := nB; have HI := nI; clear nB nI) | (go_at_call 31; (with_reducible refine (HC.out _ (Tc.keep HT.out (below_alloc HB.out _))).mono ?_); rintro _ w2 ⟨rfl, hb⟩; have q4 := cell54 hb; have nB := Aside0.mk (below_step (below_alloc HB.out _) hb); have nI := Aside0.mk (DkI.below (DkI.below HI.out (below_alloc (Below.refl _ _) _)) hb); clear HB HI hb; have HB := nB; have HI := nI; clear nB nI; obtain ⟨k0, k2, k3, k4⟩ := DkI.cells HI.out; have jj := DkI.free HI.out 3))
    go_ret
    exact ⟨rfl, HI.out, HB.out⟩
  | true =>
  by_cases h2 : c < s.t
  · rw [if_pos (Or.inr (Or.inl h2))]
    have b2 := decide_eq_true h2
    clear h2 hv
    by_cases h3 : n < 4
    all_goals
      try have b3 := decide_eq_true h3
      try have b3 := decide_eq_false h3
      clear h3
      go_enter Tryz.func12, Tryz.ntmps12
      go_wp2_with (first | (go_at_call 30; (with_reducible refine (HP.out _ (Tc.keep HT.out HB.out)).mono ?_); rintro _ w1 ⟨rfl, hb⟩; have nB := Aside0.mk (below_step HB.out hb); have nI := Aside0.mk (DkI.below HI.out hb); clear HB HI hb; have HB := nB; have HI := nI; clear nB nI) | (go_at_call 31; (with_reducible refine (HC.out _ (Tc.keep HT.out (below_alloc HB.out _))).mono ?_); rintro _ w2 ⟨rfl, hb⟩; have q4 := cell54 hb; have nB := Aside0.mk (below_step (below_alloc HB.out _) hb); have nI := Aside0.mk (DkI.below (DkI.below HI.out (below_alloc (Below.refl _ _) _)) hb); clear HB HI hb; have HB := nB; have HI := nI; clear nB nI; obtain ⟨k0, k2, k3, k4⟩ := DkI.cells HI.out; have jj := DkI.free HI.out 3))
      go_ret
      exact ⟨rfl, HI.out, HB.out⟩
  have HV := Aside0.mk (hv rfl h2)
  have b2 := decide_eq_false h2
  clear hv
  by_cases h3 : n < 4
  · rw [if_pos (Or.inr (Or.inr h3))]
    have b3 := decide_eq_true h3
    clear h2 h3
    go_enter Tryz.func12, Tryz.ntmps12
    go_wp2_with (first | (go_at_call 30; (with_reducible refine (HP.out _ (Tc.keep HT.out HB.out)).mono ?_); rintro _ w1 ⟨rfl, hb⟩; have nB := Aside0.mk (below_step HB.out hb); have nI := Aside0.mk (DkI.below HI.out hb); clear HB HI hb; have HB := nB; have HI := nI; clear nB nI) | (go_at_call 31; (with_reducible refine (HC.out _ (Tc.keep HT.out (below_alloc HB.out _))).mono ?_); rintro _ w2 ⟨rfl, hb⟩; have q4 := cell54 hb; have nB := Aside0.mk (below_step (below_alloc HB.out _) hb); have nI := Aside0.mk (DkI.below (DkI.below HI.out (below_alloc (Below.refl _ _) _)) hb); clear HB HI hb; have HB := nB; have HI := nI; clear nB nI; obtain ⟨k0, k2, k3, k4⟩ := DkI.cells HI.out; have jj := DkI.free HI.out 3))
    go_ret
    exact ⟨rfl, HI.out, HB.out⟩
  · rw [if_neg (by rintro (h | h | h) <;> first | cases h | omega)]
    have b3 := decide_eq_false h3
    clear h2 h3
    have hu3 := Tryz.underlying30
    go_enter Tryz.func12, Tryz.ntmps12
    go_wp2_with (first | (go_at_call 30; (with_reducible refine (HP.out _ (Tc.keep HT.out HB.out)).mono ?_); rintro _ w1 ⟨rfl, hb⟩; have nB := Aside0.mk (below_step HB.out hb); have nI := Aside0.mk (DkI.below HI.out hb); clear HB HI hb; have HB := nB; have HI := nI; clear nB nI) | (go_at_call 31; (with_reducible refine (HC.out _ (Tc.keep HT.out (below_alloc HB.out _))).mono ?_); rintro _ w2 ⟨rfl, hb⟩; have q4 := cell54 hb; have nB := Aside0.mk (below_step (below_alloc HB.out _) hb); have nI := Aside0.mk (DkI.below (DkI.below HI.out (below_alloc (Below.refl _ _) _)) hb); clear HB HI hb; have HB := nB; have HI := nI; clear nB nI; obtain ⟨k0, k2, k3, k4⟩ := DkI.cells HI.out; have jj := DkI.free HI.out 3) | (go_at_call 32; (with_reducible refine (spec_SA s.e s.wa s.sn c HV.out _).mono ?_); rintro _ w3 ⟨rfl, hb⟩; have nB := Aside0.mk (below_step (below_set HB.out hg) hb); have nI := Aside0.mk (DkI.below (DkI.set_t HI.out c) hb); clear HB HI hb k0 k2 k3 k4; have HB := nB; have HI := nI; clear nB nI; obtain ⟨k0, k2, k3, k4⟩ := DkI.cells HI.out; have j0 := DkI.free HI.out 0; have j2 := DkI.free HI.out 1; have j3 := DkI.free HI.out 2; have j4 := DkI.free HI.out 3))
    go_ret
    exact ⟨rfl, DkI.set_s HI.out _ _ _, by repeat (first | (with_reducible first | exact HB.out | refine below_set ?_ hg) | exact HB.out)⟩
end Go.Proofs.YtdggcfpimjdckaaGreatDoor.PFnExactRunSession
