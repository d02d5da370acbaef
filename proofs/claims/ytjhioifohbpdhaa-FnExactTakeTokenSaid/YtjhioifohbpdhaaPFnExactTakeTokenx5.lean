-- Out of a print of the walks, turned by a program of this session; Lean checks it.
import Derived.Laws.CopyRow
import Derived.Laws.CopyOwn
import Derived.Lib.SliceRun
import Derived.Lib.Overlaps
import Derived.Shelf.Spec.SlicesInsert
import Derived.Test.YtjhioifohbpdhaaPFnExactTakeTokenx0
import Derived.Test.YtjhioifohbpdhaaPFnExactTakeTokenx2
import Derived.Test.YtjhioifohbpdhaaPFnExactTakeTokenx3
import Derived.Test.YtjhioifohbpdhaaPFnExactTakeTokenx4
namespace Go.Proofs.Ytjhioifohbpdhaa.PFnExactTakeToken
open Go.RowKit Go.Proofs.YtjhioifohbpdhaaW.PrintWords Go.Proofs.YtjhioifohbpdhaaW.PrintLast Go.Proofs.YtjhioifohbpdhaaW.PrintMore
attribute [local go_sem] max2_int min2_int max_two min_two max_three min_three max_four min_four   -- for this text's walks alone
set_option linter.unusedVariables false
set_option linter.unusedSimpArgs false

/-! ### impl_Bucket_51: function 51 -/
/-- The cells of buckets. -/
def enc37 (xs : List S37) : List Value := xs.flatMap (fun x => [.int .i64 x.f0, .int .i64 x.f1, .int .i64 x.f2])
theorem enc37_len (xs : List S37) : (enc37 xs).length = xs.length * 3 := by
  induction xs with
  | nil => rfl
  | cons x xs ih => unfold enc37 at *; simp [ih]; omega
theorem enc37_append (xs ys : List S37) : enc37 (xs ++ ys) = enc37 xs ++ enc37 ys := List.flatMap_append ..
theorem enc37_take (xs : List S37) (i : Nat) : (enc37 xs).take (i * 3) = enc37 (xs.take i) := by
  induction i generalizing xs with
  | zero => simp [enc37]
  | succ i ih =>
    cases xs with
    | nil => simp [enc37]
    | cons x xs =>
      have := ih xs
      unfold enc37 at *
      rw [show (i + 1) * 3 = i * 3 + 1 + 1 + 1 by omega]
      simp [this]
theorem enc37_drop (xs : List S37) (i : Nat) : (enc37 xs).drop (i * 3) = enc37 (xs.drop i) := by
  induction i generalizing xs with
  | zero => simp [enc37]
  | succ i ih =>
    cases xs with
    | nil => simp [enc37]
    | cons x xs =>
      have := ih xs
      unfold enc37 at *
      rw [show (i + 1) * 3 = i * 3 + 1 + 1 + 1 by omega]
      simp [this]
theorem enc37_one (xs : List S37) : ∀ v ∈ enc37 xs, v.oneCell' = true := by
  intro v hv
  unfold enc37 at hv
  rw [List.mem_flatMap] at hv
  obtain ⟨x, _, hx⟩ := hv
  simp at hx
  rcases hx with rfl | rfl | rfl <;> rfl
theorem reps_enc {w : World} {base : Nat} {ok : Nat → Prop} (xs : List S37) : ∀ inner, Reps (k37.M w base ok) k37.sz xs inner → inner = enc37 xs := by
  induction xs with
  | nil => intro inner h; exact List.eq_nil_of_length_eq_zero (by have := h.1; simpa using this)
  | cons x xs ih =>
    intro inner h
    have h0 := k37_openM (h.2 0 x rfl)
    have h1 : inner.length = (xs.length + 1) * 3 := h.1
    have h2 : Reps (k37.M w base ok) k37.sz xs (inner.drop 3) := ⟨by rw [List.length_drop, h1]; show (xs.length + 1) * 3 - 3 = xs.length * 3; omega, fun i y hy => by
      have := h.2 (i + 1) y (by simpa using hy)
      rw [List.drop_drop]
      have e : 3 + i * k37.sz = (i + 1) * k37.sz := by show 3 + i * 3 = (i + 1) * 3; omega
      rw [e]
      exact this⟩
    have h3 := ih _ h2
    rw [Nat.zero_mul, List.drop_zero] at h0
    have h0' : inner.take 3 = [.int .i64 x.f0, .int .i64 x.f1, .int .i64 x.f2] := h0
    rw [← List.take_append_drop 3 inner, h0', h3]
    rfl
theorem enc_reps {w : World} {base : Nat} {ok : Nat → Prop} (xs : List S37) : Reps (k37.M w base ok) k37.sz xs (enc37 xs) := by
  refine ⟨enc37_len xs, fun i x hx => ?_⟩
  have e : ((enc37 xs).drop (i * k37.sz)).take k37.sz = [.int .i64 x.f0, .int .i64 x.f1, .int .i64 x.f2] := by
    show ((enc37 xs).drop (i * 3)).take 3 = _
    rw [enc37_drop]
    obtain ⟨hi, rfl⟩ := List.getElem?_eq_some_iff.1 hx
    rw [List.drop_eq_getElem_cons hi]
    rfl
  rw [e]
  exact k37_mkM _ _ _ x
theorem R_open37 {w : World} {base n cap : Nat} {ok : Nat → Prop} {A : Option Addr} {xs : List S37} (h : Kd.R k37 37 w base ok (.slice A n cap) xs) (hn : 0 < n) :
    ∃ g cur, A = some ⟨g, 0, none⟩ ∧ base ≤ g ∧ ok g ∧ w.heap[g]? = some (.cells cur 37 (0, 0)) ∧ xs.length = n ∧ n ≤ cap ∧ cap ≤ maxLen ∧ cur.size = cap * 3 ∧ cur.toList.take (n * 3) = enc37 xs := by
  obtain ⟨hx, _, _⟩ := Kd.R_reads' h
  obtain ⟨hok, inner, ⟨hl, ho⟩, hr⟩ := h
  rcases ho with ⟨e, _⟩ | ⟨g, cap', cur, e, hb, hh, hnc, hcm, hcs, ht⟩
  · cases e; omega
  · cases e
    refine ⟨g, cur, rfl, hb, hok g rfl, hh, rfl, hnc, hcm, hcs, ?_⟩
    rw [← reps_enc xs inner hr]
    exact ht
theorem R_make37 {w : World} {base n cap g : Nat} {ok : Nat → Prop} {cur : Array Value} {xs : List S37} (hb : base ≤ g) (hok : ok g) (hh : w.heap[g]? = some (.cells cur 37 (0, 0))) (hx : xs.length = n) (hnc : n ≤ cap) (hcm : cap ≤ maxLen) (hcs : cur.size = cap * 3) (ht : cur.toList.take (n * 3) = enc37 xs) :
    Kd.R k37 37 w base ok (.slice (some ⟨g, 0, none⟩) n cap) xs := by
  subst hx
  refine ⟨fun k hk => ?_, enc37 xs, ⟨enc37_len xs, .inr ⟨g, cap, cur, rfl, hb, hh, hnc, hcm, hcs, ht⟩⟩, enc_reps xs⟩
  have : g = k := by simpa [Value.ownBlock] using hk
  rw [← this]; exact hok
/-- copy on a row of buckets. -/
theorem run_copy37 (w : World) (ty : TypeId) (g o dLen dCap : Nat) (a : Addr) (sLen sCap : Nat) (cur : Array Value) (xs : List S37)
    (hg : w.heap[g]? = some (.cells cur 37 (0, 0))) (hn : xs.length = Nat.min sLen dLen)
    (hsrc : ∀ j v, (enc37 xs)[j]? = some v → w.cell? (a.add j) = some v) (hfit : o + xs.length * 3 ≤ cur.size) :
    (Builtin.copy_ #[25, 25] ty #[.slice (some ⟨g, o, none⟩) dLen dCap, .slice (some a) sLen sCap]).run Try.prog w =
      .ok (goInt xs.length) (w.setRow g (cur.toList.take o ++ enc37 xs ++ cur.toList.drop (o + xs.length * 3)).toArray) := by
  have hl := run_loadCells_list (P := Try.prog) w a (enc37 xs) hsrc
  have hst := run_storeCells_at Try.prog g o 37 (enc37 xs) 0 cur w hg (by rw [enc37_len]; simpa using hfit) (enc37_one xs)
  obtain ⟨i0, hi0, _, hi, _⟩ := info_parts info37
  rw [enc37_len] at hl hst
  simp [Builtin.copy_, run_underlying Try.underlying25, Builtin.lenOf, Builtin.firstCells, sizeOf, typeInfo, hi0, hi, ← hn, hl, hst]
theorem take_cat {α : Type} {a b : List α} {n : Nat} (h : a.length = n) : (a ++ b).take n = a := by rw [← h]; simp
theorem drop_cat {α : Type} {a b : List α} {n : Nat} (h : a.length = n) : (a ++ b).drop n = b := by rw [← h]; simp
/-- What an insertion in place leaves: what stood from i on is moved up, then the new one is laid. -/
theorem shift_list (c : List Value) (l : List S37) (x : S37) (i : Nat) (hi : i < l.length) (hc : (l.length + 1) * 3 ≤ c.length) (ht : c.take (l.length * 3) = enc37 l) :
    let A1 := c.take ((i + 1) * 3) ++ enc37 (l.drop i) ++ c.drop ((i + 1) * 3 + (l.length - i) * 3)
    let A2 := A1.take (i * 3) ++ enc37 [x] ++ A1.drop (i * 3 + 3)
    A1.length = c.length ∧ A2.length = c.length ∧ A2.take ((l.length + 1) * 3) = enc37 (l.take i ++ [x] ++ l.drop i) := by
  intro A1 A2
  have hd : (enc37 (l.drop i)).length = (l.length - i) * 3 := by rw [enc37_len, List.length_drop]
  have h1 : A1.length = c.length := by
    show (c.take ((i + 1) * 3) ++ enc37 (l.drop i) ++ c.drop ((i + 1) * 3 + (l.length - i) * 3)).length = _
    rw [List.length_append, List.length_append, List.length_take, hd, List.length_drop]; omega
  have ht1 : A1.take (i * 3) = enc37 (l.take i) := by
    show (c.take ((i + 1) * 3) ++ enc37 (l.drop i) ++ c.drop ((i + 1) * 3 + (l.length - i) * 3)).take (i * 3) = _
    rw [List.append_assoc, List.take_append_of_le_length (by rw [List.length_take]; omega), List.take_take, Nat.min_eq_left (by omega), ← enc37_take, ← ht, List.take_take, Nat.min_eq_left (by omega)]
  have hd1 : A1.drop (i * 3 + 3) = enc37 (l.drop i) ++ c.drop ((i + 1) * 3 + (l.length - i) * 3) := by
    show (c.take ((i + 1) * 3) ++ enc37 (l.drop i) ++ c.drop ((i + 1) * 3 + (l.length - i) * 3)).drop (i * 3 + 3) = _
    rw [List.append_assoc]
    exact drop_cat (by rw [List.length_take]; omega)
  have hx : (enc37 [x]).length = 3 := rfl
  have hti : (enc37 (l.take i)).length = i * 3 := by rw [enc37_len, List.length_take, Nat.min_eq_left (by omega)]
  have e2 : A2 = enc37 (l.take i ++ [x] ++ l.drop i) ++ c.drop ((i + 1) * 3 + (l.length - i) * 3) := by
    show A1.take (i * 3) ++ enc37 [x] ++ A1.drop (i * 3 + 3) = _
    rw [ht1, hd1, enc37_append, enc37_append, List.append_assoc, List.append_assoc, List.append_assoc]
  have he : (enc37 (l.take i ++ [x] ++ l.drop i)).length = (l.length + 1) * 3 := by
    rw [enc37_len, List.length_append, List.length_append, List.length_take, List.length_drop, List.length_singleton]; omega
  refine ⟨h1, ?_, ?_⟩
  · rw [e2, List.length_append, he, List.length_drop]; omega
  · rw [e2]; exact take_cat he
/-- What an insertion into a new row leaves: the new one is laid, then what stood from i on. -/
theorem fresh_list (c : List Value) (l : List S37) (x : S37) (i : Nat) (hi : i < l.length) (hc : (l.length + 1) * 3 ≤ c.length) (ht : c.take (i * 3) = enc37 (l.take i)) :
    let A1 := c.take (i * 3) ++ enc37 [x] ++ c.drop (i * 3 + 3)
    let A2 := A1.take ((i + 1) * 3) ++ enc37 (l.drop i) ++ A1.drop ((i + 1) * 3 + (l.length - i) * 3)
    A1.length = c.length ∧ A2.length = c.length ∧ A2.take ((l.length + 1) * 3) = enc37 (l.take i ++ [x] ++ l.drop i) := by
  intro A1 A2
  have hx : (enc37 [x]).length = 3 := rfl
  have hd : (enc37 (l.drop i)).length = (l.length - i) * 3 := by rw [enc37_len, List.length_drop]
  have hti : (enc37 (l.take i)).length = i * 3 := by rw [enc37_len, List.length_take, Nat.min_eq_left (by omega)]
  have h1 : A1.length = c.length := by
    show (c.take (i * 3) ++ enc37 [x] ++ c.drop (i * 3 + 3)).length = _
    rw [List.length_append, List.length_append, List.length_take, hx, List.length_drop]; omega
  have ht1 : A1.take ((i + 1) * 3) = enc37 (l.take i ++ [x]) := by
    show (c.take (i * 3) ++ enc37 [x] ++ c.drop (i * 3 + 3)).take ((i + 1) * 3) = _
    rw [ht, ← enc37_append]
    exact take_cat (by rw [enc37_append, List.length_append, hti, hx]; omega)
  have he : (enc37 (l.take i ++ [x] ++ l.drop i)).length = (l.length + 1) * 3 := by
    rw [enc37_len, List.length_append, List.length_append, List.length_take, List.length_drop, List.length_singleton]; omega
  have e2 : A2 = enc37 (l.take i ++ [x] ++ l.drop i) ++ A1.drop ((i + 1) * 3 + (l.length - i) * 3) := by
    show A1.take ((i + 1) * 3) ++ enc37 (l.drop i) ++ A1.drop ((i + 1) * 3 + (l.length - i) * 3) = _
    rw [ht1, ← enc37_append]
  refine ⟨h1, ?_, ?_⟩
  · rw [e2, List.length_append, he, List.length_drop, h1]; omega
  · rw [e2]; exact take_cat he
def impl_Bucket_51.f (l0 : List S37) (a1 : Int) (l2 : List S37) : Option (List S37) := if 0 ≤ a1 ∧ a1 ≤ (l0.length : Int) ∧ l2.length = 1 ∧ l0.length < 1000000 then some (l0.take a1.toNat ++ l2 ++ l0.drop a1.toNat) else none
set_option maxHeartbeats 8000000 in
set_option maxRecDepth 100000 in
theorem insert_room (P0_ : Nat → Prop) (g cap : Nat) (cur : Array Value) (l0 : List S37) (i : Nat) (x : S37) (g2 c2 : Nat) (cur2 : Array Value) (w0 w : World) (hB : Below w0.heap.size w0 w) (hb : w0.heap.size ≤ g) (hP : P0_ g) (hh : w.heap[g]? = some (.cells cur 37 (0, 0))) (hi : i < l0.length) (hcap : l0.length + 1 ≤ cap) (hcm : cap ≤ maxLen) (hcs : cur.size = cap * 3) (ht : cur.toList.take (l0.length * 3) = enc37 l0) (hl : l0.length < 1000000)
    (hne : g2 ≠ g) (hh2 : w.heap[g2]? = some (.cells cur2 37 (0, 0))) (hc2 : 1 ≤ c2) (hcs2 : cur2.size = c2 * 3) (ht2 : cur2.toList.take (1 * 3) = enc37 [x]) :
    Calls Try.prog 51 #[.slice (some ⟨g, 0, none⟩) l0.length cap, .int .i64 i, .slice (some ⟨g2, 0, none⟩) 1 c2] w fun e w' => ∃ v0_ : Value, e = .returned v0_ ∧ Kd.R k37 37 w' w0.heap.size P0_ v0_ (l0.take i ++ [x] ++ l0.drop i) ∧ Below w0.heap.size w0 w' ∧ Kept w w' P0_ := by
  have t25 := Try.underlying25
  have hov : ∀ lb cb, (callFunc 60 #[.slice (some ⟨g2, 0, none⟩) 1 c2, .slice (some ⟨g, (i + 1) * 3, none⟩) lb cb]).run Try.prog w = .ok (.value (.bool false)) w := fun lb cb => by
    rw [run_callFunc_extern Try.func60 (by kernel_rfl) (by kernel_rfl) (by kernel_rfl) (e := Extern.SlicesOverlaps.overlaps #[25, 25] #[4]) (by kernel_rfl),
      Lib.run_overlaps_apart w 25 4 37 t25 3 Try.sizeOf37 ⟨g2, 0, none⟩ ⟨g, (i + 1) * 3, none⟩ 1 c2 lb cb hne 37 37 cur2.size cur.size (by simp [World.shape?, hh2]) (by simp [World.shape?, hh]) (by omega) (by simp [World.frozen?, hh2]) (by simp [World.frozen?, hh2])]
    rfl
  have mixed : Try.prog.follows .mixedOrders = true := by kernel_rfl
  have hw1 : IntKind.i64.wrap ((i : Int) + 1) = (i : Int) + 1 := by rw [IntKind.wrap_i64]; omega
  have hb1 : (0 : Int) ≤ (i : Int) + 1 := by omega
  have htn : ((i : Int) + 1).toNat = i + 1 := by omega
  have hb2 : ¬ (cap = i + 1) := by omega
  have hb3 : (i : Int) ≤ (l0.length : Int) + 1 := by omega
  have hb5 : (i : Int) + 1 ≤ (l0.length : Int) + 1 := by omega
  have hb4 : ¬ (cap = i) := by omega
  have hdl : (l0.drop i).length = l0.length - i := List.length_drop
  have hsz : (l0.length + 1) * 3 ≤ cap * 3 := Nat.mul_le_mul_right 3 hcap
  have hcl : cur.toList.length = cap * 3 := by rw [Array.length_toList]; exact hcs
  obtain ⟨A1, hA1⟩ : ∃ A1, A1 = cur.toList.take ((i + 1) * 3) ++ enc37 (l0.drop i) ++ cur.toList.drop ((i + 1) * 3 + (l0.drop i).length * 3) := ⟨_, rfl⟩
  have hcp1 : ∀ ty dc sc, (Builtin.copy_ #[25, 25] ty #[.slice (some ⟨g, (i + 1) * 3, none⟩) (l0.length - i) dc, .slice (some ⟨g, i * 3, none⟩) (l0.length + 1 - i) sc]).run Try.prog w.drew = .ok (goInt (l0.drop i).length) (w.drew.setRow g A1.toArray) := fun ty dc sc => by
    rw [hA1]
    exact run_copy37 w.drew ty g ((i + 1) * 3) (l0.length - i) dc ⟨g, i * 3, none⟩ (l0.length + 1 - i) sc cur (l0.drop i) hh (by rw [hdl]; simp only [Nat.min_def]; split <;> omega)
      (fun j v hj => by
        rw [← enc37_drop, List.getElem?_drop, ← ht, List.getElem?_take] at hj
        split at hj
        · rw [Addr.add_lit]
          have hh' : w.drew.heap[g]? = some (.cells cur 37 (0, 0)) := hh
          simp only [World.cell?, hh']
          simpa using hj
        · cases hj) (by rw [hdl]; omega)
  have hS := shift_list cur.toList l0 x i hi (by rw [hcl]; exact hsz) ht
  have hA1' : A1 = cur.toList.take ((i + 1) * 3) ++ enc37 (l0.drop i) ++ cur.toList.drop ((i + 1) * 3 + (l0.length - i) * 3) := by rw [hA1, hdl]
  simp only [] at hS
  rw [← hA1'] at hS
  obtain ⟨hS1, hS2, hS3⟩ := hS
  obtain ⟨A2, hA2⟩ : ∃ A2, A2 = A1.take (i * 3) ++ enc37 [x] ++ A1.drop (i * 3 + 3) := ⟨_, rfl⟩
  rw [← hA2] at hS2 hS3
  obtain ⟨W1, hW1⟩ : ∃ W1, W1 = w.drew.setRow g A1.toArray := ⟨_, rfl⟩
  have hh1 : W1.heap[g]? = some (.cells A1.toArray 37 (0, 0)) := by rw [hW1]; exact setRow_heap w.drew g cur _ 37 (0, 0) hh
  have hh3 : W1.heap[g2]? = some (.cells cur2 37 (0, 0)) := by
    rw [hW1]
    exact (setRow_other w.drew g g2 A1.toArray hne).trans hh2
  have hcp2 : ∀ (W : World), W.heap = W1.heap → ∀ ty dc, (Builtin.copy_ #[25, 25] ty #[.slice (some ⟨g, i * 3, none⟩) (l0.length + 1 - i) dc, .slice (some ⟨g2, 0, none⟩) 1 c2]).run Try.prog W = .ok (goInt 1) (W.setRow g A2.toArray) := fun W hW ty dc => by
    rw [hA2]
    exact run_copy37 W ty g (i * 3) (l0.length + 1 - i) dc ⟨g2, 0, none⟩ 1 c2 A1.toArray [x] (by rw [hW]; exact hh1) (by simp only [List.length_singleton, Nat.min_def]; split <;> omega)
      (fun j v hj => by
        rw [← ht2, List.getElem?_take] at hj
        split at hj
        · rw [Addr.add_lit]
          have hh' : W.heap[g2]? = some (.cells cur2 37 (0, 0)) := by rw [hW]; exact hh3
          simp only [World.cell?, hh']
          simpa using hj
        · cases hj) (by simp only [List.size_toArray, hS1, hcl, List.length_singleton]; omega)
  rw [← hW1] at hcp1
  have HW1 := Aside0.mk hW1
  have HS2 := Aside0.mk hS2
  have HS3 := Aside0.mk hS3
  have HH1 := Aside0.mk hh1
  have HBB := Aside0.mk hB
  clear hA1 hA1' hA2 hW1 hS1 hS2 hS3 hh1 hh3
  go_enter Try.func51, Try.ntmps51
  go_wp2_with (simp only [hov])
  go_region_law_o (refine step_copy_runI rfl _ _ 25 25 rfl _ _ (by simp [Act.eval, Act.put]) (by simp [Act.eval, Act.put]) (hcp1 _ _ _) ?_)
  go_wp2_with (at_builtin; refine wpList_copy_runI _ rfl _ _ 25 25 rfl _ _ rfl rfl (hcp2 _ (fun _ => rfl) _ _) ?_)
  go_ret
  have hwb : Below w0.heap.size w0 (W1.setRow g A2.toArray) := by
    rw [HW1.out]
    exact below_setRow (below_setRow (by repeat (first | (with_reducible first | exact HBB.out | apply below_drew1) | exact HBB.out)) hb _) hb _
  have hk2 : ∀ j, ¬ P0_ j → (W1.setRow g A2.toArray).heap[j]? = w.heap[j]? := fun j hj => by
    have hjg : j ≠ g := fun e => hj (e ▸ hP)
    rw [setRow_other _ _ _ _ hjg, HW1.out, setRow_other _ _ _ _ hjg]
    rfl
  have hwk : Kept w (W1.setRow g A2.toArray) P0_ := ⟨by rw [setRow_size, HW1.out, setRow_size]; exact Nat.le_refl _, fun j _ hj => hk2 j hj⟩
  exact ⟨_, rfl, R_make37 hb hP (setRow_heap W1 g A1.toArray A2.toArray 37 (0, 0) HH1.out) (by simp; omega) hcap hcm (by simp [HS2.out]; exact hcs) (by simpa using HS3.out), hwb, hwk⟩
/-- append(s[:i], make([]Bucket, m)...) where there is no room: a new row. -/
theorem run_grow37 (w : World) (ty : TypeId) (g cap m : Nat) (l : List S37) (hcells : ∀ j u, (enc37 l)[j]? = some u → w.cell? ((⟨g, 0, none⟩ : Addr).add j) = some u) (hcap : cap < l.length + m) (hbytes : (l.length + m) * 24 ≤ 140737488355328) (hm0 : 0 < m) :
    ∃ w1 cur2 cap2, (Builtin.append_ #[25, 3] ty #[.slice (some ⟨g, 0, none⟩) l.length cap, .int .i64 m]).run Try.prog w = .ok (.slice (some ⟨w.heap.size, 0, none⟩) (l.length + m) cap2) w1 ∧
      w1.heap[w.heap.size]? = some (.cells cur2 37 (0, 0)) ∧ l.length + m ≤ cap2 ∧ cap2 ≤ maxLen ∧ cur2.size = cap2 * 3 ∧ cur2.toList.take (l.length * 3) = enc37 l ∧ Below w.heap.size w w1 := by
  obtain ⟨i, hi, hzz⟩ := Option.map_eq_some_iff.1 info37
  simp only [Prod.mk.injEq] at hzz
  obtain ⟨hz, hsize, hby⟩ := hzz
  have hle : l.length + m ≤ 140737488355328 := by omega
  have h63 : l.length + m ≤ maxLen := by simp only [maxLen]; omega
  have hw : IntKind.i64.wrap (m : Int) = m := by rw [IntKind.wrap_i64]; omega
  have hneg : ¬ ((m : Int) < 0) := by omega
  have hbig : ¬ (281474976710656 < (m : Int) * (i.bytes : Int)) := by rw [hby]; omega
  have hn : ¬ (l.length + m ≤ cap) := by omega
  have h63' : ¬ (9223372036854775807 < ((l.length : Int) + (m : Int))) := by omega
  have hfit := growslice_fits hcap hbytes
  have h48' : ¬ (281474976710656 < Builtin.nextslicecap (l.length + m) cap * i.bytes) := by rw [hby]; omega
  have hmz : ¬ (m * i.size = 0) := by rw [hsize]; omega
  have hfo : (Builtin.firstCells i.size l.length (.slice (some ⟨g, 0, none⟩) l.length cap)).run Try.prog w.drew = .ok (enc37 l).toArray w.drew := run_firstCells_some (P := Try.prog) w.drew i.size l.length _ l.length cap (enc37 l) (by rw [enc37_len, hsize]) (by simpa using hcells)
  have hge := grownCap_ge w (l.length + m) cap 37
  have hcm : grownCap w (l.length + m) cap 37 ≤ maxLen := grownCap_le_maxLen w (l.length + m) cap 37 h63
  have hzs : (Value.agg #[.int .i64 0, .int .i64 0, .int .i64 0]).cells.size = 3 := rfl
  refine ⟨w.drew.alloc (.cells ((enc37 l).toArray ++ Builtin.zeroCells (Value.agg #[.int .i64 0, .int .i64 0, .int .i64 0]).cells m ++ Builtin.zeroCells (Value.agg #[.int .i64 0, .int .i64 0, .int .i64 0]).cells (grownCap w (l.length + m) cap 37 - (l.length + m))) 37), _, grownCap w (l.length + m) cap 37, ?_, heap_alloc_new w.drew _, hge, hcm, ?_, ?_, ?_⟩
  · simp [Builtin.append_, run_underlying Try.underlying25, run_underlying Try.underlying3, sizeOf, typeInfo, zeroValue, hi, hz, asInt, asIntOf, hw, hneg, hbig, hn, h63', h48', Question.forced, hfo, newRow, grownCap, hmz]
  · simp only [Array.size_append, List.size_toArray, size_zeroCells, hzs, enc37_len, ← Nat.add_mul]
    congr 1
    omega
  · simp only [Array.toList_append, List.append_assoc]
    exact take_cat (by rw [enc37_len])
  · exact below_alloc (by repeat (first | (with_reducible first | exact Below.refl _ _ | apply below_drew1) | exact Below.refl _ _)) _
set_option maxHeartbeats 8000000 in
set_option maxRecDepth 100000 in
theorem insert_grow (P0_ : Nat → Prop) (g cap : Nat) (cur : Array Value) (l0 : List S37) (i : Nat) (x : S37) (g2 c2 : Nat) (cur2 : Array Value) (w0 w : World) (hB : Below w0.heap.size w0 w) (hh : w.heap[g]? = some (.cells cur 37 (0, 0))) (hi : i < l0.length) (hnc : l0.length ≤ cap) (hcap : cap < l0.length + 1) (hcs : cur.size = cap * 3) (ht : cur.toList.take (l0.length * 3) = enc37 l0) (hl : l0.length < 1000000)
    (hh2 : w.heap[g2]? = some (.cells cur2 37 (0, 0))) (ht2 : cur2.toList.take (1 * 3) = enc37 [x]) :
    Calls Try.prog 51 #[.slice (some ⟨g, 0, none⟩) l0.length cap, .int .i64 i, .slice (some ⟨g2, 0, none⟩) 1 c2] w fun e w' => ∃ v0_ : Value, e = .returned v0_ ∧ Kd.R k37 37 w' w0.heap.size (fun k_ => P0_ k_ ∨ w.heap.size ≤ k_) v0_ (l0.take i ++ [x] ++ l0.drop i) ∧ Below w0.heap.size w0 w' ∧ Kept w w' P0_ := by
  have t25 := Try.underlying25
  have mixed : Try.prog.follows .mixedOrders = true := by kernel_rfl
  have hcell : ∀ j u, (enc37 l0)[j]? = some u → w.cell? ((⟨g, 0, none⟩ : Addr).add j) = some u := fun j u hj => by
    rw [← ht, List.getElem?_take] at hj
    split at hj
    · rw [Addr.add_lit]
      simp only [World.cell?, hh]
      simpa using hj
    · cases hj
  have hlt : (l0.take i).length = i := by rw [List.length_take]; omega
  obtain ⟨w1, cur3, cap2, hrun, hh3, hge, hcm, hcs3, ht3, hb1⟩ := run_grow37 w 25 g cap (l0.length + 1 - i) (l0.take i) (fun j u hj => hcell j u (by
    rw [← enc37_take, List.getElem?_take] at hj
    split at hj
    · exact hj
    · cases hj)) (by rw [hlt]; omega) (by rw [hlt]; omega) (by omega)
  rw [hlt] at hrun hge ht3
  rw [show i + (l0.length + 1 - i) = l0.length + 1 by omega] at hrun hge
  rw [show ((l0.length + 1 - i : Nat) : Int) = (l0.length : Int) + 1 - (i : Int) by omega] at hrun
  obtain ⟨gn, hgn⟩ : ∃ gn, gn = w.heap.size := ⟨_, rfl⟩
  rw [← hgn] at hrun hh3
  have hlg : g < w.heap.size := (Array.getElem?_eq_some_iff.1 hh).1
  have hlg2 : g2 < w.heap.size := (Array.getElem?_eq_some_iff.1 hh2).1
  have hcl : cur3.toList.length = cap2 * 3 := by rw [Array.length_toList]; exact hcs3
  have hsz : (l0.length + 1) * 3 ≤ cap2 * 3 := Nat.mul_le_mul_right 3 hge
  have hS := fresh_list cur3.toList l0 x i hi (by rw [hcl]; exact hsz) ht3
  simp only [] at hS
  obtain ⟨A1, hA1⟩ : ∃ A1, A1 = cur3.toList.take (i * 3) ++ enc37 [x] ++ cur3.toList.drop (i * 3 + 3) := ⟨_, rfl⟩
  rw [← hA1] at hS
  obtain ⟨A2, hA2⟩ : ∃ A2, A2 = A1.take ((i + 1) * 3) ++ enc37 (l0.drop i) ++ A1.drop ((i + 1) * 3 + (l0.length - i) * 3) := ⟨_, rfl⟩
  rw [← hA2] at hS
  obtain ⟨hS1, hS2, hS3⟩ := hS
  have hdl : (l0.drop i).length = l0.length - i := List.length_drop
  have hcp1 : ∀ ty dc, (Builtin.copy_ #[25, 25] ty #[.slice (some ⟨gn, i * 3, none⟩) (l0.length + 1 - i) dc, .slice (some ⟨g2, 0, none⟩) 1 c2]).run Try.prog w1 = .ok (goInt 1) (w1.setRow gn A1.toArray) := fun ty dc => by
    rw [hA1]
    exact run_copy37 w1 ty gn (i * 3) (l0.length + 1 - i) dc ⟨g2, 0, none⟩ 1 c2 cur3 [x] hh3 (by simp only [List.length_singleton, Nat.min_def]; split <;> omega)
      (fun j v hj => by
        rw [← ht2, List.getElem?_take] at hj
        split at hj
        · rw [Addr.add_lit]
          have hh' : w1.heap[g2]? = some (.cells cur2 37 (0, 0)) := (hb1.block g2 hlg2).trans hh2
          simp only [World.cell?, hh']
          simpa using hj
        · cases hj) (by simp only [← Array.length_toList, hcl, List.length_singleton]; omega)
  obtain ⟨W1, hW1⟩ : ∃ W1, W1 = w1.setRow gn A1.toArray := ⟨_, rfl⟩
  have hh4 : W1.heap[gn]? = some (.cells A1.toArray 37 (0, 0)) := by rw [hW1]; exact setRow_heap w1 gn cur3 _ 37 (0, 0) hh3
  have hh5 : W1.heap[g]? = some (.cells cur 37 (0, 0)) := by
    rw [hW1]
    exact (setRow_other w1 gn g A1.toArray (by omega)).trans ((hb1.block g hlg).trans hh)
  rw [← hW1] at hcp1
  have hcp2 : ∀ ty dc sc, (Builtin.copy_ #[25, 25] ty #[.slice (some ⟨gn, (i + 1) * 3, none⟩) (l0.length - i) dc, .slice (some ⟨g, i * 3, none⟩) (l0.length - i) sc]).run Try.prog W1.drew = .ok (goInt (l0.drop i).length) (W1.drew.setRow gn A2.toArray) := fun ty dc sc => by
    rw [hA2, ← hdl]
    exact run_copy37 W1.drew ty gn ((i + 1) * 3) (l0.drop i).length dc ⟨g, i * 3, none⟩ (l0.drop i).length sc A1.toArray (l0.drop i) hh4 (by simp)
      (fun j v hj => by
        rw [← enc37_drop, List.getElem?_drop, ← ht, List.getElem?_take] at hj
        split at hj
        · rw [Addr.add_lit]
          have hh' : W1.drew.heap[g]? = some (.cells cur 37 (0, 0)) := hh5
          simp only [World.cell?, hh']
          simpa using hj
        · cases hj) (by rw [hdl]; simp only [List.size_toArray, hS1, hcl]; omega)
  have HW1 := Aside0.mk hW1
  have HS2 := Aside0.mk hS2
  have HS3 := Aside0.mk hS3
  have HH4 := Aside0.mk hh4
  have HBB := Aside0.mk hB
  have HB1 := Aside0.mk hb1
  have HGN := Aside0.mk hgn
  have HCL := Aside0.mk hcl
  have HCM := Aside0.mk hcm
  have HGE := Aside0.mk hge
  clear hA1 hA2 hW1 hS1 hS2 hS3 hh4 hh5 hcell hgn hdl hcl ht3
  have hw1 : IntKind.i64.wrap ((i : Int) + 1) = (i : Int) + 1 := by rw [IntKind.wrap_i64]; omega
  have hw2 : IntKind.i64.wrap ((l0.length : Int) + 1) = (l0.length : Int) + 1 := by rw [IntKind.wrap_i64]; omega
  have hw3 : IntKind.i64.wrap ((l0.length : Int) + 1 - (i : Int)) = (l0.length : Int) + 1 - (i : Int) := by rw [IntKind.wrap_i64]; omega
  have hb1' : (0 : Int) ≤ (i : Int) + 1 := by omega
  have htn : ((i : Int) + 1).toNat = i + 1 := by omega
  have hb2 : ¬ (cap2 = i + 1) := by omega
  have hb3 : (i : Int) ≤ (l0.length : Int) + 1 := by omega
  have hb5 : (i : Int) + 1 ≤ (l0.length : Int) + 1 := by omega
  have hb4 : ¬ (cap2 = i) := by omega
  have hb6 : ¬ (cap = i) := by omega
  have hb7 : i ≤ cap := by omega
  have hb8 : i ≤ l0.length := by omega
  go_enter Try.func51, Try.ntmps51
  go_wp2_with (first | (at_builtin; refine Lib.wpList_append_run _ rfl _ _ 25 3 rfl _ _ rfl rfl _ _ hrun ?_) | (at_builtin; refine wpList_copy_runI _ rfl _ _ 25 25 rfl _ _ rfl rfl (hcp1 _ _) ?_))
  go_region_law_o (refine step_copy_runI rfl _ _ 25 25 rfl _ _ (by simp [Act.eval, Act.put]) (by simp [Act.eval, Act.put]) (hcp2 _ _ _) ?_)
  go_wp2
  go_ret
  have hbase : w0.heap.size ≤ gn := by rw [HGN.out]; exact HBB.out.size
  have hwb : Below w0.heap.size w0 (W1.drew.setRow gn A2.toArray) := by
    rw [HW1.out]
    exact below_setRow (by repeat (first | (with_reducible first | apply below_drew1) | exact below_setRow (below_step HBB.out HB1.out) hbase _)) hbase _
  have hk2 : ∀ j, j < w.heap.size → (W1.drew.setRow gn A2.toArray).heap[j]? = w.heap[j]? := fun j hj => by
    have hjg : j ≠ gn := by rw [HGN.out]; omega
    rw [setRow_other _ _ _ _ hjg, HW1.out]
    exact (setRow_other w1 gn j A1.toArray hjg).trans (HB1.out.block j hj)
  have hsize : w.heap.size ≤ (W1.drew.setRow gn A2.toArray).heap.size := by
    rw [setRow_size, HW1.out]
    show w.heap.size ≤ (w1.setRow gn A1.toArray).heap.size
    rw [setRow_size]
    exact HB1.out.size
  have hwk : Kept w (W1.drew.setRow gn A2.toArray) P0_ := ⟨hsize, fun j hj _ => hk2 j hj⟩
  exact ⟨_, rfl, R_make37 hbase (Or.inr (by rw [HGN.out]; exact Nat.le_refl _)) (setRow_heap W1.drew gn A1.toArray A2.toArray 37 (0, 0) HH4.out) (by simp; omega) HGE.out HCM.out (by simp [HS2.out]; rw [← HCL.out, Array.length_toList]) (by simpa using HS3.out), hwb, hwk⟩
set_option maxHeartbeats 8000000 in
set_option maxRecDepth 100000 in
theorem insert_end (P0_ : Nat → Prop) (u9000_ : Value) (l0 : List S37) (A2 : Option Addr) (c2 : Nat) (l2 : List S37) (w0 w : World) (okv : Nat → Prop) (hB : Below w0.heap.size w0 w) (ho0 : Kd.R k37 37 w w0.heap.size P0_ u9000_ l0) (hr2 : Kd.R k37 37 w w0.heap.size okv (.slice A2 l2.length c2) l2) (hl2 : l2.length = 1) (hl : l0.length < 1000000) :
    Calls Try.prog 51 #[u9000_, .int .i64 (l0.length : Int), .slice A2 l2.length c2] w fun e w' => ∃ v0_ : Value, e = .returned (v0_) ∧ Kd.R k37 37 w' w0.heap.size (fun k_ => (P0_ k_ ∨ w.heap.size ≤ k_)) v0_ (l0 ++ l2) ∧ Below w0.heap.size w0 w' ∧ Kept w w' (fun k_ => P0_ k_) := by
  have HO0 := Aside0.mk (show Kd.R k37 37 w w0.heap.size (fun k_ => (P0_ k_ ∨ w.heap.size ≤ k_)) u9000_ l0 from Kd.R_mono ho0 (fun k_ hk => (.inl hk)))
  have HR2 := Aside0.mk hr2
  have HK := Aside0.mk (Kept.refl w (fun k_ => P0_ k_))
  have HB := Aside0.mk hB
  have HP := Aside0.mk ho0.1
  obtain ⟨A0, c0, rfl⟩ := Kd.R_slice ho0
  clear hB ho0 hr2
  have hne1 : ¬ ((1 : Int) = 0) := by omega
  obtain ⟨i0_, hi0_, _, hsz_, _⟩ := info_parts info37
  have hcutf_ := cut_from (P := Try.prog) 25 37 .i64 Try.underlying25 hi0_ 3 hsz_ A0 l0.length c0 (l0.length : Int) (by omega) (by omega)
  generalize hAc_ : (if c0 = (l0.length : Int).toNat then A0 else A0.map (·.add ((l0.length : Int).toNat * 3))) = Ac_ at hcutf_
  have hl2' : (l2.length : Int) = 1 := by omega
  clear hi0_ hsz_ hAc_
  go_enter Try.func51, Try.ntmps51
  go_wp2_with (first | ((with_reducible refine gate_builtin (b := .append) (xs := #[.tmp 23, .tmp 24]) rfl ?_); at_builtin; refine Kd.R_append_rows k37 (w0 := w0) w0.heap.size rfl (.tmp 23) (.tmp 24) 25 37 (.agg #[(.int .i64 0), (.int .i64 0), (.int .i64 0)]) 24 rfl Try.underlying25 info37 rfl (by decide) (by omega) (.slice A0 l0.length c0) l0 l2 _ _ _ (fun k_ => (P0_ k_ ∨ w.heap.size ≤ k_)) (fun _ => False) rfl rfl ?aO ?aR (fun _ _ h => h) (fun _ h => h.elim) ?aF ?aB ?aS ?aL ?_; (case aR => exact (Kd.R_reads' HR2.out).2.2); (case aB => exact HB.out); (case aF => exact (fun k_ hk => (.inr hk))); (case aO => exact HO0.out); (case aS => exact HB.out.size); (case aL => omega); intro v162 w5 ho hb hg hat; have n0_ := Aside0.mk (hb); have n1_ := Aside0.mk (Kept.of_grown (S := (fun k_ => P0_ k_)) hg HK.out (fun k_ e_ => .inl (HP.out k_ e_))); have n2_ := Aside0.mk (ho); clear HB; clear HK; clear HO0; have HB := n0_; have HK := n1_; have HO163 := n2_; clear n0_ n1_ n2_; clear ho hb hg hat))
  go_ret
  exact ⟨_, rfl, HO163.out, HB.out, HK.out⟩
theorem impl_Bucket_51.calls (P0_ : Nat → Prop) (u9000_ : Value) (l0 : List (S37)) (a1 : Int) (A2 : Option Addr) (c2 : Nat) (l2 : List (S37)) (r : List (S37)) (w0 w : World) {okv : Nat → Prop} (hB : Below w0.heap.size w0 w) (ho0 : Kd.R k37 37 w w0.heap.size P0_ u9000_ l0) (hr2 : Kd.R k37 37 w w0.heap.size okv (.slice A2 l2.length c2) l2) (hne2 : ∀ k_, okv k_ → ¬ P0_ k_) (h : impl_Bucket_51.f l0 a1 l2 = some r) :
    Calls Try.prog 51 #[u9000_, .int .i64 a1, .slice A2 l2.length c2] w fun e w' => ∃ v0_ : Value, e = .returned (v0_) ∧ Kd.R k37 37 w' w0.heap.size (fun k_ => (P0_ k_ ∨ w.heap.size ≤ k_)) v0_ r ∧ Below w0.heap.size w0 w' ∧ Kept w w' (fun k_ => P0_ k_) := by
  unfold impl_Bucket_51.f at h
  by_cases hc : 0 ≤ a1 ∧ a1 ≤ (l0.length : Int) ∧ l2.length = 1 ∧ l0.length < 1000000
  rotate_left
  · rw [if_neg hc] at h; cases h
  rw [if_pos hc] at h
  obtain ⟨h0, h1, hl2, hl⟩ := hc
  obtain rfl := Option.some.inj h
  obtain ⟨i, rfl⟩ := Int.eq_ofNat_of_zero_le h0
  rw [Int.toNat_natCast]
  by_cases he : i = l0.length
  · subst he
    rw [List.take_of_length_le (Nat.le_refl _), List.drop_of_length_le (Nat.le_refl _), List.append_nil]
    exact insert_end P0_ u9000_ l0 A2 c2 l2 w0 w okv hB ho0 hr2 hl2 hl
  · have hi : i < l0.length := by omega
    obtain ⟨A0, c0, rfl⟩ := Kd.R_slice ho0
    obtain ⟨g, cur, rfl, hb, hP, hh, _, hnc, hcm, hcs, ht⟩ := R_open37 ho0 (by omega)
    obtain ⟨g2, cur2, rfl, _, hokv, hh2, _, hnc2, _, hcs2, ht2⟩ := R_open37 hr2 (by omega)
    obtain ⟨x, rfl⟩ : ∃ x, l2 = [x] := by
      match l2, hl2 with
      | [x], _ => exact ⟨x, rfl⟩
    have hne : g2 ≠ g := fun e => hne2 g2 hokv (e ▸ hP)
    by_cases hroom : l0.length + 1 ≤ c0
    · exact (insert_room P0_ g c0 cur l0 i x g2 c2 cur2 w0 w hB hb hP hh hi hroom hcm hcs ht hl hne hh2 hnc2 hcs2 ht2).mono fun e w' ⟨v, e1, e2, e3, e4⟩ => ⟨v, e1, Kd.R_mono e2 (fun _ hk => .inl hk), e3, e4⟩
    · exact insert_grow P0_ g c0 cur l0 i x g2 c2 cur2 w0 w hB hh hi hnc (by omega) hcs ht hl hh2 ht2

/-! ### impl_TakeToken: function 32 -/
mutual
def impl_TakeToken.j0 : Nat → List (S37) → Int → Int → Int → Bool → Option ((List (S37)) × Bool × Bool)
  | 0, _, _, _, _, _ => none
  | k + 1, x0, x1, x2, x9, x24 => if x24 = true then (some (([] : List (S37)), false, false)) else ((impl_bucketPlace.f k x0 x1).bind fun bt166 => ((impl_Bucket_48.f x0).bind fun t168 => (if bt166.2 = true then (if 0 ≤ bt166.1 then (if bt166.1 < (x0.length : Int) then (impl_TakeToken.j1 k x9 bt166.1 bt166.2 t168 (decide (x2 < ((rd_T37 x0 bt166.1).f2))) x1 (wrap64 (x9 - 1)) x2) else (none)) else (none)) else (impl_TakeToken.j1 k x9 bt166.1 bt166.2 t168 false x1 (wrap64 (x9 - 1)) x2))))
def impl_TakeToken.j1 : Nat → Int → Int → Bool → List (S37) → Bool → Int → Int → Int → Option ((List (S37)) × Bool × Bool)
  | 0, _, _, _, _, _, _, _, _ => none
  | k + 1, x9, x10, x11, x12, x43, x172000, x172001, x172002 => if x43 = true then (some (([] : List (S37)), false, false)) else (if x9 = 0 then (some (x12, false, true)) else (if x11 = true then (if 0 ≤ x10 then (if x10 < (x12.length : Int) then ((some (x12.set (x10 : Int).toNat (⟨x172000, x172001, x172002⟩ : S37) : List (S37))).bind fun y173 => ((impl_ValidBuckets.f k y173).bind fun t174 => (if t174 = true then (some (y173, true, true)) else (some (([] : List (S37)), false, false))))) else (none)) else (none)) else ((impl_Bucket_51.f x12 x10 (([(⟨x172000, x172001, x172002⟩ : S37)] : List (S37)))).bind fun t178 => ((impl_ValidBuckets.f k t178).bind fun t181 => (if t181 = true then (some (t178, true, true)) else (some (([] : List (S37)), false, false)))))))
end
def impl_TakeToken.f (k : Nat) (l0 : List (S37)) (a1 : Int) (a2 : Int) : Option ((List (S37)) × Bool × Bool) := (impl_TokensAt.f k l0 a1 a2).bind fun t164 => (if t164 < 0 then (impl_TakeToken.j0 k l0 a1 a2 t164 true) else ((impl_within.f a1 0 99).bind fun t165 => (impl_TakeToken.j0 k l0 a1 a2 t164 (!t165))))
theorem impl_TakeToken.mono_l : ∀ k, (∀ y0 y1 y2 y3 y4, LeO (impl_TakeToken.j0 k y0 y1 y2 y3 y4) (impl_TakeToken.j0 (k + 1) y0 y1 y2 y3 y4)) ∧ (∀ y0 y1 y2 y3 y4 y5 y6 y7, LeO (impl_TakeToken.j1 k y0 y1 y2 y3 y4 y5 y6 y7) (impl_TakeToken.j1 (k + 1) y0 y1 y2 y3 y4 y5 y6 y7))
  | 0 => ⟨fun _ _ _ _ _ r h => by simp [impl_TakeToken.j0] at h, fun _ _ _ _ _ _ _ _ r h => by simp [impl_TakeToken.j1] at h⟩
  | k + 1 => by
    obtain ⟨ih0, ih1⟩ := impl_TakeToken.mono_l k
    refine ⟨?_, ?_⟩
    · intro y0 y1 y2 y3 y4
      unfold impl_TakeToken.j0
      repeat' first
      | (with_reducible exact ih0 _ _ _ _ _)
      | (with_reducible exact ih1 _ _ _ _ _ _ _ _)
      | (with_reducible exact impl_TokensAt.mono _ _ _ _)
      | (with_reducible exact impl_ValidBuckets.mono _ _)
      | (with_reducible exact impl_bucketPlace.mono _ _ _)
      | (with_reducible exact LeO.refl _)
      | (with_reducible exact LeO.none _)
      | (with_reducible refine LeO.ite ?_ ?_)
      | (with_reducible refine LeO.bind ?_ (fun _ => ?_))
      | exact ih0 _ _ _ _ _
      | exact ih1 _ _ _ _ _ _ _ _
      | exact impl_TokensAt.mono _ _ _ _
      | exact impl_ValidBuckets.mono _ _
      | exact impl_bucketPlace.mono _ _ _
      | exact LeO.none _
      | refine LeO.ite ?_ ?_
      | refine LeO.bind ?_ (fun _ => ?_)
    · intro y0 y1 y2 y3 y4 y5 y6 y7
      unfold impl_TakeToken.j1
      repeat' first
      | (with_reducible exact ih0 _ _ _ _ _)
      | (with_reducible exact ih1 _ _ _ _ _ _ _ _)
      | (with_reducible exact impl_TokensAt.mono _ _ _ _)
      | (with_reducible exact impl_ValidBuckets.mono _ _)
      | (with_reducible exact impl_bucketPlace.mono _ _ _)
      | (with_reducible exact LeO.refl _)
      | (with_reducible exact LeO.none _)
      | (with_reducible refine LeO.ite ?_ ?_)
      | (with_reducible refine LeO.bind ?_ (fun _ => ?_))
      | exact ih0 _ _ _ _ _
      | exact ih1 _ _ _ _ _ _ _ _
      | exact impl_TokensAt.mono _ _ _ _
      | exact impl_ValidBuckets.mono _ _
      | exact impl_bucketPlace.mono _ _ _
      | exact LeO.none _
      | refine LeO.ite ?_ ?_
      | refine LeO.bind ?_ (fun _ => ?_)
theorem impl_TakeToken.mono : ∀ a0 a1 a2 k, LeO (impl_TakeToken.f k a0 a1 a2) (impl_TakeToken.f (k + 1) a0 a1 a2) := by
  intro a0 a1 a2 k
  obtain ⟨ih0, ih1⟩ := impl_TakeToken.mono_l k
  unfold impl_TakeToken.f
  repeat' first
      | (with_reducible exact ih0 _ _ _ _ _)
      | (with_reducible exact ih1 _ _ _ _ _ _ _ _)
      | (with_reducible exact impl_TokensAt.mono _ _ _ _)
      | (with_reducible exact impl_ValidBuckets.mono _ _)
      | (with_reducible exact impl_bucketPlace.mono _ _ _)
      | (with_reducible exact LeO.refl _)
      | (with_reducible exact LeO.none _)
      | (with_reducible refine LeO.ite ?_ ?_)
      | (with_reducible refine LeO.bind ?_ (fun _ => ?_))
      | exact ih0 _ _ _ _ _
      | exact ih1 _ _ _ _ _ _ _ _
      | exact impl_TokensAt.mono _ _ _ _
      | exact impl_ValidBuckets.mono _ _
      | exact impl_bucketPlace.mono _ _ _
      | exact LeO.none _
      | refine LeO.ite ?_ ?_
      | refine LeO.bind ?_ (fun _ => ?_)
set_option maxHeartbeats 8000000 in
set_option maxRecDepth 100000 in
theorem impl_TakeToken.calls (k : Nat) (A0 : Option Addr) (c0 : Nat) (l0 : List (S37)) (a1 : Int) (a2 : Int) (r1 : List (S37)) (r2 : Bool) (r3 : Bool) (w : World) (hr0 : Kd.C k37 w A0 l0.length l0) (hc0 : l0.length ≤ c0) (h : impl_TakeToken.f k l0 a1 a2 = some (r1, r2, r3)) :
    Calls Try.prog 32 #[.slice A0 l0.length c0, .int .i64 a1, .int .i64 a2] w fun e w' => ∃ v0_ : Value, e = .returned (.tuple #[v0_, .bool r2, .bool r3]) ∧ Kd.R k37 37 w' w.heap.size (fun _ => True) v0_ r1 ∧ Below w.heap.size w w' := by
  have hu37 := Try.underlying37
  have HR0 := Aside0.mk hr0
  have HC0 := Aside0.mk hc0
  clear hr0 hc0
  have HB := Aside0.mk (Below.refl w.heap.size w)
  have H : ((impl_TokensAt.f k l0 a1 a2).bind fun t164 => (if t164 < 0 then (impl_TakeToken.j0 k l0 a1 a2 t164 true) else ((impl_within.f a1 0 99).bind fun t165 => (impl_TakeToken.j0 k l0 a1 a2 t164 (!t165))))) = some (r1, r2, r3) := h
  clear h
  replace H := Option.bind_eq_some_iff.mp H
  obtain ⟨t164, A40, H⟩ := H
  replace H : (if t164 < 0 then (impl_TakeToken.j0 k l0 a1 a2 t164 true) else ((impl_within.f a1 0 99).bind fun t165 => (impl_TakeToken.j0 k l0 a1 a2 t164 (!t165)))) = some (r1, r2, r3) := H
  have A4 := Aside0.mk A40
  clear A40
  have HC5 := Aside0.mk H
  clear H
  go_enter Try.func32, Try.ntmps32
  go_upto_region 2 with (first | ((with_reducible refine gate_callee (f := 23) rfl ?_); refine goesL_ (some 17) rfl rfl Try.func23 (by kernel_rfl) rfl #[.slice A0 l0.length c0, .int .i64 a1, .int .i64 a2] rfl (by (try simp only [List.map_toArray, List.map_cons, List.map_nil]); first | done | rfl | (simp only [List.length_drop, List.length_take]; rfl)) ?_; (with_reducible refine (impl_TokensAt.calls k _ _ l0 a1 a2 t164 _ ?side1 ?side2 A4.out).mono ?_); (case side1 => repeat (first | exact HR0.out | (with_reducible refine Kd.C_alloc ?_ _) | (with_reducible refine Kd.C_drewN ?_ _) | (with_reducible refine Kd.C_drew ?_))); (case side2 => exact HC0.out); rintro e w6 ⟨rfl, hb⟩; refine ⟨_, rfl, ?_⟩; have n0_ := Aside0.mk (below_step (by repeat (first | (with_reducible first | exact HB.out | apply below_alloc | apply pw_below_drewN | apply below_drew1) | exact HB.out)) hb); clear HB; have HB := n0_; clear n0_; (try clear hb); (try clear hb2); (try clear hk); (try clear hi)))
  (try simp only [Act.put, List.setIfInBounds_toArray, List.set_cons_zero, List.set_cons_succ])
  go_cut [24] (fun v24 wc => ∃ (kq : Nat) (x24_4 : Bool), v24 = .bool x24_4 ∧ Aside0 (impl_TakeToken.j0 kq l0 a1 a2 t164 x24_4 = some (r1, r2, r3)) ∧ Aside0 (kq ≤ k) ∧ Aside0 (Below w.heap.size w wc))
  case first =>
    have H := HC5.out
    clear HC5
    by_cases c7 : t164 < 0
    · rw [if_pos c7] at H
      have c7b0 : decide (t164 < 0) = true := decide_eq_true c7
      clear c7
      (first | rw [c7b0] | (simp only [i64_w, i32_w]; rw [c7b0]) | skip)
      have H' := Aside0.mk H
      clear H
      go_wp2
      go_meet
      case rel => exact ⟨_, (true), (by first | rfl | (simp; done) | (simp [*]; done)), H', ⟨by first | omega | exact Nat.le_refl _⟩, ⟨by repeat (first | (with_reducible first | exact HB.out | apply below_alloc | apply pw_below_drewN | apply below_drew1) | exact HB.out)⟩⟩
    · rw [if_neg c7] at H
      have c7b0 : decide (t164 < 0) = false := decide_eq_false c7
      clear c7
      (first | rw [c7b0] | (simp only [i64_w, i32_w]; rw [c7b0]) | skip)
      replace H := Option.bind_eq_some_iff.mp H
      obtain ⟨t165, A80, H⟩ := H
      replace H : (impl_TakeToken.j0 k l0 a1 a2 t164 (!t165)) = some (r1, r2, r3) := H
      have A8 := Aside0.mk A80
      clear A80
      have H' := Aside0.mk H
      clear H
      go_wp2_with (first | (go_at_call 36; (with_reducible refine (impl_within.calls a1 0 99 t165 _ A8.out).mono ?_); rintro e w' ⟨rfl, ⟨nd, rfl⟩⟩))
      go_meet
      case rel => exact ⟨_, (!t165), (by first | rfl | (simp; done) | (simp [*]; done)), H', ⟨by first | omega | exact Nat.le_refl _⟩, ⟨by repeat (first | (with_reducible first | exact HB.out | apply below_alloc | apply pw_below_drewN | apply below_drew1) | exact HB.out)⟩⟩
  case rest =>
    clear HC5
    try clear c2
    try clear p2
    try clear c3
    try clear c7
    try clear c7b0
    obtain ⟨kq, x24_4, rfl, HA, HJ4, HB⟩ := hcut
    cases kq with
    | zero => exact absurd HA.out (by simp [impl_TakeToken.j0])
    | succ kj4 =>
      have H := HA.out
      clear HA
      simp only [impl_TakeToken.j0] at H
      by_cases c9 : x24_4 = true
      · subst c9
        have H1 : (some (([] : List (S37)), false, false)) = some (r1, r2, r3) := by rw [if_pos rfl] at H; exact H
        clear H
        have H := H1
        clear H1
        simp only [Option.some.injEq, Prod.mk.injEq] at H
        obtain ⟨rfl, rfl, rfl⟩ := H
        go_wp2
        go_ret3
        exact ⟨_, by first | rfl | (simp [errW_none, errW_some] <;> rfl) | (simp [*, errW_none, errW_some] <;> rfl), by first | exact Kd.R_nil _ _ _ _ _ | exact Kd.N_nil _ _ _ _ _ | exact Kd.V_nil _ _ _ _ _ | exact Kd.Q_nil _ _ _ _ _ | exact Kd.S_nil _ _ _ _ _, by repeat (first | (with_reducible first | exact HB.out | apply below_alloc | apply pw_below_drewN | apply below_drew1) | exact HB.out)⟩
      · replace c9 := Bool.eq_false_iff.mpr c9
        subst c9
        have H1 : ((impl_bucketPlace.f kj4 l0 a1).bind fun bt166 => ((impl_Bucket_48.f l0).bind fun t168 => (if bt166.2 = true then (if 0 ≤ bt166.1 then (if bt166.1 < (l0.length : Int) then (impl_TakeToken.j1 kj4 t164 bt166.1 bt166.2 t168 (decide (a2 < ((rd_T37 l0 bt166.1).f2))) a1 (wrap64 (t164 - 1)) a2) else (none)) else (none)) else (impl_TakeToken.j1 kj4 t164 bt166.1 bt166.2 t168 false a1 (wrap64 (t164 - 1)) a2)))) = some (r1, r2, r3) := by rw [if_neg (show ¬ (false = true) by decide)] at H; exact H
        clear H
        have H := H1
        clear H1
        replace H := Option.bind_eq_some_iff.mp H
        obtain ⟨⟨t166, t167⟩, A100, H⟩ := H
        replace H : ((impl_Bucket_48.f l0).bind fun t168 => (if t167 = true then (if 0 ≤ t166 then (if t166 < (l0.length : Int) then (impl_TakeToken.j1 kj4 t164 t166 t167 t168 (decide (a2 < ((rd_T37 l0 t166).f2))) a1 (wrap64 (t164 - 1)) a2) else (none)) else (none)) else (impl_TakeToken.j1 kj4 t164 t166 t167 t168 false a1 (wrap64 (t164 - 1)) a2))) = some (r1, r2, r3) := H
        have A10 := Aside0.mk A100
        clear A100
        replace H := Option.bind_eq_some_iff.mp H
        obtain ⟨t168, A110, H⟩ := H
        replace H : (if t167 = true then (if 0 ≤ t166 then (if t166 < (l0.length : Int) then (impl_TakeToken.j1 kj4 t164 t166 t167 t168 (decide (a2 < ((rd_T37 l0 t166).f2))) a1 (wrap64 (t164 - 1)) a2) else (none)) else (none)) else (impl_TakeToken.j1 kj4 t164 t166 t167 t168 false a1 (wrap64 (t164 - 1)) a2)) = some (r1, r2, r3) := H
        have A11 := Aside0.mk A110
        clear A110
        have HC12 := Aside0.mk H
        clear H
        go_upto_region 7 with (first | ((with_reducible refine gate_callee (f := 43) rfl ?_); refine goesL_ (some 28) rfl rfl Try.func43 (by kernel_rfl) rfl #[.slice A0 l0.length c0, .int .i64 a1] rfl (by (try simp only [List.map_toArray, List.map_cons, List.map_nil]); first | done | rfl | (simp only [List.length_drop, List.length_take]; rfl)) ?_; (with_reducible refine (impl_bucketPlace.calls kj4 _ _ l0 a1 t166 t167 _ ?side1 ?side2 A10.out).mono ?_); (case side1 => repeat (first | exact (Kd.C_below HR0.out HB.out) | (with_reducible refine Kd.C_alloc ?_ _) | (with_reducible refine Kd.C_drewN ?_ _) | (with_reducible refine Kd.C_drew ?_))); (case side2 => exact HC0.out); rintro e w13 ⟨rfl, hb⟩; refine ⟨_, rfl, ?_⟩; have n0_ := Aside0.mk (below_step (by repeat (first | (with_reducible first | exact HB.out | apply below_alloc | apply pw_below_drewN | apply below_drew1) | exact HB.out)) hb); clear HB; have HB := n0_; clear n0_; (try clear hb); (try clear hb2); (try clear hk); (try clear hi)) | ((with_reducible refine gate_callee (f := 48) rfl ?_); refine goesL_ (some 32) rfl rfl Try.func48 (by kernel_rfl) rfl #[.slice A0 l0.length c0] rfl (by (try simp only [List.map_toArray, List.map_cons, List.map_nil]); first | done | rfl | (simp only [List.length_drop, List.length_take]; rfl)) ?_; (with_reducible refine (impl_Bucket_48.calls _ _ l0 t168 _ ?side1 ?side2 A11.out).mono ?_); (case side1 => repeat (first | exact (Kd.C_below HR0.out HB.out) | (with_reducible refine Kd.C_alloc ?_ _) | (with_reducible refine Kd.C_drewN ?_ _) | (with_reducible refine Kd.C_drew ?_))); (case side2 => exact HC0.out); rintro e w14 ⟨v169, rfl, ho0, hb⟩; refine ⟨_, rfl, ?_⟩; have n0_ := Aside0.mk (Kd.R_lower ho0 (below_size (by repeat (first | (with_reducible first | exact HB.out | apply below_alloc | apply pw_below_drewN | apply below_drew1) | exact HB.out)))); have n1_ := Aside0.mk (below_step (by repeat (first | (with_reducible first | exact HB.out | apply below_alloc | apply pw_below_drewN | apply below_drew1) | exact HB.out)) hb); clear HB; have HO170 := n0_; have HB := n1_; clear n0_ n1_; (try clear hb); (try clear hb2); (try clear hk); (try clear hi); (try clear ho0)) | ((with_reducible refine gate_dst (N := 13) rfl ?_); refine box_event ?hg (N := 13) ?hd (cs := #[.int .i64 0, .int .i64 0, .int .i64 0]) (t := 37) ?hr ?_; (case hd => rfl); (case hg => rfl); (case hr => first | (go_simp; done) | (go_simp; rfl)); intro gb171 hg w15 hbox hb; have n0_ := Aside0.mk (Kd.R_below (Kd.R_elderB (by (with_reducible repeat (first | apply Kd.R_alloc | apply Kd.R_drewN | apply Kd.R_drew)); exact HO170.out) gb171 (Nat.le_of_eq hg.symm)) hb); have n1_ := Aside0.mk (below_step (by repeat (first | (with_reducible first | exact HB.out | apply below_alloc | apply pw_below_drewN | apply below_drew1) | exact HB.out)) hb); have n2_ := Aside0.mk (hbox); have n3_ := Aside0.mk ((by rw [hg]; exact (below_size (by repeat (first | (with_reducible first | exact HB.out | apply below_alloc | apply pw_below_drewN | apply below_drew1) | exact HB.out))) : w.heap.size ≤ gb171)); have n4_ := Aside0.mk ((by rw [hg]; exact (below_size (by repeat (first | (with_reducible first | exact HB.out | apply below_alloc | apply pw_below_drewN | apply below_drew1) | exact HB.out))) : w.heap.size ≤ gb171)); clear HO170; clear HB; have HO170 := n0_; have HB := n1_; have BK171 := n2_; have GW171 := n3_; have GE171 := n4_; clear n0_ n1_ n2_ n3_ n4_; clear hb hbox hg; have hcz16_0 : w15.cell? ⟨gb171, 0, none⟩ = some (.int .i64 0) := (blk_cell BK171.out 0).trans rfl; have hcz16_1 : w15.cell? ⟨gb171, 1, none⟩ = some (.int .i64 0) := (blk_cell BK171.out 1).trans rfl; have hcz16_2 : w15.cell? ⟨gb171, 2, none⟩ = some (.int .i64 0) := (blk_cell BK171.out 2).trans rfl; have hfz16_0 := blk_frozen BK171.out 0; have hfz16_1 := blk_frozen BK171.out 1; have hfz16_2 := blk_frozen BK171.out 2))
        (try simp only [Act.put, List.setIfInBounds_toArray, List.set_cons_zero, List.set_cons_succ])
        go_cut [43] (fun v43 wc => ∃ (kq : Nat) (x43_11 : Bool), v43 = .bool x43_11 ∧ Aside0 (impl_TakeToken.j1 kq t164 t166 t167 t168 x43_11 a1 (wrap64 (t164 - 1)) a2 = some (r1, r2, r3)) ∧ Aside0 (kq ≤ kj4) ∧ Aside0 (Kd.R k37 37 wc w.heap.size (fun k_ => k_ ≠ gb171) v169 t168) ∧ Aside0 (wc.heap[gb171]? = some (.cells #[.int .i64 a1, .int .i64 (wrap64 (t164 - 1)), .int .i64 a2] 37 (0, 0))) ∧ Aside0 (Below w.heap.size w wc))
        case first =>
          have H := HC12.out
          clear HC12
          by_cases c17 : t167 = true
          · subst c17
            have H1 : (if 0 ≤ t166 then (if t166 < (l0.length : Int) then (impl_TakeToken.j1 kj4 t164 t166 true t168 (decide (a2 < ((rd_T37 l0 t166).f2))) a1 (wrap64 (t164 - 1)) a2) else (none)) else (none)) = some (r1, r2, r3) := by rw [if_pos rfl] at H; exact H
            clear H
            have H := H1
            clear H1
            by_cases c18 : 0 ≤ t166
            · rw [if_pos c18] at H
              have c18b0 : decide (0 ≤ t166) = true := decide_eq_true c18
              clear c18
              (first | rw [c18b0] | (simp only [i64_w, i32_w]; rw [c18b0]) | skip)
              by_cases c19 : t166 < (l0.length : Int)
              · rw [if_pos c19] at H
                have c19b0 : decide (t166 < (l0.length : Int)) = true := decide_eq_true c19
                clear c19
                have H' := Aside0.mk H
                clear H
                have p172 : 0 ≤ (t166 : Int) := of_decide_eq_true (by first | (with_reducible assumption) | assumption)
                have q172 : t166 < (l0.length : Int) := of_decide_eq_true (by first | (with_reducible assumption) | assumption)
                obtain ⟨ad172, e172, hx172_0, hx172_1, hx172_2⟩ := at_T37 HR0.out t166 p172 q172
                cases e172
                have hn172_0 : ad172.block ≠ gb171 := Nat.ne_of_lt (Nat.lt_of_lt_of_le (by have := World.block_lt_of_cell? _ _ hx172_0; first | rwa [add_block] at this | exact this) GW171.out)
                have hn172_1 : ad172.block ≠ gb171 := Nat.ne_of_lt (Nat.lt_of_lt_of_le (by have := World.block_lt_of_cell? _ _ hx172_0; first | rwa [add_block] at this | exact this) GW171.out)
                have hn172_2 : ad172.block ≠ gb171 := Nat.ne_of_lt (Nat.lt_of_lt_of_le (by have := World.block_lt_of_cell? _ _ hx172_0; first | rwa [add_block] at this | exact this) GW171.out)
                replace hx172_0 := (HB.out.cell (World.block_lt_of_cell? w _ hx172_0)).trans hx172_0
                replace hx172_1 := (HB.out.cell (World.block_lt_of_cell? w _ hx172_1)).trans hx172_1
                replace hx172_2 := (HB.out.cell (World.block_lt_of_cell? w _ hx172_2)).trans hx172_2
                replace hx172_0 := (cell_far (p := ⟨gb171, 0, none⟩) (by first | (rw [add_block]; exact hn172_0) | (show (Addr.add _ _).block ≠ _; rw [add_block]; exact hn172_0) | exact hn172_0) (.int .i64 a1)).trans hx172_0
                replace hx172_1 := (cell_far (p := ⟨gb171, 0, none⟩) (by first | (rw [add_block]; exact hn172_0) | (show (Addr.add _ _).block ≠ _; rw [add_block]; exact hn172_0) | exact hn172_0) (.int .i64 a1)).trans hx172_1
                replace hx172_2 := (cell_far (p := ⟨gb171, 0, none⟩) (by first | (rw [add_block]; exact hn172_0) | (show (Addr.add _ _).block ≠ _; rw [add_block]; exact hn172_0) | exact hn172_0) (.int .i64 a1)).trans hx172_2
                replace hx172_0 := (cell_far (p := ⟨gb171, 1, none⟩) (by first | (rw [add_block]; exact hn172_1) | (show (Addr.add _ _).block ≠ _; rw [add_block]; exact hn172_1) | exact hn172_1) (.int .i64 (wrap64 (t164 - 1)))).trans hx172_0
                replace hx172_1 := (cell_far (p := ⟨gb171, 1, none⟩) (by first | (rw [add_block]; exact hn172_1) | (show (Addr.add _ _).block ≠ _; rw [add_block]; exact hn172_1) | exact hn172_1) (.int .i64 (wrap64 (t164 - 1)))).trans hx172_1
                replace hx172_2 := (cell_far (p := ⟨gb171, 1, none⟩) (by first | (rw [add_block]; exact hn172_1) | (show (Addr.add _ _).block ≠ _; rw [add_block]; exact hn172_1) | exact hn172_1) (.int .i64 (wrap64 (t164 - 1)))).trans hx172_2
                replace hx172_0 := (cell_far (p := ⟨gb171, 2, none⟩) (by first | (rw [add_block]; exact hn172_2) | (show (Addr.add _ _).block ≠ _; rw [add_block]; exact hn172_2) | exact hn172_2) (.int .i64 a2)).trans hx172_0
                replace hx172_1 := (cell_far (p := ⟨gb171, 2, none⟩) (by first | (rw [add_block]; exact hn172_2) | (show (Addr.add _ _).block ≠ _; rw [add_block]; exact hn172_2) | exact hn172_2) (.int .i64 a2)).trans hx172_1
                replace hx172_2 := (cell_far (p := ⟨gb171, 2, none⟩) (by first | (rw [add_block]; exact hn172_2) | (show (Addr.add _ _).block ≠ _; rw [add_block]; exact hn172_2) | exact hn172_2) (.int .i64 a2)).trans hx172_2
                clear hn172_0
                clear hn172_1
                clear hn172_2
                replace p172 := eq_true p172
                replace q172 := eq_true q172
                go_wp2
                go_meet
                case rel => exact ⟨_, (decide (a2 < ((rd_T37 l0 t166).f2))), (by first | rfl | (simp; done) | (simp [*]; done)), H', ⟨by have := HJ4.out; first | omega | exact Nat.le_refl _⟩, ⟨by (with_reducible repeat (first | apply Kd.R_alloc | apply Kd.R_drewN | apply Kd.R_drew)); exact Kd.R_mono (Kd.R_far (p := ⟨gb171, 2, none⟩) (Kd.R_far (p := ⟨gb171, 1, none⟩) (Kd.R_far (p := ⟨gb171, 0, none⟩) (Kd.R_mono HO170.out (fun k_ hk => (⟨hk, hk.2⟩ : _ ∧ k_ ≠ gb171))) (fun _ hk => hk.2) (.int .i64 a1)) (fun _ hk => hk.2) (.int .i64 (wrap64 (t164 - 1)))) (fun _ hk => hk.2) (.int .i64 a2)) (fun _ hk => hk.1.2)⟩, ⟨by (with_reducible repeat (first | refine blk_drewN ?_ _ | refine blk_drew ?_ | refine blk_alloc ?_ _)); refine blk_put (cs := #[.int .i64 a1, .int .i64 (wrap64 (t164 - 1)), .int .i64 0]) ?_ 2 _ rfl; (with_reducible repeat (first | refine blk_drewN ?_ _ | refine blk_drew ?_ | refine blk_alloc ?_ _)); refine blk_put (cs := #[.int .i64 a1, .int .i64 0, .int .i64 0]) ?_ 1 _ rfl; (with_reducible repeat (first | refine blk_drewN ?_ _ | refine blk_drew ?_ | refine blk_alloc ?_ _)); refine blk_put (cs := #[.int .i64 0, .int .i64 0, .int .i64 0]) ?_ 0 _ rfl; (with_reducible repeat (first | refine blk_drewN ?_ _ | refine blk_drew ?_ | refine blk_alloc ?_ _)); exact BK171.out⟩, ⟨by repeat (first | (with_reducible first | exact HB.out | apply below_alloc | apply pw_below_drewN | apply below_drew1 | refine below_set ?_ GE171.out) | exact HB.out)⟩⟩
              · rw [if_neg c19] at H
                exact absurd H (by simp)
            · rw [if_neg c18] at H
              exact absurd H (by simp)
          · replace c17 := Bool.eq_false_iff.mpr c17
            subst c17
            have H1 : (impl_TakeToken.j1 kj4 t164 t166 false t168 false a1 (wrap64 (t164 - 1)) a2) = some (r1, r2, r3) := by rw [if_neg (show ¬ (false = true) by decide)] at H; exact H
            clear H
            have H := H1
            clear H1
            have H' := Aside0.mk H
            clear H
            go_wp2
            go_meet
            case rel => exact ⟨_, (false), (by first | rfl | (simp; done) | (simp [*]; done)), H', ⟨by have := HJ4.out; first | omega | exact Nat.le_refl _⟩, ⟨by (with_reducible repeat (first | apply Kd.R_alloc | apply Kd.R_drewN | apply Kd.R_drew)); exact Kd.R_mono (Kd.R_far (p := ⟨gb171, 2, none⟩) (Kd.R_far (p := ⟨gb171, 1, none⟩) (Kd.R_far (p := ⟨gb171, 0, none⟩) (Kd.R_mono HO170.out (fun k_ hk => (⟨hk, hk.2⟩ : _ ∧ k_ ≠ gb171))) (fun _ hk => hk.2) (.int .i64 a1)) (fun _ hk => hk.2) (.int .i64 (wrap64 (t164 - 1)))) (fun _ hk => hk.2) (.int .i64 a2)) (fun _ hk => hk.1.2)⟩, ⟨by (with_reducible repeat (first | refine blk_drewN ?_ _ | refine blk_drew ?_ | refine blk_alloc ?_ _)); refine blk_put (cs := #[.int .i64 a1, .int .i64 (wrap64 (t164 - 1)), .int .i64 0]) ?_ 2 _ rfl; (with_reducible repeat (first | refine blk_drewN ?_ _ | refine blk_drew ?_ | refine blk_alloc ?_ _)); refine blk_put (cs := #[.int .i64 a1, .int .i64 0, .int .i64 0]) ?_ 1 _ rfl; (with_reducible repeat (first | refine blk_drewN ?_ _ | refine blk_drew ?_ | refine blk_alloc ?_ _)); refine blk_put (cs := #[.int .i64 0, .int .i64 0, .int .i64 0]) ?_ 0 _ rfl; (with_reducible repeat (first | refine blk_drewN ?_ _ | refine blk_drew ?_ | refine blk_alloc ?_ _)); exact BK171.out⟩, ⟨by repeat (first | (with_reducible first | exact HB.out | apply below_alloc | apply pw_below_drewN | apply below_drew1 | refine below_set ?_ GE171.out) | exact HB.out)⟩⟩
        case rest =>
          clear HC12
          try clear c1
          try clear p1
          try clear q1
          try clear hx1
          try clear c2
          try clear p2
          try clear c3
          try clear c4
          try clear p6
          try clear c7
          try clear c7b0
          try clear c9
          try clear c17
          try clear p17
          try clear q17
          try clear hx17
          try clear c18
          try clear c18b0
          try clear c19
          try clear c19b0
          try clear hcz16_0
          try clear hcz16_1
          try clear hcz16_2
          try clear hfz16_0
          try clear hfz16_1
          try clear hfz16_2
          try clear hx172_0
          try clear hx172_1
          try clear hx172_2
          try clear p172
          try clear p2
          try clear q172
          obtain ⟨kq, x43_11, rfl, HA, HJ11, HO_12, BK171, HB⟩ := hcut
          cases kq with
          | zero => exact absurd HA.out (by simp [impl_TakeToken.j1])
          | succ kj11 =>
            have H := HA.out
            clear HA
            simp only [impl_TakeToken.j1] at H
            by_cases c20 : x43_11 = true
            · subst c20
              have H1 : (some (([] : List (S37)), false, false)) = some (r1, r2, r3) := by rw [if_pos rfl] at H; exact H
              clear H
              have H := H1
              clear H1
              simp only [Option.some.injEq, Prod.mk.injEq] at H
              obtain ⟨rfl, rfl, rfl⟩ := H
              go_wp2
              go_ret3
              exact ⟨_, by first | rfl | (simp [errW_none, errW_some] <;> rfl) | (simp [*, errW_none, errW_some] <;> rfl), by first | exact Kd.R_nil _ _ _ _ _ | exact Kd.N_nil _ _ _ _ _ | exact Kd.V_nil _ _ _ _ _ | exact Kd.Q_nil _ _ _ _ _ | exact Kd.S_nil _ _ _ _ _, by repeat (first | (with_reducible first | exact HB.out | apply below_alloc | apply pw_below_drewN | apply below_drew1 | refine below_set ?_ GE171.out) | exact HB.out)⟩
            · replace c20 := Bool.eq_false_iff.mpr c20
              subst c20
              have H1 : (if t164 = 0 then (some (t168, false, true)) else (if t167 = true then (if 0 ≤ t166 then (if t166 < (t168.length : Int) then ((some (t168.set (t166 : Int).toNat (⟨a1, (wrap64 (t164 - 1)), a2⟩ : S37) : List (S37))).bind fun y173 => ((impl_ValidBuckets.f kj11 y173).bind fun t174 => (if t174 = true then (some (y173, true, true)) else (some (([] : List (S37)), false, false))))) else (none)) else (none)) else ((impl_Bucket_51.f t168 t166 (([(⟨a1, (wrap64 (t164 - 1)), a2⟩ : S37)] : List (S37)))).bind fun t178 => ((impl_ValidBuckets.f kj11 t178).bind fun t181 => (if t181 = true then (some (t178, true, true)) else (some (([] : List (S37)), false, false))))))) = some (r1, r2, r3) := by rw [if_neg (show ¬ (false = true) by decide)] at H; exact H
              clear H
              have H := H1
              clear H1
              by_cases c21 : t164 = 0
              · rw [if_pos c21] at H
                have c21b0 : (t164 == 0) = true := beq_iff_eq.mpr c21
                have c21b1 : (t164 != 0) = false := bne_eq_false_iff_eq.mpr c21
                clear c21
                simp only [Option.some.injEq, Prod.mk.injEq] at H
                obtain ⟨rfl, rfl, rfl⟩ := H
                go_wp2
                go_ret3
                exact ⟨_, by first | rfl | (simp [errW_none, errW_some] <;> rfl) | (simp [*, errW_none, errW_some] <;> rfl), by (with_reducible repeat (first | apply Kd.R_alloc | apply Kd.R_drewN | apply Kd.R_drew)); exact Kd.R_mono HO_12.out (fun _ hk => trivial), by repeat (first | (with_reducible first | exact HB.out | apply below_alloc | apply pw_below_drewN | apply below_drew1 | refine below_set ?_ GE171.out) | exact HB.out)⟩
              · rw [if_neg c21] at H
                have c21b0 : (t164 == 0) = false := beq_eq_false_iff_ne.mpr c21
                have c21b1 : (t164 != 0) = true := bne_iff_ne.mpr c21
                by_cases c22 : t167 = true
                · subst c22
                  have H1 : (if 0 ≤ t166 then (if t166 < (t168.length : Int) then ((some (t168.set (t166 : Int).toNat (⟨a1, (wrap64 (t164 - 1)), a2⟩ : S37) : List (S37))).bind fun y173 => ((impl_ValidBuckets.f kj11 y173).bind fun t174 => (if t174 = true then (some (y173, true, true)) else (some (([] : List (S37)), false, false))))) else (none)) else (none)) = some (r1, r2, r3) := by rw [if_pos rfl] at H; exact H
                  clear H
                  have H := H1
                  clear H1
                  by_cases c23 : 0 ≤ t166
                  · rw [if_pos c23] at H
                    have c23b0 : decide (0 ≤ t166) = true := decide_eq_true c23
                    clear c23
                    by_cases c24 : t166 < (t168.length : Int)
                    · rw [if_pos c24] at H
                      have c24b0 : decide (t166 < (t168.length : Int)) = true := decide_eq_true c24
                      clear c24
                      obtain ⟨y173, hy173⟩ : ∃ y_ : List (S37), y_ = (t168.set (t166 : Int).toNat (⟨a1, (wrap64 (t164 - 1)), a2⟩ : S37)) := ⟨_, rfl⟩
                      replace H : ((impl_ValidBuckets.f kj11 y173).bind fun t174 => (if t174 = true then (some (y173, true, true)) else (some (([] : List (S37)), false, false)))) = some (r1, r2, r3) := by first | (rw [hy173]; with_reducible exact H) | (have H2_ := (Option.bind_some _ _).symm.trans H; rw [hy173]; with_reducible exact H2_) | (have H2_ := (Option.bind_some _ _).symm.trans H; with_reducible exact H2_) | with_reducible exact H | (rw [hy173]; exact H) | exact H
                      have Ny173 := Aside0.mk hy173
                      clear hy173
                      replace H := Option.bind_eq_some_iff.mp H
                      obtain ⟨t174, A260, H⟩ := H
                      replace H : (if t174 = true then (some (y173, true, true)) else (some (([] : List (S37)), false, false))) = some (r1, r2, r3) := H
                      have A26 := Aside0.mk A260
                      clear A260
                      by_cases c27 : t174 = true
                      · subst c27
                        have H1 : (some (y173, true, true)) = some (r1, r2, r3) := by rw [if_pos rfl] at H; exact H
                        clear H
                        have H := H1
                        clear H1
                        simp only [Option.some.injEq, Prod.mk.injEq] at H
                        obtain ⟨rfl, rfl, rfl⟩ := H
                        have hcz28_0 : wc.cell? ⟨gb171, 0, none⟩ = some (.int .i64 a1) := (blk_cell BK171.out 0).trans rfl
                        have hcz28_1 : wc.cell? ⟨gb171, 1, none⟩ = some (.int .i64 (wrap64 (t164 - 1))) := (blk_cell BK171.out 1).trans rfl
                        have hcz28_2 : wc.cell? ⟨gb171, 2, none⟩ = some (.int .i64 a2) := (blk_cell BK171.out 2).trans rfl
                        have hfz28_0 := blk_frozen BK171.out 0
                        have hfz28_1 := blk_frozen BK171.out 1
                        have hfz28_2 := blk_frozen BK171.out 2
                        have p25 : 0 ≤ (t166 : Int) := of_decide_eq_true (by first | (with_reducible assumption) | assumption)
                        have q25 : (t166 : Int) < ((t168.length : Int) : Int) := of_decide_eq_true (by first | (with_reducible assumption) | assumption)
                        obtain ⟨go25, co25, eo25, gb25, gl25, cl25, HG25⟩ := Kd.R_form HO_12.out (by omega)
                        (first | cases eo25 | (injection eo25 with ea_ en_ ec_; (first | subst ea_ | (injection ea_ with ea_; subst ea_)); subst ec_; clear en_))
                        have GB25 := Aside0.mk gb25
                        have GG25 := Aside0.mk HG25
                        clear gb25 gl25 HG25
                        obtain ⟨ce25, hcl25, hM25, hcc25, hfr25⟩ := Kd.R_elem HO_12.out z37 (t166 : Int) p25 q25
                        obtain rfl := k37_openM hM25
                        have hx25_0 : wc.cell? ⟨go25, (t166 : Int).toNat * 3, none⟩ = some (.int .i64 ((rd_T37 t168 t166).f0)) := hcc25 0 _ rfl
                        have hx25_1 : wc.cell? ⟨go25, (t166 : Int).toNat * 3 + 1, none⟩ = some (.int .i64 ((rd_T37 t168 t166).f1)) := hcc25 1 _ rfl
                        have hx25_2 : wc.cell? ⟨go25, (t166 : Int).toNat * 3 + 2, none⟩ = some (.int .i64 ((rd_T37 t168 t166).f2)) := hcc25 2 _ rfl
                        have hf25_0 : wc.frozen? ⟨go25, (t166 : Int).toNat * 3, none⟩ = false := hfr25 0
                        have hf25_1 : wc.frozen? ⟨go25, (t166 : Int).toNat * 3 + 1, none⟩ = false := hfr25 1
                        have hf25_2 : wc.frozen? ⟨go25, (t166 : Int).toNat * 3 + 2, none⟩ = false := hfr25 2
                        clear hcl25 hcc25 hfr25 hM25
                        replace p25 := eq_true p25
                        replace q25 := eq_true q25
                        have HX29 := Aside0.mk (show Kd.R k37 37 wc w.heap.size (fun k_ => k_ ≠ gb171) (.slice (some ⟨go25, 0, none⟩) t168.length co25) t168 from (by (with_reducible repeat (first | apply Kd.R_alloc | apply Kd.R_drewN | apply Kd.R_drew)); exact HO_12.out))
                        obtain ⟨ce29, hcl29, hM29, hcc29, hfr29⟩ := Kd.R_elem HX29.out z37 (t166 : Int) (of_decide_eq_true (by first | (with_reducible assumption) | assumption)) (by have h_ : (t166 : Int) < ((t168.length : Int) : Int) := of_decide_eq_true (by first | (with_reducible assumption) | assumption); first | exact h_ | (have e_ := (Kd.R_reads' HO_12.out).1; omega) | simpa using h_)
                        obtain rfl := k37_openM hM29
                        have HP29 := Kd.R_seg HX29.out (t166 : Int) (of_decide_eq_true (by first | (with_reducible assumption) | assumption)) (by have h_ : (t166 : Int) < ((t168.length : Int) : Int) := of_decide_eq_true (by first | (with_reducible assumption) | assumption); first | exact h_ | (have e_ := (Kd.R_reads' HO_12.out).1; omega) | simpa using h_) (seg := [.int .i64 a1, .int .i64 (wrap64 (t164 - 1)), .int .i64 a2]) (j := 0) hcl29 hcc29 (show 3 ≤ 3 from by decide) (x' := (⟨a1, (wrap64 (t164 - 1)), a2⟩ : S37)) (k37_mkM _ _ _ (⟨a1, (wrap64 (t164 - 1)), a2⟩ : S37) ) (fun _ hk => hk)
                        have hx29_0 := hcc29 0 _ rfl
                        (try simp only [show (k37).sz = 3 from rfl, Nat.mul_one, Nat.add_zero] at hx29_0)
                        have hf29_0 := hfr29 0
                        (try simp only [show (k37).sz = 3 from rfl, Nat.mul_one, Nat.add_zero] at hf29_0)
                        have hx29_1 := hcc29 1 _ rfl
                        (try simp only [show (k37).sz = 3 from rfl, Nat.mul_one, Nat.add_zero] at hx29_1)
                        have hf29_1 := hfr29 1
                        (try simp only [show (k37).sz = 3 from rfl, Nat.mul_one, Nat.add_zero] at hf29_1)
                        have hx29_2 := hcc29 2 _ rfl
                        (try simp only [show (k37).sz = 3 from rfl, Nat.mul_one, Nat.add_zero] at hx29_2)
                        have hf29_2 := hfr29 2
                        (try simp only [show (k37).sz = 3 from rfl, Nat.mul_one, Nat.add_zero] at hf29_2)
                        clear hcl29 hcc29 hfr29 hM29
                        go_wp2_with (first | ((with_reducible refine gate_store (t := 37) (p := 63) rfl ?_); refine store_event (t := 37) (p := 63) (v := ?vo_w30) (w1 := (((wc.setCell ⟨go25, (t166 : Int).toNat * 3, none⟩ (.int .i64 a1)).setCell ⟨go25, (t166 : Int).toNat * 3 + 1, none⟩ (.int .i64 (wrap64 (t164 - 1)))).setCell ⟨go25, (t166 : Int).toNat * 3 + 2, none⟩ (.int .i64 a2))) ?hg ?ho ?hn ?hr ?_; (case ho => rfl); (case hg => rfl); (case hn => rfl); (case hr => first | (go_simp; done) | (go_simp; rfl)); intro w30 hw; have hg : wc.grownBy w30 (some go25) := (by rw [hw]; exact HP29.2); have hp_ : Kd.R k37 37 w30 w.heap.size (fun k_ => k_ ≠ gb171) (.slice (some ⟨go25, 0, none⟩) t168.length co25) y173 := (by rw [hw, Ny173.out]; exact HP29.1); clear HP29; have n0_ := Aside0.mk (hp_); have n1_ := Aside0.mk (blk_grown (g := gb171) (o := .cells #[.int .i64 a1, .int .i64 (wrap64 (t164 - 1)), .int .i64 a2] 37 (0, 0)) (by (with_reducible repeat (first | refine blk_drewN ?_ _ | refine blk_drew ?_ | refine blk_alloc ?_ _)); exact BK171.out) hg (Kd.R_away HO_12.out (fun _ hk => hk))); have n2_ := Aside0.mk ((by rw [hw]; exact below_set (below_set (below_set (HB.out) GB25.out) GB25.out) GB25.out : Below w.heap.size w w30)); clear HO_12; clear BK171; clear HB; have HO_12 := n0_; have BK171 := n1_; have HB := n2_; clear n0_ n1_ n2_; clear hg hw hp_) | ((with_reducible refine gate_callee (f := 19) rfl ?_); refine goesL_ (some 65) rfl rfl Try.func19 (by kernel_rfl) rfl #[.slice (some ⟨go25, 0, none⟩) y173.length co25] rfl (by (try simp only [List.map_toArray, List.map_cons, List.map_nil]); first | done | (rw [show y173.length = t168.length from (Kd.R_reads' HO_12.out).1.symm] <;> rfl) | rfl | (simp only [List.length_drop, List.length_take]; rfl)) ?_; (with_reducible refine (impl_ValidBuckets.calls kj11 _ _ y173 true _ ?side1 ?side2 A26.out).mono ?_); (case side1 => repeat (first | exact (Kd.R_reads' HO_12.out).2.2 | (with_reducible refine Kd.C_alloc ?_ _) | (with_reducible refine Kd.C_drewN ?_ _) | (with_reducible refine Kd.C_drew ?_))); (case side2 => rw [show y173.length = t168.length from (Kd.R_reads' HO_12.out).1.symm]; exact (Kd.R_reads' HO_12.out).2.1); rintro e w31 ⟨rfl, hb⟩; refine ⟨_, rfl, ?_⟩; have n0_ := Aside0.mk (Kd.R_below (by (with_reducible repeat (first | apply Kd.R_alloc | apply Kd.R_drewN | apply Kd.R_drew)); exact HO_12.out) hb); have n1_ := Aside0.mk (blk_below (g := gb171) (o := .cells #[.int .i64 a1, .int .i64 (wrap64 (t164 - 1)), .int .i64 a2] 37 (0, 0)) (by (with_reducible repeat (first | refine blk_drewN ?_ _ | refine blk_drew ?_ | refine blk_alloc ?_ _)); exact BK171.out) hb); have n2_ := Aside0.mk (below_step (by repeat (first | (with_reducible first | exact HB.out | apply below_alloc | apply pw_below_drewN | apply below_drew1 | refine below_set ?_ GE171.out) | exact HB.out)) hb); clear HO_12; clear BK171; clear HB; have HO_12 := n0_; have BK171 := n1_; have HB := n2_; clear n0_ n1_ n2_; (try clear hb); (try clear hb2); (try clear hk); (try clear hi)))
                        go_ret3
                        exact ⟨_, by first | rfl | (simp [errW_none, errW_some] <;> rfl) | (simp [*, errW_none, errW_some] <;> rfl), by (with_reducible repeat (first | apply Kd.R_alloc | apply Kd.R_drewN | apply Kd.R_drew)); exact Kd.R_mono HO_12.out (fun _ hk => trivial), by repeat (first | (with_reducible first | exact HB.out | apply below_alloc | apply pw_below_drewN | apply below_drew1 | refine below_set ?_ GE171.out) | exact HB.out)⟩
                      · replace c27 := Bool.eq_false_iff.mpr c27
                        subst c27
                        have H1 : (some (([] : List (S37)), false, false)) = some (r1, r2, r3) := by rw [if_neg (show ¬ (false = true) by decide)] at H; exact H
                        clear H
                        have H := H1
                        clear H1
                        simp only [Option.some.injEq, Prod.mk.injEq] at H
                        obtain ⟨rfl, rfl, rfl⟩ := H
                        have hcz32_0 : wc.cell? ⟨gb171, 0, none⟩ = some (.int .i64 a1) := (blk_cell BK171.out 0).trans rfl
                        have hcz32_1 : wc.cell? ⟨gb171, 1, none⟩ = some (.int .i64 (wrap64 (t164 - 1))) := (blk_cell BK171.out 1).trans rfl
                        have hcz32_2 : wc.cell? ⟨gb171, 2, none⟩ = some (.int .i64 a2) := (blk_cell BK171.out 2).trans rfl
                        have hfz32_0 := blk_frozen BK171.out 0
                        have hfz32_1 := blk_frozen BK171.out 1
                        have hfz32_2 := blk_frozen BK171.out 2
                        have p25 : 0 ≤ (t166 : Int) := of_decide_eq_true (by first | (with_reducible assumption) | assumption)
                        have q25 : (t166 : Int) < ((t168.length : Int) : Int) := of_decide_eq_true (by first | (with_reducible assumption) | assumption)
                        obtain ⟨go25, co25, eo25, gb25, gl25, cl25, HG25⟩ := Kd.R_form HO_12.out (by omega)
                        (first | cases eo25 | (injection eo25 with ea_ en_ ec_; (first | subst ea_ | (injection ea_ with ea_; subst ea_)); subst ec_; clear en_))
                        have GB25 := Aside0.mk gb25
                        have GG25 := Aside0.mk HG25
                        clear gb25 gl25 HG25
                        obtain ⟨ce25, hcl25, hM25, hcc25, hfr25⟩ := Kd.R_elem HO_12.out z37 (t166 : Int) p25 q25
                        obtain rfl := k37_openM hM25
                        have hx25_0 : wc.cell? ⟨go25, (t166 : Int).toNat * 3, none⟩ = some (.int .i64 ((rd_T37 t168 t166).f0)) := hcc25 0 _ rfl
                        have hx25_1 : wc.cell? ⟨go25, (t166 : Int).toNat * 3 + 1, none⟩ = some (.int .i64 ((rd_T37 t168 t166).f1)) := hcc25 1 _ rfl
                        have hx25_2 : wc.cell? ⟨go25, (t166 : Int).toNat * 3 + 2, none⟩ = some (.int .i64 ((rd_T37 t168 t166).f2)) := hcc25 2 _ rfl
                        have hf25_0 : wc.frozen? ⟨go25, (t166 : Int).toNat * 3, none⟩ = false := hfr25 0
                        have hf25_1 : wc.frozen? ⟨go25, (t166 : Int).toNat * 3 + 1, none⟩ = false := hfr25 1
                        have hf25_2 : wc.frozen? ⟨go25, (t166 : Int).toNat * 3 + 2, none⟩ = false := hfr25 2
                        clear hcl25 hcc25 hfr25 hM25
                        replace p25 := eq_true p25
                        replace q25 := eq_true q25
                        have HX33 := Aside0.mk (show Kd.R k37 37 wc w.heap.size (fun k_ => k_ ≠ gb171) (.slice (some ⟨go25, 0, none⟩) t168.length co25) t168 from (by (with_reducible repeat (first | apply Kd.R_alloc | apply Kd.R_drewN | apply Kd.R_drew)); exact HO_12.out))
                        obtain ⟨ce33, hcl33, hM33, hcc33, hfr33⟩ := Kd.R_elem HX33.out z37 (t166 : Int) (of_decide_eq_true (by first | (with_reducible assumption) | assumption)) (by have h_ : (t166 : Int) < ((t168.length : Int) : Int) := of_decide_eq_true (by first | (with_reducible assumption) | assumption); first | exact h_ | (have e_ := (Kd.R_reads' HO_12.out).1; omega) | simpa using h_)
                        obtain rfl := k37_openM hM33
                        have HP33 := Kd.R_seg HX33.out (t166 : Int) (of_decide_eq_true (by first | (with_reducible assumption) | assumption)) (by have h_ : (t166 : Int) < ((t168.length : Int) : Int) := of_decide_eq_true (by first | (with_reducible assumption) | assumption); first | exact h_ | (have e_ := (Kd.R_reads' HO_12.out).1; omega) | simpa using h_) (seg := [.int .i64 a1, .int .i64 (wrap64 (t164 - 1)), .int .i64 a2]) (j := 0) hcl33 hcc33 (show 3 ≤ 3 from by decide) (x' := (⟨a1, (wrap64 (t164 - 1)), a2⟩ : S37)) (k37_mkM _ _ _ (⟨a1, (wrap64 (t164 - 1)), a2⟩ : S37) ) (fun _ hk => hk)
                        have hx33_0 := hcc33 0 _ rfl
                        (try simp only [show (k37).sz = 3 from rfl, Nat.mul_one, Nat.add_zero] at hx33_0)
                        have hf33_0 := hfr33 0
                        (try simp only [show (k37).sz = 3 from rfl, Nat.mul_one, Nat.add_zero] at hf33_0)
                        have hx33_1 := hcc33 1 _ rfl
                        (try simp only [show (k37).sz = 3 from rfl, Nat.mul_one, Nat.add_zero] at hx33_1)
                        have hf33_1 := hfr33 1
                        (try simp only [show (k37).sz = 3 from rfl, Nat.mul_one, Nat.add_zero] at hf33_1)
                        have hx33_2 := hcc33 2 _ rfl
                        (try simp only [show (k37).sz = 3 from rfl, Nat.mul_one, Nat.add_zero] at hx33_2)
                        have hf33_2 := hfr33 2
                        (try simp only [show (k37).sz = 3 from rfl, Nat.mul_one, Nat.add_zero] at hf33_2)
                        clear hcl33 hcc33 hfr33 hM33
                        go_wp2_with (first | ((with_reducible refine gate_store (t := 37) (p := 63) rfl ?_); refine store_event (t := 37) (p := 63) (v := ?vo_w34) (w1 := (((wc.setCell ⟨go25, (t166 : Int).toNat * 3, none⟩ (.int .i64 a1)).setCell ⟨go25, (t166 : Int).toNat * 3 + 1, none⟩ (.int .i64 (wrap64 (t164 - 1)))).setCell ⟨go25, (t166 : Int).toNat * 3 + 2, none⟩ (.int .i64 a2))) ?hg ?ho ?hn ?hr ?_; (case ho => rfl); (case hg => rfl); (case hn => rfl); (case hr => first | (go_simp; done) | (go_simp; rfl)); intro w34 hw; have hg : wc.grownBy w34 (some go25) := (by rw [hw]; exact HP33.2); have hp_ : Kd.R k37 37 w34 w.heap.size (fun k_ => k_ ≠ gb171) (.slice (some ⟨go25, 0, none⟩) t168.length co25) y173 := (by rw [hw, Ny173.out]; exact HP33.1); clear HP33; have n0_ := Aside0.mk (hp_); have n1_ := Aside0.mk (blk_grown (g := gb171) (o := .cells #[.int .i64 a1, .int .i64 (wrap64 (t164 - 1)), .int .i64 a2] 37 (0, 0)) (by (with_reducible repeat (first | refine blk_drewN ?_ _ | refine blk_drew ?_ | refine blk_alloc ?_ _)); exact BK171.out) hg (Kd.R_away HO_12.out (fun _ hk => hk))); have n2_ := Aside0.mk ((by rw [hw]; exact below_set (below_set (below_set (HB.out) GB25.out) GB25.out) GB25.out : Below w.heap.size w w34)); clear HO_12; clear BK171; clear HB; have HO_12 := n0_; have BK171 := n1_; have HB := n2_; clear n0_ n1_ n2_; clear hg hw hp_) | ((with_reducible refine gate_callee (f := 19) rfl ?_); refine goesL_ (some 65) rfl rfl Try.func19 (by kernel_rfl) rfl #[.slice (some ⟨go25, 0, none⟩) y173.length co25] rfl (by (try simp only [List.map_toArray, List.map_cons, List.map_nil]); first | done | (rw [show y173.length = t168.length from (Kd.R_reads' HO_12.out).1.symm] <;> rfl) | rfl | (simp only [List.length_drop, List.length_take]; rfl)) ?_; (with_reducible refine (impl_ValidBuckets.calls kj11 _ _ y173 false _ ?side1 ?side2 A26.out).mono ?_); (case side1 => repeat (first | exact (Kd.R_reads' HO_12.out).2.2 | (with_reducible refine Kd.C_alloc ?_ _) | (with_reducible refine Kd.C_drewN ?_ _) | (with_reducible refine Kd.C_drew ?_))); (case side2 => rw [show y173.length = t168.length from (Kd.R_reads' HO_12.out).1.symm]; exact (Kd.R_reads' HO_12.out).2.1); rintro e w35 ⟨rfl, hb⟩; refine ⟨_, rfl, ?_⟩; have n0_ := Aside0.mk (Kd.R_below (by (with_reducible repeat (first | apply Kd.R_alloc | apply Kd.R_drewN | apply Kd.R_drew)); exact HO_12.out) hb); have n1_ := Aside0.mk (blk_below (g := gb171) (o := .cells #[.int .i64 a1, .int .i64 (wrap64 (t164 - 1)), .int .i64 a2] 37 (0, 0)) (by (with_reducible repeat (first | refine blk_drewN ?_ _ | refine blk_drew ?_ | refine blk_alloc ?_ _)); exact BK171.out) hb); have n2_ := Aside0.mk (below_step (by repeat (first | (with_reducible first | exact HB.out | apply below_alloc | apply pw_below_drewN | apply below_drew1 | refine below_set ?_ GE171.out) | exact HB.out)) hb); clear HO_12; clear BK171; clear HB; have HO_12 := n0_; have BK171 := n1_; have HB := n2_; clear n0_ n1_ n2_; (try clear hb); (try clear hb2); (try clear hk); (try clear hi)))
                        go_ret3
                        exact ⟨_, by first | rfl | (simp [errW_none, errW_some] <;> rfl) | (simp [*, errW_none, errW_some] <;> rfl), by first | exact Kd.R_nil _ _ _ _ _ | exact Kd.N_nil _ _ _ _ _ | exact Kd.V_nil _ _ _ _ _ | exact Kd.Q_nil _ _ _ _ _ | exact Kd.S_nil _ _ _ _ _, by repeat (first | (with_reducible first | exact HB.out | apply below_alloc | apply pw_below_drewN | apply below_drew1 | refine below_set ?_ GE171.out) | exact HB.out)⟩
                    · rw [if_neg c24] at H
                      exact absurd H (by simp)
                  · rw [if_neg c23] at H
                    exact absurd H (by simp)
                · replace c22 := Bool.eq_false_iff.mpr c22
                  subst c22
                  have H1 : ((impl_Bucket_51.f t168 t166 (([(⟨a1, (wrap64 (t164 - 1)), a2⟩ : S37)] : List (S37)))).bind fun t178 => ((impl_ValidBuckets.f kj11 t178).bind fun t181 => (if t181 = true then (some (t178, true, true)) else (some (([] : List (S37)), false, false))))) = some (r1, r2, r3) := by rw [if_neg (show ¬ (false = true) by decide)] at H; exact H
                  clear H
                  have H := H1
                  clear H1
                  obtain ⟨y175, hy175⟩ : ∃ y_ : List (S37), y_ = (([(⟨a1, (wrap64 (t164 - 1)), a2⟩ : S37)] : List (S37))) := ⟨_, rfl⟩
                  replace H : ((impl_Bucket_51.f t168 t166 y175).bind fun t178 => ((impl_ValidBuckets.f kj11 t178).bind fun t181 => (if t181 = true then (some (t178, true, true)) else (some (([] : List (S37)), false, false))))) = some (r1, r2, r3) := by first | (rw [hy175]; with_reducible exact H) | (have H2_ := (Option.bind_some _ _).symm.trans H; rw [hy175]; with_reducible exact H2_) | (have H2_ := (Option.bind_some _ _).symm.trans H; with_reducible exact H2_) | with_reducible exact H | (rw [hy175]; exact H) | exact H
                  have Ny175 := Aside0.mk hy175
                  clear hy175
                  replace H := Option.bind_eq_some_iff.mp H
                  obtain ⟨t178, A360, H⟩ := H
                  replace H : ((impl_ValidBuckets.f kj11 t178).bind fun t181 => (if t181 = true then (some (t178, true, true)) else (some (([] : List (S37)), false, false)))) = some (r1, r2, r3) := H
                  have A36 := Aside0.mk A360
                  clear A360
                  replace H := Option.bind_eq_some_iff.mp H
                  obtain ⟨t181, A370, H⟩ := H
                  replace H : (if t181 = true then (some (t178, true, true)) else (some (([] : List (S37)), false, false))) = some (r1, r2, r3) := H
                  have A37 := Aside0.mk A370
                  clear A370
                  by_cases c38 : t181 = true
                  · subst c38
                    have H1 : (some (t178, true, true)) = some (r1, r2, r3) := by rw [if_pos rfl] at H; exact H
                    clear H
                    have H := H1
                    clear H1
                    simp only [Option.some.injEq, Prod.mk.injEq] at H
                    obtain ⟨rfl, rfl, rfl⟩ := H
                    have hcz39_0 : wc.cell? ⟨gb171, 0, none⟩ = some (.int .i64 a1) := (blk_cell BK171.out 0).trans rfl
                    have hcz39_1 : wc.cell? ⟨gb171, 1, none⟩ = some (.int .i64 (wrap64 (t164 - 1))) := (blk_cell BK171.out 1).trans rfl
                    have hcz39_2 : wc.cell? ⟨gb171, 2, none⟩ = some (.int .i64 a2) := (blk_cell BK171.out 2).trans rfl
                    have hfz39_0 := blk_frozen BK171.out 0
                    have hfz39_1 := blk_frozen BK171.out 1
                    have hfz39_2 := blk_frozen BK171.out 2
                    go_wp2_with (first | ((with_reducible refine gate_dst (N := 41) rfl ?_); refine Kd.R_lit k37 _ 37 ?hg (N := 41) ?hd (xs := ([(⟨a1, (wrap64 (t164 - 1)), a2⟩ : S37)] : List (S37))) (inner := [.int .i64 a1, .int .i64 (wrap64 (t164 - 1)), .int .i64 a2]) (ok := fun _ => True) (okp := fun _ => True) ?hr ?hp (fun _ hk => hk) trivial (Below.refl _ _) (Nat.le_refl _) (by simp) ?_; (case hd => rfl); (case hg => rfl); (case hr => first | (go_simp; done) | (go_simp; rfl)); (case hp => exact (Reps.c3 (show Kd.M k37 _ _ _ (⟨a1, (wrap64 (t164 - 1)), a2⟩ : S37) [.int .i64 a1, .int .i64 (wrap64 (t164 - 1)), .int .i64 a2] from (k37_mkM _ _ _ (⟨a1, (wrap64 (t164 - 1)), a2⟩ : S37) )) (Reps.none _ _))); intro v176 w40 ho41 hb hg_ hnew_; clear hg_ hnew_; (first | rw [← Ny175.out] at ho41 | (simp only [Int.reduceToNat] at ho41; rw [← Ny175.out] at ho41)); have n0_ := Aside0.mk (Kd.R_elder' (by (with_reducible repeat (first | apply Kd.R_alloc | apply Kd.R_drewN | apply Kd.R_drew)); exact HO_12.out) (Kd.R_base ho41) hb); have n1_ := Aside0.mk (Kd.R_lower (Kd.R_newB (Kd.R_new' ho41 (Kd.R_lt (by (with_reducible repeat (first | apply Kd.R_alloc | apply Kd.R_drewN | apply Kd.R_drew)); exact HO_12.out))) (g := gb171) (o := .cells #[.int .i64 a1, .int .i64 (wrap64 (t164 - 1)), .int .i64 a2] 37 (0, 0)) (by (with_reducible repeat (first | refine blk_drewN ?_ _ | refine blk_drew ?_ | refine blk_alloc ?_ _)); exact BK171.out)) (below_size (by repeat (first | (with_reducible first | exact HB.out | apply below_alloc | apply pw_below_drewN | apply below_drew1 | refine below_set ?_ GE171.out) | exact HB.out)))); have n2_ := Aside0.mk (blk_below (g := gb171) (o := .cells #[.int .i64 a1, .int .i64 (wrap64 (t164 - 1)), .int .i64 a2] 37 (0, 0)) (by (with_reducible repeat (first | refine blk_drewN ?_ _ | refine blk_drew ?_ | refine blk_alloc ?_ _)); exact BK171.out) hb); have n3_ := Aside0.mk (below_step (by repeat (first | (with_reducible first | exact HB.out | apply below_alloc | apply pw_below_drewN | apply below_drew1 | refine below_set ?_ GE171.out) | exact HB.out)) hb); clear HO_12; clear BK171; clear HB; have HO_12 := n0_; have HO177 := n1_; have BK171 := n2_; have HB := n3_; clear n0_ n1_ n2_ n3_; clear hb ho41; obtain ⟨Ao42, co42, eo42⟩ := Kd.R_slice HO_12.out; subst eo42; obtain ⟨Ao43, co43, eo43⟩ := Kd.R_slice HO177.out; subst eo43) | ((with_reducible refine gate_callee (f := 51) rfl ?_); refine goesL_ (some 42) rfl rfl Try.func51 (by kernel_rfl) rfl #[.slice Ao42 t168.length co42, .int .i64 t166, .slice Ao43 y175.length co43] rfl (by (try simp only [List.map_toArray, List.map_cons, List.map_nil]); first | done | rfl | (simp only [List.length_drop, List.length_take]; rfl)) ?_; (with_reducible refine (impl_Bucket_51.calls (fun k_ => some k_ = (.slice Ao42 t168.length co42 : Value).ownBlock) (.slice Ao42 t168.length co42) t168 t166 _ _ y175 t178 w _ (okv := ?okv9) ?side1 ?side2 ?side3 ?side5 A36.out).mono ?_); (case side1 => repeat (first | (with_reducible first | exact HB.out | apply below_alloc | apply pw_below_drewN | apply below_drew1 | refine below_set ?_ GE171.out) | exact HB.out)); (case side2 => exact Kd.R_tight rfl HO_12.out); (case side3 => exact HO177.out); (case side5 => exact (fun k_ hk_ hs_ => (hk_.1.2) hs_)); rintro e w44 ⟨v179, rfl, ho0, hb, hkp⟩; refine ⟨_, rfl, ?_⟩; have n0_ := Aside0.mk (blk_kept (by (with_reducible repeat (first | refine blk_drewN ?_ _ | refine blk_drew ?_ | refine blk_alloc ?_ _)); exact BK171.out) hkp (fun hs_ => (fun e_ => (Kd.R_away HO_12.out (fun _ hk => hk.1)) e_) hs_)); have n1_ := Aside0.mk (Kd.R_mono (ok' := fun k_ => k_ ≠ gb171 ∧ some k_ ≠ (v179 : Value).ownBlock) (Kd.R_keptB (HO177.out) hkp (fun k_ hk_ hs_ => (hk_.1.2) hs_)) (fun k_ hk_ => ⟨hk_.1.2, fun e_ => Or.elim (ho0.1 k_ e_.symm) (fun hs_ => hk_.2.1 hs_) (fun hn_ => Nat.not_le.2 hk_.2.2 hn_)⟩)); have n2_ := Aside0.mk (Kd.R_mono (ok' := fun k_ => some k_ ≠ (.slice Ao43 y175.length co43 : Value).ownBlock ∧ k_ ≠ gb171) ho0 (fun k_ hk_ => ⟨Or.elim hk_ (fun hs_ => fun e_ => (((HO177.out).1 k_ e_.symm).1.2) hs_) (fun hn_ => (Kd.fresh' (Kd.R_lt (by (with_reducible repeat (first | apply Kd.R_alloc | apply Kd.R_drewN | apply Kd.R_drew)); exact HO177.out)) k_ hn_)), Or.elim hk_ (fun hs_ => fun e_ => (Kd.R_away HO_12.out (fun _ hk => hk.1)) (by rw [← e_]; exact hs_)) (fun hn_ => (Kd.freshB (g := gb171) (o := .cells #[.int .i64 a1, .int .i64 (wrap64 (t164 - 1)), .int .i64 a2] 37 (0, 0)) (by (with_reducible repeat (first | refine blk_drewN ?_ _ | refine blk_drew ?_ | refine blk_alloc ?_ _)); exact BK171.out) k_ hn_))⟩)); have n3_ := Aside0.mk (hb); clear BK171; clear HO177; clear HB; clear HO_12; have BK171 := n0_; have HO177 := n1_; have HO180 := n2_; have HB := n3_; clear n0_ n1_ n2_ n3_; (try clear hb); (try clear hkp); (try clear ho0); obtain ⟨Ao45, co45, eo45⟩ := Kd.R_slice HO180.out; subst eo45) | ((with_reducible refine gate_callee (f := 19) rfl ?_); refine goesL_ (some 65) rfl rfl Try.func19 (by kernel_rfl) rfl #[.slice Ao45 t178.length co45] rfl (by (try simp only [List.map_toArray, List.map_cons, List.map_nil]); first | done | rfl | (simp only [List.length_drop, List.length_take]; rfl)) ?_; (with_reducible refine (impl_ValidBuckets.calls kj11 _ _ t178 true _ ?side1 ?side2 A37.out).mono ?_); (case side1 => repeat (first | exact (Kd.R_reads' HO180.out).2.2 | (with_reducible refine Kd.C_alloc ?_ _) | (with_reducible refine Kd.C_drewN ?_ _) | (with_reducible refine Kd.C_drew ?_))); (case side2 => exact (Kd.R_reads' HO180.out).2.1); rintro e w46 ⟨rfl, hb⟩; refine ⟨_, rfl, ?_⟩; have n0_ := Aside0.mk (Kd.R_below (by (with_reducible repeat (first | apply Kd.R_alloc | apply Kd.R_drewN | apply Kd.R_drew)); exact HO177.out) hb); have n1_ := Aside0.mk (Kd.R_below (by (with_reducible repeat (first | apply Kd.R_alloc | apply Kd.R_drewN | apply Kd.R_drew)); exact HO180.out) hb); have n2_ := Aside0.mk (blk_below (g := gb171) (o := .cells #[.int .i64 a1, .int .i64 (wrap64 (t164 - 1)), .int .i64 a2] 37 (0, 0)) (by (with_reducible repeat (first | refine blk_drewN ?_ _ | refine blk_drew ?_ | refine blk_alloc ?_ _)); exact BK171.out) hb); have n3_ := Aside0.mk (below_step (by repeat (first | (with_reducible first | exact HB.out | apply below_alloc | apply pw_below_drewN | apply below_drew1 | refine below_set ?_ GE171.out) | exact HB.out)) hb); clear HO177; clear HO180; clear BK171; clear HB; have HO177 := n0_; have HO180 := n1_; have BK171 := n2_; have HB := n3_; clear n0_ n1_ n2_ n3_; (try clear hb); (try clear hb2); (try clear hk); (try clear hi)))
                    go_ret3
                    exact ⟨_, by first | rfl | (simp [errW_none, errW_some] <;> rfl) | (simp [*, errW_none, errW_some] <;> rfl), by (with_reducible repeat (first | apply Kd.R_alloc | apply Kd.R_drewN | apply Kd.R_drew)); exact Kd.R_mono HO180.out (fun _ hk => trivial), by repeat (first | (with_reducible first | exact HB.out | apply below_alloc | apply pw_below_drewN | apply below_drew1 | refine below_set ?_ GE171.out) | exact HB.out)⟩
                  · replace c38 := Bool.eq_false_iff.mpr c38
                    subst c38
                    have H1 : (some (([] : List (S37)), false, false)) = some (r1, r2, r3) := by rw [if_neg (show ¬ (false = true) by decide)] at H; exact H
                    clear H
                    have H := H1
                    clear H1
                    simp only [Option.some.injEq, Prod.mk.injEq] at H
                    obtain ⟨rfl, rfl, rfl⟩ := H
                    have hcz47_0 : wc.cell? ⟨gb171, 0, none⟩ = some (.int .i64 a1) := (blk_cell BK171.out 0).trans rfl
                    have hcz47_1 : wc.cell? ⟨gb171, 1, none⟩ = some (.int .i64 (wrap64 (t164 - 1))) := (blk_cell BK171.out 1).trans rfl
                    have hcz47_2 : wc.cell? ⟨gb171, 2, none⟩ = some (.int .i64 a2) := (blk_cell BK171.out 2).trans rfl
                    have hfz47_0 := blk_frozen BK171.out 0
                    have hfz47_1 := blk_frozen BK171.out 1
                    have hfz47_2 := blk_frozen BK171.out 2
                    go_wp2_with (first | ((with_reducible refine gate_dst (N := 41) rfl ?_); refine Kd.R_lit k37 _ 37 ?hg (N := 41) ?hd (xs := ([(⟨a1, (wrap64 (t164 - 1)), a2⟩ : S37)] : List (S37))) (inner := [.int .i64 a1, .int .i64 (wrap64 (t164 - 1)), .int .i64 a2]) (ok := fun _ => True) (okp := fun _ => True) ?hr ?hp (fun _ hk => hk) trivial (Below.refl _ _) (Nat.le_refl _) (by simp) ?_; (case hd => rfl); (case hg => rfl); (case hr => first | (go_simp; done) | (go_simp; rfl)); (case hp => exact (Reps.c3 (show Kd.M k37 _ _ _ (⟨a1, (wrap64 (t164 - 1)), a2⟩ : S37) [.int .i64 a1, .int .i64 (wrap64 (t164 - 1)), .int .i64 a2] from (k37_mkM _ _ _ (⟨a1, (wrap64 (t164 - 1)), a2⟩ : S37) )) (Reps.none _ _))); intro v176 w48 ho49 hb hg_ hnew_; clear hg_ hnew_; (first | rw [← Ny175.out] at ho49 | (simp only [Int.reduceToNat] at ho49; rw [← Ny175.out] at ho49)); have n0_ := Aside0.mk (Kd.R_elder' (by (with_reducible repeat (first | apply Kd.R_alloc | apply Kd.R_drewN | apply Kd.R_drew)); exact HO_12.out) (Kd.R_base ho49) hb); have n1_ := Aside0.mk (Kd.R_lower (Kd.R_newB (Kd.R_new' ho49 (Kd.R_lt (by (with_reducible repeat (first | apply Kd.R_alloc | apply Kd.R_drewN | apply Kd.R_drew)); exact HO_12.out))) (g := gb171) (o := .cells #[.int .i64 a1, .int .i64 (wrap64 (t164 - 1)), .int .i64 a2] 37 (0, 0)) (by (with_reducible repeat (first | refine blk_drewN ?_ _ | refine blk_drew ?_ | refine blk_alloc ?_ _)); exact BK171.out)) (below_size (by repeat (first | (with_reducible first | exact HB.out | apply below_alloc | apply pw_below_drewN | apply below_drew1 | refine below_set ?_ GE171.out) | exact HB.out)))); have n2_ := Aside0.mk (blk_below (g := gb171) (o := .cells #[.int .i64 a1, .int .i64 (wrap64 (t164 - 1)), .int .i64 a2] 37 (0, 0)) (by (with_reducible repeat (first | refine blk_drewN ?_ _ | refine blk_drew ?_ | refine blk_alloc ?_ _)); exact BK171.out) hb); have n3_ := Aside0.mk (below_step (by repeat (first | (with_reducible first | exact HB.out | apply below_alloc | apply pw_below_drewN | apply below_drew1 | refine below_set ?_ GE171.out) | exact HB.out)) hb); clear HO_12; clear BK171; clear HB; have HO_12 := n0_; have HO177 := n1_; have BK171 := n2_; have HB := n3_; clear n0_ n1_ n2_ n3_; clear hb ho49; obtain ⟨Ao50, co50, eo50⟩ := Kd.R_slice HO_12.out; subst eo50; obtain ⟨Ao51, co51, eo51⟩ := Kd.R_slice HO177.out; subst eo51) | ((with_reducible refine gate_callee (f := 51) rfl ?_); refine goesL_ (some 42) rfl rfl Try.func51 (by kernel_rfl) rfl #[.slice Ao50 t168.length co50, .int .i64 t166, .slice Ao51 y175.length co51] rfl (by (try simp only [List.map_toArray, List.map_cons, List.map_nil]); first | done | rfl | (simp only [List.length_drop, List.length_take]; rfl)) ?_; (with_reducible refine (impl_Bucket_51.calls (fun k_ => some k_ = (.slice Ao50 t168.length co50 : Value).ownBlock) (.slice Ao50 t168.length co50) t168 t166 _ _ y175 t178 w _ (okv := ?okv10) ?side1 ?side2 ?side3 ?side5 A36.out).mono ?_); (case side1 => repeat (first | (with_reducible first | exact HB.out | apply below_alloc | apply pw_below_drewN | apply below_drew1 | refine below_set ?_ GE171.out) | exact HB.out)); (case side2 => exact Kd.R_tight rfl HO_12.out); (case side3 => exact HO177.out); (case side5 => exact (fun k_ hk_ hs_ => (hk_.1.2) hs_)); rintro e w52 ⟨v179, rfl, ho0, hb, hkp⟩; refine ⟨_, rfl, ?_⟩; have n0_ := Aside0.mk (blk_kept (by (with_reducible repeat (first | refine blk_drewN ?_ _ | refine blk_drew ?_ | refine blk_alloc ?_ _)); exact BK171.out) hkp (fun hs_ => (fun e_ => (Kd.R_away HO_12.out (fun _ hk => hk.1)) e_) hs_)); have n1_ := Aside0.mk (Kd.R_mono (ok' := fun k_ => k_ ≠ gb171 ∧ some k_ ≠ (v179 : Value).ownBlock) (Kd.R_keptB (HO177.out) hkp (fun k_ hk_ hs_ => (hk_.1.2) hs_)) (fun k_ hk_ => ⟨hk_.1.2, fun e_ => Or.elim (ho0.1 k_ e_.symm) (fun hs_ => hk_.2.1 hs_) (fun hn_ => Nat.not_le.2 hk_.2.2 hn_)⟩)); have n2_ := Aside0.mk (Kd.R_mono (ok' := fun k_ => some k_ ≠ (.slice Ao51 y175.length co51 : Value).ownBlock ∧ k_ ≠ gb171) ho0 (fun k_ hk_ => ⟨Or.elim hk_ (fun hs_ => fun e_ => (((HO177.out).1 k_ e_.symm).1.2) hs_) (fun hn_ => (Kd.fresh' (Kd.R_lt (by (with_reducible repeat (first | apply Kd.R_alloc | apply Kd.R_drewN | apply Kd.R_drew)); exact HO177.out)) k_ hn_)), Or.elim hk_ (fun hs_ => fun e_ => (Kd.R_away HO_12.out (fun _ hk => hk.1)) (by rw [← e_]; exact hs_)) (fun hn_ => (Kd.freshB (g := gb171) (o := .cells #[.int .i64 a1, .int .i64 (wrap64 (t164 - 1)), .int .i64 a2] 37 (0, 0)) (by (with_reducible repeat (first | refine blk_drewN ?_ _ | refine blk_drew ?_ | refine blk_alloc ?_ _)); exact BK171.out) k_ hn_))⟩)); have n3_ := Aside0.mk (hb); clear BK171; clear HO177; clear HB; clear HO_12; have BK171 := n0_; have HO177 := n1_; have HO180 := n2_; have HB := n3_; clear n0_ n1_ n2_ n3_; (try clear hb); (try clear hkp); (try clear ho0); obtain ⟨Ao53, co53, eo53⟩ := Kd.R_slice HO180.out; subst eo53) | ((with_reducible refine gate_callee (f := 19) rfl ?_); refine goesL_ (some 65) rfl rfl Try.func19 (by kernel_rfl) rfl #[.slice Ao53 t178.length co53] rfl (by (try simp only [List.map_toArray, List.map_cons, List.map_nil]); first | done | rfl | (simp only [List.length_drop, List.length_take]; rfl)) ?_; (with_reducible refine (impl_ValidBuckets.calls kj11 _ _ t178 false _ ?side1 ?side2 A37.out).mono ?_); (case side1 => repeat (first | exact (Kd.R_reads' HO180.out).2.2 | (with_reducible refine Kd.C_alloc ?_ _) | (with_reducible refine Kd.C_drewN ?_ _) | (with_reducible refine Kd.C_drew ?_))); (case side2 => exact (Kd.R_reads' HO180.out).2.1); rintro e w54 ⟨rfl, hb⟩; refine ⟨_, rfl, ?_⟩; have n0_ := Aside0.mk (Kd.R_below (by (with_reducible repeat (first | apply Kd.R_alloc | apply Kd.R_drewN | apply Kd.R_drew)); exact HO177.out) hb); have n1_ := Aside0.mk (Kd.R_below (by (with_reducible repeat (first | apply Kd.R_alloc | apply Kd.R_drewN | apply Kd.R_drew)); exact HO180.out) hb); have n2_ := Aside0.mk (blk_below (g := gb171) (o := .cells #[.int .i64 a1, .int .i64 (wrap64 (t164 - 1)), .int .i64 a2] 37 (0, 0)) (by (with_reducible repeat (first | refine blk_drewN ?_ _ | refine blk_drew ?_ | refine blk_alloc ?_ _)); exact BK171.out) hb); have n3_ := Aside0.mk (below_step (by repeat (first | (with_reducible first | exact HB.out | apply below_alloc | apply pw_below_drewN | apply below_drew1 | refine below_set ?_ GE171.out) | exact HB.out)) hb); clear HO177; clear HO180; clear BK171; clear HB; have HO177 := n0_; have HO180 := n1_; have BK171 := n2_; have HB := n3_; clear n0_ n1_ n2_ n3_; (try clear hb); (try clear hb2); (try clear hk); (try clear hi)))
                    go_ret3
                    exact ⟨_, by first | rfl | (simp [errW_none, errW_some] <;> rfl) | (simp [*, errW_none, errW_some] <;> rfl), by first | exact Kd.R_nil _ _ _ _ _ | exact Kd.N_nil _ _ _ _ _ | exact Kd.V_nil _ _ _ _ _ | exact Kd.Q_nil _ _ _ _ _ | exact Kd.S_nil _ _ _ _ _, by repeat (first | (with_reducible first | exact HB.out | apply below_alloc | apply pw_below_drewN | apply below_drew1 | refine below_set ?_ GE171.out) | exact HB.out)⟩

/-! ### spec_inRange: function 52 -/
def spec_inRange.f (a0 : Int) (a1 : Int) (a2 : Int) : Option (Bool) := if a1 ≤ a0 then (some (decide (a0 ≤ a2))) else (some false)
set_option maxHeartbeats 8000000 in
set_option maxRecDepth 100000 in
theorem spec_inRange.calls (a0 : Int) (a1 : Int) (a2 : Int) (r : Bool) (w : World) (h : spec_inRange.f a0 a1 a2 = some r) :
    Calls Try.prog 52 #[.int .i64 a0, .int .i64 a1, .int .i64 a2] w fun e w' => e = .returned (.bool r) ∧ Drawn0 w w' := by
  have H : (if a1 ≤ a0 then (some (decide (a0 ≤ a2))) else (some false)) = some r := h
  clear h
  by_cases c4 : a1 ≤ a0
  · rw [if_pos c4] at H
    have c4b0 : decide (a1 ≤ a0) = true := decide_eq_true c4
    clear c4
    obtain rfl := Option.some.inj H
    go_enter Try.func52, Try.ntmps52
    go_wp2
    go_ret
    exact ⟨by first | rfl | (simp; done) | (simp [*]; done), by repeat (first | exact Drawn0.refl _ | apply Drawn0.step)⟩
  · rw [if_neg c4] at H
    have c4b0 : decide (a1 ≤ a0) = false := decide_eq_false c4
    clear c4
    obtain rfl := Option.some.inj H
    go_enter Try.func52, Try.ntmps52
    go_wp2
    go_ret
    exact ⟨by first | rfl | (simp; done) | (simp [*]; done), by repeat (first | exact Drawn0.refl _ | apply Drawn0.step)⟩

/-! ### spec_validTime: function 41 -/
def spec_validTime.f (a0 : Int) : Option (Bool) := (spec_inRange.f a0 0 3786479999).bind fun t182 => (some t182)
set_option maxHeartbeats 8000000 in
set_option maxRecDepth 100000 in
theorem spec_validTime.calls (a0 : Int) (r : Bool) (w : World) (h : spec_validTime.f a0 = some r) :
    Calls Try.prog 41 #[.int .i64 a0] w fun e w' => e = .returned (.bool r) ∧ Drawn0 w w' := by
  have H : ((spec_inRange.f a0 0 3786479999).bind fun t182 => (some t182)) = some r := h
  clear h
  replace H := Option.bind_eq_some_iff.mp H
  obtain ⟨t182, A20, H⟩ := H
  replace H : (some t182) = some r := H
  have A2 := Aside0.mk A20
  clear A20
  obtain rfl := Option.some.inj H
  go_enter Try.func41, Try.ntmps41
  go_wp2_with (first | ((with_reducible refine gate_callee (f := 52) rfl ?_); refine goesL_ (some 4) rfl rfl Try.func52 (by kernel_rfl) rfl #[.int .i64 a0, .int .i64 0, .int .i64 3786479999] rfl (by (try simp only [List.map_toArray, List.map_cons, List.map_nil]); first | done | rfl | (simp only [List.length_drop, List.length_take]; rfl)) ?_; (with_reducible refine (spec_inRange.calls a0 0 3786479999 t182 _ A2.out).mono ?_); rintro e w' ⟨rfl, ⟨nd, rfl⟩⟩; refine ⟨_, rfl, ?_⟩))
  go_ret
  exact ⟨by first | rfl | (simp; done) | (simp [*]; done), by repeat (first | exact Drawn0.refl _ | apply Drawn0.step)⟩

end Go.Proofs.Ytjhioifohbpdhaa.PFnExactTakeToken
