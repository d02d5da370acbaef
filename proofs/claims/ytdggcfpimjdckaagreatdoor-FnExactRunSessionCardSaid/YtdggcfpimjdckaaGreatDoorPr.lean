/- The plain law of FnExactRunSession: for all lines the law's function answers true; its premises are what every slice of texts in memory meets. -/
import Derived.Test.YtdggcfpimjdckaaGreatDoorPFnExactRunSessionx12
namespace Go.Proofs.YtdggcfpimjdckaaGreatDoor.Pure
open Go Go.RowKit Go.Proofs.YtdggcfpimjdckaaGreatDoor.PFnExactRunSession Go.Proofs.YtdggcfpimjdckaaGreatDoorW.PrintWords Go.Proofs.YtdggcfpimjdckaaGreatDoorW.PrintLast Go.Proofs.YtdggcfpimjdckaaGreatDoorW.PrintMore
theorem rdS_at (l : List ByteArray) (i : Nat) (h : i < l.length) : rdOf ByteArray.empty l (i : Int) = l[i] := by unfold rdOf; simp [List.getD_eq_getElem?_getD, h]
theorem sz_l (l : List ByteArray) (hl : l.length ≤ 1048576) (hx : ∀ x ∈ l, x.size ≤ 9223372036854775807) : ∀ (n i k : Nat) (m : Int), i + n = l.length → n < k → 0 ≤ m → m ≤ 1048576 →
    laws_szStringS.l0 k l m (i : Int) = some (-1) ∨ ∃ r, laws_szStringS.l0 k l m (i : Int) = some r ∧ 0 ≤ r ∧ ∀ x ∈ l.drop i, x.size ≤ 1048576 := by
  intro n
  induction n with
  | zero =>
    intro i k m h hk h0 h1
    obtain ⟨k, rfl⟩ : ∃ m, k = m + 1 := ⟨k - 1, by omega⟩
    right
    refine ⟨m, ?_, h0, ?_⟩
    · simp only [laws_szStringS.l0]
      rw [if_neg (by omega)]
    · rw [List.drop_eq_nil_of_le (by omega)]
      intro x hx; cases hx
  | succ n ih =>
    intro i k m h hk h0 h1
    obtain ⟨k, rfl⟩ : ∃ m, k = m + 1 := ⟨k - 1, by omega⟩
    have hs := hx (l[i]'(by omega)) (List.getElem_mem _)
    simp only [laws_szStringS.l0]
    rw [if_pos (by omega), if_pos (by omega), rdS_at l i (by omega), w64 (x := m - (l[i]'(by omega)).size) (by omega) (by omega)]
    by_cases hn : m - ((l[i]'(by omega)).size : Int) < 0
    · left; rw [if_pos hn]
    · rw [if_neg hn, w64 (x := (i : Int) + 1) (by omega) (by omega)]
      rcases ih (i + 1) k (m - ((l[i]'(by omega)).size : Int)) (by omega) (by omega) (by omega) (by omega) with h' | ⟨r, h', hr, hd⟩
      · left; exact h'
      · right
        refine ⟨r, h', hr, ?_⟩
        rw [List.drop_eq_getElem_cons (by omega)]
        intro x hx
        rcases List.mem_cons.1 hx with rfl | hx
        · omega
        · exact hd x hx
theorem to_l (l : List ByteArray) (hl : l.length ≤ 1048576) : ∀ (n i k : Nat), i + n = l.length → n < k → laws_toStringS.l0 k l (l.take i ++ List.replicate n (⟨#[]⟩ : ByteArray)) (i : Int) = some l := by
  intro n
  induction n with
  | zero =>
    intro i k h hk
    obtain ⟨k, rfl⟩ : ∃ m, k = m + 1 := ⟨k - 1, by omega⟩
    simp only [laws_toStringS.l0]
    rw [if_neg (by omega), List.take_of_length_le (by omega)]
    simp
  | succ n ih =>
    intro i k h hk
    obtain ⟨k, rfl⟩ : ∃ m, k = m + 1 := ⟨k - 1, by omega⟩
    have e := ih (i + 1) k (by omega) (by omega)
    have hlt : (l.take i).length = i := by rw [List.length_take]; omega
    simp only [laws_toStringS.l0]
    rw [if_pos (by omega), if_pos (by omega), if_pos (by rw [List.length_append, hlt, List.length_replicate]; omega), rdS_at l i (by omega), w64 (x := (i : Int) + 1) (by omega) (by omega), Int.toNat_natCast]
    have e2 : (l.take i ++ List.replicate (n + 1) (⟨#[]⟩ : ByteArray)).set i (l[i]'(by omega)) = l.take (i + 1) ++ List.replicate n (⟨#[]⟩ : ByteArray) := by
      rw [List.set_append_right _ _ (by omega), hlt, Nat.sub_self, List.replicate_succ, List.set_cons_zero, List.take_succ_eq_append_getElem (by omega), List.append_assoc]
      rfl
    rw [e2]
    exact e
theorem eq_l (l : List ByteArray) (hl : l.length ≤ 1048576) : ∀ (n i k : Nat), i + n = l.length → n < k → laws_eqStringS.l0 k l l (i : Int) = some true := by
  intro n
  induction n with
  | zero =>
    intro i k h hk
    obtain ⟨k, rfl⟩ : ∃ m, k = m + 1 := ⟨k - 1, by omega⟩
    simp only [laws_eqStringS.l0]
    rw [if_neg (by omega)]
  | succ n ih =>
    intro i k h hk
    obtain ⟨k, rfl⟩ : ∃ m, k = m + 1 := ⟨k - 1, by omega⟩
    simp only [laws_eqStringS.l0]
    rw [if_pos (by omega), if_pos (by omega), if_pos (by omega), if_pos trivial, w64 (x := (i : Int) + 1) (by omega) (by omega)]
    exact ih (i + 1) k (by omega) (by omega)
theorem FnExactRunSession (l : List ByteArray) (hl : l.length ≤ 9223372036854775807) (hx : ∀ x ∈ l, x.size ≤ 9223372036854775807) : ∃ k, laws_FnExactRunSession.f k l = some true := by
  refine ⟨l.length + 3, ?_⟩
  unfold laws_FnExactRunSession.f laws_szStringS.f
  rw [w64 (x := 1048576 - (l.length : Int)) (by omega) (by omega)]
  by_cases h0 : 1048576 - (l.length : Int) < 0
  · rw [if_pos h0, Option.bind_some, if_pos (by omega)]
  rw [if_neg h0]
  rcases sz_l l (by omega) hx l.length 0 (l.length + 3) (1048576 - (l.length : Int)) (by omega) (by omega) (by omega) (by omega) with h | ⟨r, h, hr, hd⟩
  · have h' : laws_szStringS.l0 (l.length + 3) l (1048576 - (l.length : Int)) 0 = some (-1) := h
    rw [h', Option.bind_some, if_pos (by omega)]
  have ht : laws_toStringS.f (l.length + 3) l = some l := by
    unfold laws_toStringS.f
    rw [if_pos (by omega), if_pos (by omega), Int.toNat_natCast]
    exact to_l l (by omega) l.length 0 (l.length + 3) (by omega) (by omega)
  have ha : l.all (fun x => decide (x.size ≤ 1048576)) = true := List.all_eq_true.2 fun x hx => decide_eq_true (hd x (by rw [List.drop_zero]; exact hx))
  have hs : spec_RunSession.f l = some (runC stepC Sta.zero (l.take (min l.length 20)) ⟨#[]⟩) := by unfold spec_RunSession.f; rw [if_pos ha]
  have hi : impl_RunSession.f l = some (runC stepC Sta.zero (l.take (min l.length 20)) ⟨#[]⟩) := by unfold impl_RunSession.f; rw [if_pos ha]
  have he : laws_eqStringS.f (l.length + 3) l l = some true := by
    unfold laws_eqStringS.f
    rw [if_pos rfl]
    exact eq_l l (by omega) l.length 0 (l.length + 3) (by omega) (by omega)
  have h' : laws_szStringS.l0 (l.length + 3) l (1048576 - (l.length : Int)) 0 = some r := h
  rw [h', Option.bind_some, if_neg (by omega), ht, Option.bind_some, hs, Option.bind_some, Option.bind_some, hi, Option.bind_some, if_pos rfl, Option.bind_some, he, Option.bind_some, if_pos rfl]
end Go.Proofs.YtdggcfpimjdckaaGreatDoor.Pure
