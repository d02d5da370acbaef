/- What the walks of the texts' laws ask of their world: the table of powers, the two errors of strconv, a number of internal/bytealg: and that it is kept; strings.Split and strconv.Atoi as these walks meet them. No condition of its own. -/
import Derived.Test.YtdggcfpimjdckaaDoorShelfB
import Derived.Test.YtdggcfpimjdckaaDoorRows
import Derived.Lib.AppendIntMem
import Derived.Lib.AtoiErrMem
import Derived.Lib.SplitLaws
namespace Go.Proofs.YtdggcfpimjdckaaDoor
open Go Go.RowKit
/-- The table's name, as the given row lists it. -/
def tabName : String := Rows.fnValidFixRow.named.headD ""
/-- The table of powers, MaxLen, ErrSyntax, ErrRange lie in the world. -/
def Tc (w : World) : Prop := Lib.TabIs Tryd.prog w tabName .u64 Lib.pow10Tab ∧ (∃ m, w.cell? ⟨0, 0, none⟩ = some (.int .i64 m)) ∧ (∃ te pe, w.cell? ⟨1, 0, none⟩ = some (.iface te pe)) ∧ ∃ te pe, w.cell? ⟨2, 0, none⟩ = some (.iface te pe)
theorem Tc.keep {w w' : World} (h : Tc w) (hb : Below w.heap.size w w') : Tc w' := by
  obtain ⟨h1, ⟨m, h2⟩, ⟨t3, p3, h3⟩, t4, p4, h4⟩ := h
  exact ⟨Lib.tabBelow_of_tabIs h1 w' hb, ⟨m, (hb.cell (World.block_lt_of_cell? w _ h2)).trans h2⟩, ⟨t3, p3, (hb.cell (World.block_lt_of_cell? w _ h3)).trans h3⟩, t4, p4, (hb.cell (World.block_lt_of_cell? w _ h4)).trans h4⟩
theorem bsz (x : Array UInt8) : (⟨x⟩ : ByteArray).size = x.size := rfl
/-- The number of a numeral. -/
def atoiN (s : ByteArray) : Option Int := match Lib.atoiAll s.data.toList with
  | .ok v => some v
  | _ => none
/-- The pieces of a text between commas. -/
def wordsOf (s sep : ByteArray) : List ByteArray := Lib.splitB sep 0 (Lib.countB s sep) s
theorem split_calls (s sep : ByteArray) (w : World) (hT : Tc w) (hs : s.size < 4294967281) (h1 : 1 ≤ sep.size) :
    Calls Tryd.prog 36 #[.string s, .string sep] w fun e w' => ∃ g, e = .returned (.slice (some ⟨g, 0, none⟩) (wordsOf s sep).length (wordsOf s sep).length) ∧ w'.heap[g]? = some (.cells ((wordsOf s sep).map Value.string).toArray 9 (0, 0)) ∧ w.heap.size ≤ g ∧ Below w.heap.size w w' := by
  obtain ⟨m, hm⟩ := hT.2.1
  refine (Tryd.strings_Split s sep m w hs hm h1).mono (fun e w' he => ?_)
  obtain ⟨rfl, rfl⟩ := he
  exact ⟨w.heap.size, by rw [show (wordsOf s sep).length = Lib.countB s sep + 1 from Lib.splitB_all sep h1 0 _ s rfl], heap_alloc_new w _, Nat.le_refl _, Below.alloc (Below.refl _ _) (Nat.le_refl _) _⟩
theorem atoi_ok (s : ByteArray) (v : Int) (w : World) (hl : s.size ≤ 281474976710656) (h : atoiN s = some v) :
    Calls Tryd.prog 37 #[.string s] w fun e w' => e = .returned (.tuple #[.int .i64 v, .nilIface]) ∧ Below w.heap.size w w' := by
  have h' : Lib.atoiAll s.data.toList = .ok v := by
    unfold atoiN at h
    split at h
    · rename_i x hx; cases h; exact hx
    · cases h
  refine (Tryd.strconv_Atoi_ok s (by omega) v h' w).mono (fun e w' he => ?_)
  obtain ⟨he, rfl | ⟨t, rfl⟩⟩ := he
  · exact ⟨he, Below.refl _ _⟩
  · exact ⟨he, Lib.bytesWorld_below w _ t⟩
theorem atoi_no (s : ByteArray) (w : World) (hT : Tc w) (hl : s.size ≤ 281474976710656) (h : atoiN s = none) :
    Calls Tryd.prog 37 #[.string s] w fun e w' => ∃ x N, e = .returned (.tuple #[.int .i64 x, .iface 86 (.pointer (some ⟨N, 0, none⟩))]) ∧ Below w.heap.size w w' := by
  obtain ⟨_, _, ⟨t3, p3, h3⟩, t4, p4, h4⟩ := hT
  cases h' : Lib.atoiAll s.data.toList with
  | ok v => unfold atoiN at h; rw [h'] at h; cases h
  | range =>
    refine (Tryd.strconv_Atoi_range s hl h' _ w h4 (.inr ⟨_, _, rfl⟩)).mono (fun e w' he => ?_)
    obtain ⟨N, he, _, _, hb⟩ := he
    exact ⟨_, N, he, hb⟩
  | _ =>
    refine (Tryd.strconv_Atoi_syntax s hl h' _ w h3 (.inr ⟨_, _, rfl⟩)).mono (fun e w' he => ?_)
    obtain ⟨N, he, _, _, hb⟩ := he
    exact ⟨_, N, he, hb⟩
end Go.Proofs.YtdggcfpimjdckaaDoor
