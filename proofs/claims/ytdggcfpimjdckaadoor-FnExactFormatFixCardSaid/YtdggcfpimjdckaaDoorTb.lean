/- The table of powers that strconv.Itoa reads: the premise on the world that the walks carry, and that it is kept. No condition of its own. -/
import Derived.Test.YtdggcfpimjdckaaDoorShelf
import Derived.Test.YtdggcfpimjdckaaDoorRows
import Derived.Lib.AppendIntMem
namespace Go.Proofs.YtdggcfpimjdckaaDoor
open Go Go.RowKit
/-- The table's name, as the given row lists it. -/
def tabName : String := Rows.fnValidFixRow.named.headD ""
/-- The table of powers lies in the world as the program's text lays it. -/
def Tb (w : World) : Prop := Lib.TabIs Tryd.prog w tabName .u64 Lib.pow10Tab
theorem Tb.keep {w w' : World} (h : Tb w) (hb : Below w.heap.size w w') : Tb w' := Lib.tabBelow_of_tabIs h w' hb
theorem bsz (x : Array UInt8) : (⟨x⟩ : ByteArray).size = x.size := rfl
end Go.Proofs.YtdggcfpimjdckaaDoor
