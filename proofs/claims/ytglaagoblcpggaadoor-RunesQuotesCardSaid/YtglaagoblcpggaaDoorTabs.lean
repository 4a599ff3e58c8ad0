/- What lies in the world: the two tables of unicode/utf8, as a premise that my contracts bear; it stays where nothing old is written. -/
import Derived.Test.YtglaagoblcpggaaDoorShU
namespace Go.Proofs.YtglaagoblcpggaaDoor.R
open Go.RowKit

def TabU (w : World) : Prop := Lib.Utf8Tabs 0 1 w
theorem TabU.below {w w' : World} (h : TabU w) (hb : Below w.heap.size w w') : TabU w' := Utf8Tabs_below h hb

/-- 's != ""' as a value: the walk's spelling and the print's. -/
theorem bne_nil_bytes (l : List UInt8) : (l != []) = !l.isEmpty := by cases l <;> rfl

end Go.Proofs.YtglaagoblcpggaaDoor.R
