/- Chapter 16 in the reference: the graph of requests and drivers. -/
import Derived.Test.YtcaicgipibcicaaGreatQGraphE
import Derived.Test.YtcaicgipibcicaaGreatQHeldTail
import Derived.Test.YtcaicgipibcicaaGreatQRFit3
import Derived.Test.YtcaicgipibcicaaGreatQApp
import Derived.Test.YtcaicgipibcicaaGreatQWeigh2
import Derived.WalkMore
import Derived.Deep.RegionHeld3
set_option maxRecDepth 100000
set_option linter.unusedSimpArgs false
set_option linter.unusedVariables false
namespace Go.Proofs.YtcaicgipibcicaaGreat
open Go.RowKit Go.Sort
theorem aK {w:World} {H:Nat} {c:ag} (h:w.heap[H]?=some (.cells #[.int .i64 c.q,.int .i64 c.d,.int .i64 c.w,.int .i64 c.ttl,.int .i64 c.b] 23 (0,0))):w.cell? ⟨H,0,none⟩=some (.int .i64 c.q)∧w.cell? ⟨H,1,none⟩=some (.int .i64 c.d)∧w.cell? ⟨H,2,none⟩=some (.int .i64 c.w)∧w.cell? ⟨H,3,none⟩=some (.int .i64 c.ttl)∧w.cell? ⟨H,4,none⟩=some (.int .i64 c.b):=by
 refine ⟨?_,?_,?_,?_,?_⟩ <;> rw [cell_of_row w H _ _ _ (0,0) h] <;> rfl
end Go.Proofs.YtcaicgipibcicaaGreat
