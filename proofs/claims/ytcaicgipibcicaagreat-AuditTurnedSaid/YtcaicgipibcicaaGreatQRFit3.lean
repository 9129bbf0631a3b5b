/- Chapter 13 in the reference: the classes as an array. -/
import Derived.Test.YtcaicgipibcicaaGreatQApp
set_option maxRecDepth 100000
set_option linter.unusedSimpArgs false
set_option linter.unusedVariables false
namespace Go.Proofs.YtcaicgipibcicaaGreat
open Go.RowKit Go.Sort
theorem Keep.setCell (w:World) (g o:Nat) (v:Value):Keep (·=g) w (w.setCell ⟨g,o,none⟩ v):=Keep.setCells w g o [v]
theorem ae {w:World} {D:Nat} {cs:Array Value} {t:TypeId} (h:w.heap[D]?=some (.cells cs t (0,0))) (i:Nat) (v:Value):(w.setCell ⟨D,i,none⟩ v).heap[D]?=some (.cells (cs.setIfInBounds i v) t (0,0)):=heap_setCell_same w D i cs t v h
end Go.Proofs.YtcaicgipibcicaaGreat
