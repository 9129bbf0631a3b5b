/- A part of a slice of bytes. -/
import Derived.Test.YtcaicgipibcicaaGreatQRdPl
set_option maxRecDepth 100000
set_option linter.unusedSimpArgs false
set_option linter.unusedVariables false
namespace Go.Proofs.YtcaicgipibcicaaGreat
open Go.RowKit Go.Sort
theorem lU (l:List Int):∀ n:Nat,cellsOf ah (l.drop n)=(cellsOf ah l).drop n:=by
 induction l with
 | nil=>intro n;simp [cellsOf]
 | cons x l ih=>
   intro n;cases n with
   | zero=>rfl
   | succ n=>simpa [cellsOf,ah] using ih n
theorem fZ (l:List Int):∀ n:Nat,cellsOf ah (l.take n)=(cellsOf ah l).take n:=by
 induction l with
 | nil=>intro n;simp [cellsOf]
 | cons x l ih=>
   intro n;cases n with
   | zero=>rfl
   | succ n=>simpa [cellsOf,ah] using ih n
end Go.Proofs.YtcaicgipibcicaaGreat
