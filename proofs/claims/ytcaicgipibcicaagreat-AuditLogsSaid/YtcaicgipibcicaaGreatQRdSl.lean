/- A part of a slice of bytes. -/
import Derived.Test.YtcaicgipibcicaaGreatQRdPl
set_option maxRecDepth 100000
set_option linter.unusedSimpArgs false
set_option linter.unusedVariables false
namespace Go.Proofs.YtcaicgipibcicaaGreat
open Go.RowKit Go.Sort
theorem eB (l:List Int):∀ n:Nat,cellsOf ai (l.drop n)=(cellsOf ai l).drop n:=by
 induction l with
 | nil=>intro n;simp [cellsOf]
 | cons x l ih=>
   intro n;cases n with
   | zero=>rfl
   | succ n=>simpa [cellsOf,ai] using ih n
theorem dM (l:List Int):∀ n:Nat,cellsOf ai (l.take n)=(cellsOf ai l).take n:=by
 induction l with
 | nil=>intro n;simp [cellsOf]
 | cons x l ih=>
   intro n;cases n with
   | zero=>rfl
   | succ n=>simpa [cellsOf,ai] using ih n
end Go.Proofs.YtcaicgipibcicaaGreat
