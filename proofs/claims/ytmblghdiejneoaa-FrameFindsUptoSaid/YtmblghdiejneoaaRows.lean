/-
  No cell of these rows narrows 'for every input' (looked for: loops, veiled, ifaces, maps, wideKeys, modest, calm, conditions, laid).
  DERIVED. THE GIVEN ROWS OF THIS SEAT. 6 by the template 'for every input the law returns true; each argument reads behind the call as it read before'; 0 by the template 'total and deterministic' (their statements: YtmblghdiejneoaaTotals.lean).
  GIVEN WITH THE SEED: the statements are not yours to turn. If you find one false, say at which input.
  Laid BY PROGRAM, IN A SANDBOX (cutbox-rows.mjs): the forced cells as the released guide's own fill.sh prints them over the translation 5b5808f7ad1d9fe8… (all of the seat's roots in one cut). By AI agents, Wed Nov 11 2026. No macro, syntax, notation, axiom, sorry.
-/
import Derived.Test.YtmblghdiejneoaaChecked
import GoSem.Claim
import GoSem.ClaimJoined
import GoSem.ClaimMapViews
import Derived.JoinedTies
import Derived.KernelRfl
namespace Go.Proofs.Ytmblghdiejneoaa
/- THE CELL 'sum', in the pinned program and in every row, IS THE sha256 OF THE DUMP (.gsa) THAT YtmblghdiejneoaaProg.lean LOADS. Nothing in Lean hashes anything: it is a label: what it is worth is what the hold of that sum in a sandbox is worth. -/
noncomputable def Try.pinned : Pinned := { name := "ytmblghdiejneoaa", sum := "5b5808f7ad1d9fe8783cd7f52583ce179c292e7284ec07723ffd66309832d70e", checked := Try.checked }
namespace Rows
def none {H : Type} : Left H := { results := [], args := [] }

/-- 'cabstandlaw03.FramePacks': WHATEVER THE INPUT: true; the input reads as it did. -/
def framePacksSpec : ChangeSpec := { name := "framePacks", fn := fun _ => fun
  | [d] => { results := [.lit (.bool true)], args := [d] }
  | _ => none }
def framePacksRow : OpenClaim := { program := "ytmblghdiejneoaa", sum := "5b5808f7ad1d9fe8783cd7f52583ce179c292e7284ec07723ffd66309832d70e", func := "cabstand/cabstandlaw03.FramePacks", spec := "framePacks", unfollowed := true, recurses := true, apart := false }
def FramePacksSaid : Prop := framePacksRow.holds Try.pinned (OpenSpec.ofChange framePacksSpec)

/-- ITS FALSE NEIGHBOUR: 'it returns false'. Refute it at one input. -/
def framePacksWrong : ChangeSpec := { name := "framePacks", fn := fun _ => fun
  | [d] => { results := [.lit (.bool false)], args := [d] }
  | _ => none }
def FramePacksWrongFalsely : Prop := framePacksRow.holds Try.pinned (OpenSpec.ofChange framePacksWrong)

/-- 'cabstandlaw03.FrameCovers': WHATEVER THE INPUT: true; the input reads as it did. -/
def frameCoversSpec : ChangeSpec := { name := "frameCovers", fn := fun _ => fun
  | [d] => { results := [.lit (.bool true)], args := [d] }
  | _ => none }
def frameCoversRow : OpenClaim := { program := "ytmblghdiejneoaa", sum := "5b5808f7ad1d9fe8783cd7f52583ce179c292e7284ec07723ffd66309832d70e", func := "cabstand/cabstandlaw03.FrameCovers", spec := "frameCovers", unfollowed := true, recurses := true, apart := false }
def FrameCoversSaid : Prop := frameCoversRow.holds Try.pinned (OpenSpec.ofChange frameCoversSpec)

/-- ITS FALSE NEIGHBOUR: 'it returns false'. Refute it at one input. -/
def frameCoversWrong : ChangeSpec := { name := "frameCovers", fn := fun _ => fun
  | [d] => { results := [.lit (.bool false)], args := [d] }
  | _ => none }
def FrameCoversWrongFalsely : Prop := frameCoversRow.holds Try.pinned (OpenSpec.ofChange frameCoversWrong)

/-- 'cabstandlaw03.FrameFinds': WHATEVER THE INPUT: true; the input reads as it did. -/
def frameFindsSpec : ChangeSpec := { name := "frameFinds", fn := fun _ => fun
  | [d1, d2] => { results := [.lit (.bool true)], args := [d1, d2] }
  | _ => none }
def frameFindsRow : OpenClaim := { program := "ytmblghdiejneoaa", sum := "5b5808f7ad1d9fe8783cd7f52583ce179c292e7284ec07723ffd66309832d70e", func := "cabstand/cabstandlaw03.FrameFinds", spec := "frameFinds", unfollowed := true, recurses := true, apart := false }
def FrameFindsSaid : Prop := frameFindsRow.holds Try.pinned (OpenSpec.ofChange frameFindsSpec)

/-- ITS FALSE NEIGHBOUR: 'it returns false'. Refute it at one input. -/
def frameFindsWrong : ChangeSpec := { name := "frameFinds", fn := fun _ => fun
  | [d1, d2] => { results := [.lit (.bool false)], args := [d1, d2] }
  | _ => none }
def FrameFindsWrongFalsely : Prop := frameFindsRow.holds Try.pinned (OpenSpec.ofChange frameFindsWrong)

/-- 'cabstandlaw03.FrameCuts': WHATEVER THE INPUT: true; the input reads as it did. -/
def frameCutsSpec : ChangeSpec := { name := "frameCuts", fn := fun _ => fun
  | [d1, d2] => { results := [.lit (.bool true)], args := [d1, d2] }
  | _ => none }
def frameCutsRow : OpenClaim := { program := "ytmblghdiejneoaa", sum := "5b5808f7ad1d9fe8783cd7f52583ce179c292e7284ec07723ffd66309832d70e", func := "cabstand/cabstandlaw03.FrameCuts", spec := "frameCuts", unfollowed := true, recurses := true, apart := false }
def FrameCutsSaid : Prop := frameCutsRow.holds Try.pinned (OpenSpec.ofChange frameCutsSpec)

/-- ITS FALSE NEIGHBOUR: 'it returns false'. Refute it at one input. -/
def frameCutsWrong : ChangeSpec := { name := "frameCuts", fn := fun _ => fun
  | [d1, d2] => { results := [.lit (.bool false)], args := [d1, d2] }
  | _ => none }
def FrameCutsWrongFalsely : Prop := frameCutsRow.holds Try.pinned (OpenSpec.ofChange frameCutsWrong)

/-- 'cabstandlaw03.FrameNone': WHATEVER THE INPUT: true; the input reads as it did. -/
def frameNoneSpec : ChangeSpec := { name := "frameNone", fn := fun _ => fun
  | [d] => { results := [.lit (.bool true)], args := [d] }
  | _ => none }
def frameNoneRow : OpenClaim := { program := "ytmblghdiejneoaa", sum := "5b5808f7ad1d9fe8783cd7f52583ce179c292e7284ec07723ffd66309832d70e", func := "cabstand/cabstandlaw03.FrameNone", spec := "frameNone", unfollowed := true, recurses := true, apart := false }
def FrameNoneSaid : Prop := frameNoneRow.holds Try.pinned (OpenSpec.ofChange frameNoneSpec)

/-- ITS FALSE NEIGHBOUR: 'it returns false'. Refute it at one input. -/
def frameNoneWrong : ChangeSpec := { name := "frameNone", fn := fun _ => fun
  | [d] => { results := [.lit (.bool false)], args := [d] }
  | _ => none }
def FrameNoneWrongFalsely : Prop := frameNoneRow.holds Try.pinned (OpenSpec.ofChange frameNoneWrong)

/-- 'cabstandlaw03.FrameBetween': WHATEVER THE INPUT: true; the input reads as it did. -/
def frameBetweenSpec : ChangeSpec := { name := "frameBetween", fn := fun _ => fun
  | [d1, d2] => { results := [.lit (.bool true)], args := [d1, d2] }
  | _ => none }
def frameBetweenRow : OpenClaim := { program := "ytmblghdiejneoaa", sum := "5b5808f7ad1d9fe8783cd7f52583ce179c292e7284ec07723ffd66309832d70e", func := "cabstand/cabstandlaw03.FrameBetween", spec := "frameBetween", unfollowed := true, recurses := true, apart := false }
def FrameBetweenSaid : Prop := frameBetweenRow.holds Try.pinned (OpenSpec.ofChange frameBetweenSpec)

/-- ITS FALSE NEIGHBOUR: 'it returns false'. Refute it at one input. -/
def frameBetweenWrong : ChangeSpec := { name := "frameBetween", fn := fun _ => fun
  | [d1, d2] => { results := [.lit (.bool false)], args := [d1, d2] }
  | _ => none }
def FrameBetweenWrongFalsely : Prop := frameBetweenRow.holds Try.pinned (OpenSpec.ofChange frameBetweenWrong)

/- THE SECOND FORM. 'bulk': how many values and letters a reading holds, each counted each time it is reached (what is shared counts as often as it is met; a slice's spare places count too). A statement '..UptoSaid' is the law's where the arguments, and the package variables that the reading takes, are together of bulk at most 1048576: NARROWER than '..Said'. Prove '..Said' where nothing that the law and all that it calls make is longer than what came in: it says more and counts as full. Else prove '..UptoSaid'. A law counts once. -/
mutual
def uptoBulk {H : Type} : DataW H → Nat
  | .lit (.string bytes) => bytes.length + 1
  | .lit _ => 1
  | .nil => 1
  | .ptr d => uptoBulk d + 1
  | .slice elems spare => uptoBulkAll elems + uptoBulkAll spare + 1
  | .agg parts => uptoBulkAll parts + 1
  | .iface _ d => uptoBulk d + 1
  | .map entries => uptoBulkEntries entries + 1
  | .held _ => 1
def uptoBulkAll {H : Type} : List (DataW H) → Nat
  | [] => 0
  | d :: r => uptoBulk d + uptoBulkAll r
def uptoBulkEntries {H : Type} : List (Lit × DataW H) → Nat
  | [] => 0
  | x :: r => uptoBulkEntry x + uptoBulkEntries r
def uptoBulkEntry {H : Type} : Lit × DataW H → Nat
  | (.string bytes, d) => bytes.length + uptoBulk d + 1
  | (_, d) => uptoBulk d + 1
 end
def uptoSmall : (H : Type) → List (DataW H) → Bool := fun _ ds => decide (uptoBulkAll ds ≤ 1048576)
def OpenSpec.upto (s : _root_.Go.ChangeSpec) : _root_.Go.OpenSpec := { _root_.Go.OpenSpec.ofChange s with cond := some uptoSmall }

/-- 'cabstandlaw03.FramePacks', WHERE WHAT IT READS IS OF BULK AT MOST 1048576: true; the input reads as it did. -/
def framePacksUptoRow : OpenClaim := { program := "ytmblghdiejneoaa", sum := "5b5808f7ad1d9fe8783cd7f52583ce179c292e7284ec07723ffd66309832d70e", func := "cabstand/cabstandlaw03.FramePacks", spec := "framePacks", unfollowed := true, recurses := true, apart := false, narrowed := true }
def FramePacksUptoSaid : Prop := framePacksUptoRow.holds Try.pinned (OpenSpec.upto framePacksSpec)

/-- 'cabstandlaw03.FrameCovers', WHERE WHAT IT READS IS OF BULK AT MOST 1048576: true; the input reads as it did. -/
def frameCoversUptoRow : OpenClaim := { program := "ytmblghdiejneoaa", sum := "5b5808f7ad1d9fe8783cd7f52583ce179c292e7284ec07723ffd66309832d70e", func := "cabstand/cabstandlaw03.FrameCovers", spec := "frameCovers", unfollowed := true, recurses := true, apart := false, narrowed := true }
def FrameCoversUptoSaid : Prop := frameCoversUptoRow.holds Try.pinned (OpenSpec.upto frameCoversSpec)

/-- 'cabstandlaw03.FrameFinds', WHERE WHAT IT READS IS OF BULK AT MOST 1048576: true; the input reads as it did. -/
def frameFindsUptoRow : OpenClaim := { program := "ytmblghdiejneoaa", sum := "5b5808f7ad1d9fe8783cd7f52583ce179c292e7284ec07723ffd66309832d70e", func := "cabstand/cabstandlaw03.FrameFinds", spec := "frameFinds", unfollowed := true, recurses := true, apart := false, narrowed := true }
def FrameFindsUptoSaid : Prop := frameFindsUptoRow.holds Try.pinned (OpenSpec.upto frameFindsSpec)

/-- 'cabstandlaw03.FrameCuts', WHERE WHAT IT READS IS OF BULK AT MOST 1048576: true; the input reads as it did. -/
def frameCutsUptoRow : OpenClaim := { program := "ytmblghdiejneoaa", sum := "5b5808f7ad1d9fe8783cd7f52583ce179c292e7284ec07723ffd66309832d70e", func := "cabstand/cabstandlaw03.FrameCuts", spec := "frameCuts", unfollowed := true, recurses := true, apart := false, narrowed := true }
def FrameCutsUptoSaid : Prop := frameCutsUptoRow.holds Try.pinned (OpenSpec.upto frameCutsSpec)

/-- 'cabstandlaw03.FrameNone', WHERE WHAT IT READS IS OF BULK AT MOST 1048576: true; the input reads as it did. -/
def frameNoneUptoRow : OpenClaim := { program := "ytmblghdiejneoaa", sum := "5b5808f7ad1d9fe8783cd7f52583ce179c292e7284ec07723ffd66309832d70e", func := "cabstand/cabstandlaw03.FrameNone", spec := "frameNone", unfollowed := true, recurses := true, apart := false, narrowed := true }
def FrameNoneUptoSaid : Prop := frameNoneUptoRow.holds Try.pinned (OpenSpec.upto frameNoneSpec)

/-- 'cabstandlaw03.FrameBetween', WHERE WHAT IT READS IS OF BULK AT MOST 1048576: true; the input reads as it did. -/
def frameBetweenUptoRow : OpenClaim := { program := "ytmblghdiejneoaa", sum := "5b5808f7ad1d9fe8783cd7f52583ce179c292e7284ec07723ffd66309832d70e", func := "cabstand/cabstandlaw03.FrameBetween", spec := "frameBetween", unfollowed := true, recurses := true, apart := false, narrowed := true }
def FrameBetweenUptoSaid : Prop := frameBetweenUptoRow.holds Try.pinned (OpenSpec.upto frameBetweenSpec)

end Rows
end Go.Proofs.Ytmblghdiejneoaa
