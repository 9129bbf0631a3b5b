/-
  No cell of these rows narrows 'for every input' (looked for: loops, veiled, ifaces, maps, wideKeys, modest, calm, conditions, laid).
  DERIVED. THE GIVEN ROWS OF THIS SEAT. 7 by the template 'for every input the law returns true; each argument reads behind the call as it read before'; 0 by the template 'total and deterministic' (their statements: YtcaicgipibcicaaGreatTotals.lean).
  GIVEN WITH THE SEED: the statements are not yours to turn. If you find one false, say at which input.
  Laid BY PROGRAM, IN A SANDBOX (cutbox-rows.mjs): the forced cells as the released guide's own fill.sh prints them over the translation 309feb2c39010669… (all of the seat's roots in one cut). By AI agents, Wed Nov 11 2026. No macro, syntax, notation, axiom, sorry.
-/
import Derived.Test.YtcaicgipibcicaaGreatChecked
import GoSem.Claim
import GoSem.ClaimJoined
import GoSem.ClaimMapViews
import Derived.JoinedTies
import Derived.KernelRfl
namespace Go.Proofs.YtcaicgipibcicaaGreat
/- THE CELL 'sum', in the pinned program and in every row, IS THE sha256 OF THE DUMP (.gsa) THAT YtcaicgipibcicaaGreatProg.lean LOADS. Nothing in Lean hashes anything: it is a label: what it is worth is what the hold of that sum in a sandbox is worth. -/
noncomputable def Tryz.pinned : Pinned := { name := "ytcaicgipibcicaagreat", sum := "309feb2c3901066965ecade27b59660bb51edc2c8f802226f1f1e3766d3be871", checked := Tryz.checked }
namespace Rows
def none {H : Type} : Left H := { results := [], args := [] }

/-- 'cabstandlaw26.AuditRecords': WHATEVER THE INPUT: true; the input reads as it did. -/
def auditRecordsSpec : ChangeSpec := { name := "auditRecords", fn := fun _ => fun
  | [d1, d2] => { results := [.lit (.bool true)], args := [d1, d2] }
  | _ => none }
def auditRecordsRow : OpenClaim := { program := "ytcaicgipibcicaagreat", sum := "309feb2c3901066965ecade27b59660bb51edc2c8f802226f1f1e3766d3be871", func := "cabstand/cabstandlaw26.AuditRecords", spec := "auditRecords", inPlace := ["math/bits.Add64"], unfollowed := true, recurses := true, plainKeys := false, apart := false }
def AuditRecordsSaid : Prop := auditRecordsRow.holds Tryz.pinned (OpenSpec.ofChange auditRecordsSpec)

/-- ITS FALSE NEIGHBOUR: 'it returns false'. Refute it at one input. -/
def auditRecordsWrong : ChangeSpec := { name := "auditRecords", fn := fun _ => fun
  | [d1, d2] => { results := [.lit (.bool false)], args := [d1, d2] }
  | _ => none }
def AuditRecordsWrongFalsely : Prop := auditRecordsRow.holds Tryz.pinned (OpenSpec.ofChange auditRecordsWrong)

/-- 'cabstandlaw26.AuditSees': WHATEVER THE INPUT: true; the input reads as it did. -/
def auditSeesSpec : ChangeSpec := { name := "auditSees", fn := fun _ => fun
  | [d1, d2, d3, d4] => { results := [.lit (.bool true)], args := [d1, d2, d3, d4] }
  | _ => none }
def auditSeesRow : OpenClaim := { program := "ytcaicgipibcicaagreat", sum := "309feb2c3901066965ecade27b59660bb51edc2c8f802226f1f1e3766d3be871", func := "cabstand/cabstandlaw26.AuditSees", spec := "auditSees", inPlace := ["math/bits.Add64"], unfollowed := true, recurses := true, plainKeys := false, apart := false }
def AuditSeesSaid : Prop := auditSeesRow.holds Tryz.pinned (OpenSpec.ofChange auditSeesSpec)

/-- ITS FALSE NEIGHBOUR: 'it returns false'. Refute it at one input. -/
def auditSeesWrong : ChangeSpec := { name := "auditSees", fn := fun _ => fun
  | [d1, d2, d3, d4] => { results := [.lit (.bool false)], args := [d1, d2, d3, d4] }
  | _ => none }
def AuditSeesWrongFalsely : Prop := auditSeesRow.holds Tryz.pinned (OpenSpec.ofChange auditSeesWrong)

/-- 'cabstandlaw26.AuditLogs': WHATEVER THE INPUT: true; the input reads as it did. -/
def auditLogsSpec : ChangeSpec := { name := "auditLogs", fn := fun _ => fun
  | [d] => { results := [.lit (.bool true)], args := [d] }
  | _ => none }
def auditLogsRow : OpenClaim := { program := "ytcaicgipibcicaagreat", sum := "309feb2c3901066965ecade27b59660bb51edc2c8f802226f1f1e3766d3be871", func := "cabstand/cabstandlaw26.AuditLogs", spec := "auditLogs", inPlace := ["math/bits.Add64"], unfollowed := true, recurses := true, plainKeys := false, apart := false }
def AuditLogsSaid : Prop := auditLogsRow.holds Tryz.pinned (OpenSpec.ofChange auditLogsSpec)

/-- ITS FALSE NEIGHBOUR: 'it returns false'. Refute it at one input. -/
def auditLogsWrong : ChangeSpec := { name := "auditLogs", fn := fun _ => fun
  | [d] => { results := [.lit (.bool false)], args := [d] }
  | _ => none }
def AuditLogsWrongFalsely : Prop := auditLogsRow.holds Tryz.pinned (OpenSpec.ofChange auditLogsWrong)

/-- 'cabstandlaw26.AuditTurned': WHATEVER THE INPUT: true; the input reads as it did. -/
def auditTurnedSpec : ChangeSpec := { name := "auditTurned", fn := fun _ => fun
  | [d1, d2, d3] => { results := [.lit (.bool true)], args := [d1, d2, d3] }
  | _ => none }
def auditTurnedRow : OpenClaim := { program := "ytcaicgipibcicaagreat", sum := "309feb2c3901066965ecade27b59660bb51edc2c8f802226f1f1e3766d3be871", func := "cabstand/cabstandlaw26.AuditTurned", spec := "auditTurned", inPlace := ["math/bits.Add64"], unfollowed := true, recurses := true, plainKeys := false, apart := false }
def AuditTurnedSaid : Prop := auditTurnedRow.holds Tryz.pinned (OpenSpec.ofChange auditTurnedSpec)

/-- ITS FALSE NEIGHBOUR: 'it returns false'. Refute it at one input. -/
def auditTurnedWrong : ChangeSpec := { name := "auditTurned", fn := fun _ => fun
  | [d1, d2, d3] => { results := [.lit (.bool false)], args := [d1, d2, d3] }
  | _ => none }
def AuditTurnedWrongFalsely : Prop := auditTurnedRow.holds Tryz.pinned (OpenSpec.ofChange auditTurnedWrong)

/-- 'cabstandlaw26.AuditBest': WHATEVER THE INPUT: true; the input reads as it did. -/
def auditBestSpec : ChangeSpec := { name := "auditBest", fn := fun _ => fun
  | [d1, d2, d3] => { results := [.lit (.bool true)], args := [d1, d2, d3] }
  | _ => none }
def auditBestRow : OpenClaim := { program := "ytcaicgipibcicaagreat", sum := "309feb2c3901066965ecade27b59660bb51edc2c8f802226f1f1e3766d3be871", func := "cabstand/cabstandlaw26.AuditBest", spec := "auditBest", inPlace := ["math/bits.Add64"], unfollowed := true, recurses := true, plainKeys := false, apart := false }
def AuditBestSaid : Prop := auditBestRow.holds Tryz.pinned (OpenSpec.ofChange auditBestSpec)

/-- ITS FALSE NEIGHBOUR: 'it returns false'. Refute it at one input. -/
def auditBestWrong : ChangeSpec := { name := "auditBest", fn := fun _ => fun
  | [d1, d2, d3] => { results := [.lit (.bool false)], args := [d1, d2, d3] }
  | _ => none }
def AuditBestWrongFalsely : Prop := auditBestRow.holds Tryz.pinned (OpenSpec.ofChange auditBestWrong)

/-- 'cabstandlaw26.AuditBegins': WHATEVER THE INPUT: true; the input reads as it did. -/
def auditBeginsSpec : ChangeSpec := { name := "auditBegins", fn := fun _ => fun
  | [d1, d2] => { results := [.lit (.bool true)], args := [d1, d2] }
  | _ => none }
def auditBeginsRow : OpenClaim := { program := "ytcaicgipibcicaagreat", sum := "309feb2c3901066965ecade27b59660bb51edc2c8f802226f1f1e3766d3be871", func := "cabstand/cabstandlaw26.AuditBegins", spec := "auditBegins", inPlace := ["math/bits.Add64"], unfollowed := true, recurses := true, plainKeys := false, apart := false }
def AuditBeginsSaid : Prop := auditBeginsRow.holds Tryz.pinned (OpenSpec.ofChange auditBeginsSpec)

/-- ITS FALSE NEIGHBOUR: 'it returns false'. Refute it at one input. -/
def auditBeginsWrong : ChangeSpec := { name := "auditBegins", fn := fun _ => fun
  | [d1, d2] => { results := [.lit (.bool false)], args := [d1, d2] }
  | _ => none }
def AuditBeginsWrongFalsely : Prop := auditBeginsRow.holds Tryz.pinned (OpenSpec.ofChange auditBeginsWrong)

/-- 'cabstandlaw26.AuditNames': WHATEVER THE INPUT: true; the input reads as it did. -/
def auditNamesSpec : ChangeSpec := { name := "auditNames", fn := fun _ => fun
  | [] => { results := [.lit (.bool true)], args := [] }
  | _ => none }
def auditNamesRow : OpenClaim := { program := "ytcaicgipibcicaagreat", sum := "309feb2c3901066965ecade27b59660bb51edc2c8f802226f1f1e3766d3be871", func := "cabstand/cabstandlaw26.AuditNames", spec := "auditNames", inPlace := ["math/bits.Add64"], unfollowed := true, recurses := true, plainKeys := false, apart := false }
def AuditNamesSaid : Prop := auditNamesRow.holds Tryz.pinned (OpenSpec.ofChange auditNamesSpec)

/-- ITS FALSE NEIGHBOUR: 'it returns false'. Refute it at one input. -/
def auditNamesWrong : ChangeSpec := { name := "auditNames", fn := fun _ => fun
  | [] => { results := [.lit (.bool false)], args := [] }
  | _ => none }
def AuditNamesWrongFalsely : Prop := auditNamesRow.holds Tryz.pinned (OpenSpec.ofChange auditNamesWrong)

/- THE SECOND FORM. 'bulk': how many values and letters a reading holds, each counted each time it is reached (what is shared counts as often as it is met; a slice's spare places count too). A statement '..UptoSaid' is the law's where the arguments, and the package variables that the reading takes, are together of bulk at most 1048576: NARROWER than '..Said'. Prove '..Said' where nothing that the law and all that it calls make is longer than what came in: it says more and counts as full. Else prove '..UptoSaid'. A law counts once. -/
mutual
def uptoBulk {H : Type} : DataW H → Nat
  | .lit (.string bytes) => bytes.length + 1
  | .lit _ => 1
  | .nil => 1
  | .ptr d => uptoBulk d + 1
  | .slice elems spare => uptoBulkAll elems + uptoBulkAll spare + 1
  | .agg parts => uptoBulkAll parts + 1
  | .iface _ d => uptoBulk d + 1
  | .map entries => uptoBulkEntries entries + 1
  | .held _ => 1
def uptoBulkAll {H : Type} : List (DataW H) → Nat
  | [] => 0
  | d :: r => uptoBulk d + uptoBulkAll r
def uptoBulkEntries {H : Type} : List (Lit × DataW H) → Nat
  | [] => 0
  | x :: r => uptoBulkEntry x + uptoBulkEntries r
def uptoBulkEntry {H : Type} : Lit × DataW H → Nat
  | (.string bytes, d) => bytes.length + uptoBulk d + 1
  | (_, d) => uptoBulk d + 1
 end
def uptoSmall : (H : Type) → List (DataW H) → Bool := fun _ ds => decide (uptoBulkAll ds ≤ 1048576)
def OpenSpec.upto (s : _root_.Go.ChangeSpec) : _root_.Go.OpenSpec := { _root_.Go.OpenSpec.ofChange s with cond := some uptoSmall }

/-- 'cabstandlaw26.AuditRecords', WHERE WHAT IT READS IS OF BULK AT MOST 1048576: true; the input reads as it did. -/
def auditRecordsUptoRow : OpenClaim := { program := "ytcaicgipibcicaagreat", sum := "309feb2c3901066965ecade27b59660bb51edc2c8f802226f1f1e3766d3be871", func := "cabstand/cabstandlaw26.AuditRecords", spec := "auditRecords", inPlace := ["math/bits.Add64"], unfollowed := true, recurses := true, plainKeys := false, apart := false, narrowed := true }
def AuditRecordsUptoSaid : Prop := auditRecordsUptoRow.holds Tryz.pinned (OpenSpec.upto auditRecordsSpec)

/-- 'cabstandlaw26.AuditSees', WHERE WHAT IT READS IS OF BULK AT MOST 1048576: true; the input reads as it did. -/
def auditSeesUptoRow : OpenClaim := { program := "ytcaicgipibcicaagreat", sum := "309feb2c3901066965ecade27b59660bb51edc2c8f802226f1f1e3766d3be871", func := "cabstand/cabstandlaw26.AuditSees", spec := "auditSees", inPlace := ["math/bits.Add64"], unfollowed := true, recurses := true, plainKeys := false, apart := false, narrowed := true }
def AuditSeesUptoSaid : Prop := auditSeesUptoRow.holds Tryz.pinned (OpenSpec.upto auditSeesSpec)

/-- 'cabstandlaw26.AuditLogs', WHERE WHAT IT READS IS OF BULK AT MOST 1048576: true; the input reads as it did. -/
def auditLogsUptoRow : OpenClaim := { program := "ytcaicgipibcicaagreat", sum := "309feb2c3901066965ecade27b59660bb51edc2c8f802226f1f1e3766d3be871", func := "cabstand/cabstandlaw26.AuditLogs", spec := "auditLogs", inPlace := ["math/bits.Add64"], unfollowed := true, recurses := true, plainKeys := false, apart := false, narrowed := true }
def AuditLogsUptoSaid : Prop := auditLogsUptoRow.holds Tryz.pinned (OpenSpec.upto auditLogsSpec)

/-- 'cabstandlaw26.AuditTurned', WHERE WHAT IT READS IS OF BULK AT MOST 1048576: true; the input reads as it did. -/
def auditTurnedUptoRow : OpenClaim := { program := "ytcaicgipibcicaagreat", sum := "309feb2c3901066965ecade27b59660bb51edc2c8f802226f1f1e3766d3be871", func := "cabstand/cabstandlaw26.AuditTurned", spec := "auditTurned", inPlace := ["math/bits.Add64"], unfollowed := true, recurses := true, plainKeys := false, apart := false, narrowed := true }
def AuditTurnedUptoSaid : Prop := auditTurnedUptoRow.holds Tryz.pinned (OpenSpec.upto auditTurnedSpec)

/-- 'cabstandlaw26.AuditBest', WHERE WHAT IT READS IS OF BULK AT MOST 1048576: true; the input reads as it did. -/
def auditBestUptoRow : OpenClaim := { program := "ytcaicgipibcicaagreat", sum := "309feb2c3901066965ecade27b59660bb51edc2c8f802226f1f1e3766d3be871", func := "cabstand/cabstandlaw26.AuditBest", spec := "auditBest", inPlace := ["math/bits.Add64"], unfollowed := true, recurses := true, plainKeys := false, apart := false, narrowed := true }
def AuditBestUptoSaid : Prop := auditBestUptoRow.holds Tryz.pinned (OpenSpec.upto auditBestSpec)

/-- 'cabstandlaw26.AuditBegins', WHERE WHAT IT READS IS OF BULK AT MOST 1048576: true; the input reads as it did. -/
def auditBeginsUptoRow : OpenClaim := { program := "ytcaicgipibcicaagreat", sum := "309feb2c3901066965ecade27b59660bb51edc2c8f802226f1f1e3766d3be871", func := "cabstand/cabstandlaw26.AuditBegins", spec := "auditBegins", inPlace := ["math/bits.Add64"], unfollowed := true, recurses := true, plainKeys := false, apart := false, narrowed := true }
def AuditBeginsUptoSaid : Prop := auditBeginsUptoRow.holds Tryz.pinned (OpenSpec.upto auditBeginsSpec)

/-- 'cabstandlaw26.AuditNames', WHERE WHAT IT READS IS OF BULK AT MOST 1048576: true; the input reads as it did. -/
def auditNamesUptoRow : OpenClaim := { program := "ytcaicgipibcicaagreat", sum := "309feb2c3901066965ecade27b59660bb51edc2c8f802226f1f1e3766d3be871", func := "cabstand/cabstandlaw26.AuditNames", spec := "auditNames", inPlace := ["math/bits.Add64"], unfollowed := true, recurses := true, plainKeys := false, apart := false, narrowed := true }
def AuditNamesUptoSaid : Prop := auditNamesUptoRow.holds Tryz.pinned (OpenSpec.upto auditNamesSpec)

end Rows
end Go.Proofs.YtcaicgipibcicaaGreat
