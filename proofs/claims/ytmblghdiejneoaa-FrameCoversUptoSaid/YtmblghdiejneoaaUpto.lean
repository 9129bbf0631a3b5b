/- What the bound of an 'Upto' statement gives for a slice of bytes. -/
import Derived.Test.YtmblghdiejneoaaRows
import Derived.ChangeSlices
namespace Go.Proofs.Ytmblghdiejneoaa

theorem bulk_len {H : Type} (l : List (DataW H)) : l.length ≤ Rows.uptoBulkAll l := by
  induction l with
  | nil => simp [Rows.uptoBulkAll]
  | cons x r ih =>
    have : 1 ≤ Rows.uptoBulk x := by
      cases x with
      | lit l => cases l <;> simp [Rows.uptoBulk]
      | _ => simp [Rows.uptoBulk]
    simp only [Rows.uptoBulkAll, List.length_cons]
    omega

theorem upto_slice {H : Type} {e s : List (DataW H)} (hk : Rows.uptoSmall H [.slice e s] = true) : e.length + s.length ≤ 1048576 := by
  have h : Rows.uptoBulkAll [DataW.slice (H := H) e s] ≤ 1048576 := of_decide_eq_true hk
  simp only [Rows.uptoBulkAll, Rows.uptoBulk] at h
  have h1 := bulk_len e
  have h2 := bulk_len s
  omega
end Go.Proofs.Ytmblghdiejneoaa
