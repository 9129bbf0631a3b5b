/- What the bound of an 'Upto' statement gives for slices. -/
import Derived.Test.YtmblghdiejneoaaGreatRows
import Derived.ChangeSlices
namespace Go.Proofs.YtmblghdiejneoaaGreat

theorem bulk_len {H : Type} (l : List (DataW H)) : l.length ≤ Rows.uptoBulkAll l := by
  induction l with
  | nil => simp [Rows.uptoBulkAll]
  | cons x r ih =>
    have : 1 ≤ Rows.uptoBulk x := by
      cases x with
      | lit l => cases l <;> simp [Rows.uptoBulk]
      | _ => simp [Rows.uptoBulk]
    simp only [Rows.uptoBulkAll, List.length_cons]
    omega

theorem upto_part {H : Type} {d : DataW H} : ∀ {l : List (DataW H)}, d ∈ l → Rows.uptoBulk d ≤ Rows.uptoBulkAll l
  | x :: r, h => by
    simp only [Rows.uptoBulkAll]
    rcases List.mem_cons.1 h with e | e
    · subst e; omega
    · have := upto_part e; omega

theorem upto_elems {H : Type} {e s : List (DataW H)} {l : List (DataW H)} (hk : Rows.uptoSmall H l = true) (hm : DataW.slice e s ∈ l) : Rows.uptoBulkAll e + Rows.uptoBulkAll s ≤ 1048576 := by
  have h : Rows.uptoBulkAll l ≤ 1048576 := of_decide_eq_true hk
  have h1 := upto_part hm
  simp only [Rows.uptoBulk] at h1
  omega
theorem upto_in {H : Type} {e s : List (DataW H)} {l : List (DataW H)} (hk : Rows.uptoSmall H l = true) (hm : DataW.slice e s ∈ l) : e.length + s.length ≤ 1048576 := by
  have h := upto_elems hk hm
  have h1 := bulk_len e
  have h2 := bulk_len s
  omega
theorem upto_slice {H : Type} {e s : List (DataW H)} (hk : Rows.uptoSmall H [.slice e s] = true) : e.length + s.length ≤ 1048576 := upto_in hk (List.mem_singleton.2 rfl)
end Go.Proofs.YtmblghdiejneoaaGreat
