/- What the bound gives for two slices of texts. -/
import Derived.Test.YtmblghdiejneoaaFindsWalk
import Derived.Test.YtmblghdiejneoaaUpto
import Derived.SliceStrings
namespace Go.Proofs.Ytmblghdiejneoaa
open Go.RowKit Go.ChangeShapes

def sumB : List ByteArray → Nat
  | [] => 0
  | s :: r => s.size + 1 + sumB r
theorem sumB_append : ∀ (a b : List ByteArray), sumB (a ++ b) = sumB a + sumB b
  | [], b => by simp [sumB]
  | s :: r, b => by simp [sumB, sumB_append r b]; omega
theorem sumB_take (l : List ByteArray) (k : Nat) : sumB (l.take k) ≤ sumB l := by
  conv => rhs; rw [← List.take_append_drop k l]
  rw [sumB_append]
  omega
theorem sumB_mem : ∀ (l : List ByteArray) (s : ByteArray), s ∈ l → s.size ≤ sumB l
  | x :: r, s, h => by
    rcases List.mem_cons.1 h with rfl | h
    · simp [sumB]; omega
    · have := sumB_mem r s h; simp [sumB]; omega
theorem sumB_len : ∀ (l : List ByteArray), l.length ≤ sumB l
  | [] => by simp
  | _ :: r => by have := sumB_len r; simp [sumB]; omega

theorem stream_len (cs js : List ByteArray) : ∀ k, (streamF (itemsN cs js k)).length ≤ sumB (cs.take k) + sumB (js.take k) + 8 * k
  | 0 => by simp [itemsN, streamF]
  | k + 1 => by
    have ih := stream_len cs js k
    have h1 : (contAt cs k).length ≤ sumB cs[k]?.toList := by
      unfold contAt
      cases cs[k]? with
      | none => simp
      | some s =>
        simp only [Option.toList_some, sumB]
        split
        · simp
        · have : s.data.toList.length = s.size := by simp
          omega
    have h2 : (junkAt js k).length ≤ sumB js[k]?.toList := by
      unfold junkAt
      cases js[k]? with
      | none => simp
      | some s =>
        simp only [Option.toList_some, sumB, plainL, List.length_map]
        have : s.data.toList.length = s.size := by simp
        omega
    rw [itemsN_succ, streamF_snoc, List.length_append, List.length_append, frameL_length, List.take_add_one, List.take_add_one, sumB_append, sumB_append]
    omega

theorem bulk_strs {H : Type} : ∀ (l : List ByteArray), Rows.uptoBulkAll (strs l : List (DataW H)) = sumB l
  | [] => by simp [strs, Rows.uptoBulkAll, sumB]
  | s :: r => by
    have := bulk_strs (H := H) r
    simp only [strs] at this
    simp only [strs, List.map_cons, Rows.uptoBulkAll, Rows.uptoBulk, sumB, this]
    simp

theorem row_strs {w : World} {a : Addr} {len cap : Nat} {ss : List ByteArray} (hl : len ≤ cap) (hz : ss.length = cap) (hc : ∀ i, i < ss.length → w.cell? (a.add i) = some (.string (ss.getD i ByteArray.empty))) : StrRow w (some a) len cap (ss.take len) := by
  refine ⟨by rw [List.length_take]; omega, hl, fun i s hs => ⟨a, rfl, ?_⟩⟩
  rw [List.getElem?_take] at hs
  split at hs
  · have hi := (List.getElem?_eq_some_iff.1 hs).1
    have := hc i hi
    rw [this, List.getD_eq_getElem?_getD, hs]
    rfl
  · cases hs
theorem strs_nil (w : World) : StrRow w none 0 0 [] := ⟨rfl, Nat.le_refl _, fun i s h => by simp at h⟩
end Go.Proofs.Ytmblghdiejneoaa
