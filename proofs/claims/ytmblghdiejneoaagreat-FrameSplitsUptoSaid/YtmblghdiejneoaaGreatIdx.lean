/- A byte of a text. -/
import Derived.Test.YtmblghdiejneoaaGreatRow
namespace Go.Proofs.YtmblghdiejneoaaGreat
set_option maxRecDepth 100000
open Go.RowKit

theorem idx_str (s : ByteArray) (i : Nat) (h : i < s.size) (w : World) : (Instr.index 9 (.string s) (.int .i64 (i : Int))).run Tryz.prog w = .ok (.int .u8 ((s.data.toList.getD i 0).toNat : Int)) w := by
  rw [run_index_string w 9 s .i64 (i : Int) Tryz.underlying9]
  simp only [Int.toNat_natCast]
  rw [dif_pos ⟨by omega, by omega⟩]
  have h' : i < s.data.size := h
  have e : s.data.toList.getD i 0 = s[i] := by
    simp only [List.getD_eq_getElem?_getD]
    rw [List.getElem?_eq_getElem (by simpa using h')]
    rfl
  rw [e]
end Go.Proofs.YtmblghdiejneoaaGreat
