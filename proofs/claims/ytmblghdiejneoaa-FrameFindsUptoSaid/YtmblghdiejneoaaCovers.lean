/- The law's own 'whole': does a frame stand at the beginning? -/
import Derived.Test.YtmblghdiejneoaaRow
import Derived.Test.YtmblghdiejneoaaPure3
namespace Go.Proofs.Ytmblghdiejneoaa
open Go.RowKit

theorem lwhole_short (s : ByteArray) (w : World) (h : s.size < 8) : Calls Try.prog 13 #[.string s] w fun e w' => e = .returned (.bool false) ∧ Below w.heap.size w w' := by
  go_enter Try.func13, Try.ntmps13
  go_wp2
  go_ret
  exact ⟨rfl, Below.refl _ _⟩

theorem idx_str (s : ByteArray) (i : Nat) (h : i < s.size) (w : World) : (Instr.index 9 (.string s) (.int .i64 (i : Int))).run Try.prog w = .ok (.int .u8 ((s.data.toList.getD i 0).toNat : Int)) w := by
  rw [run_index_string w 9 s .i64 (i : Int) Try.underlying9]
  simp only [Int.toNat_natCast]
  rw [dif_pos ⟨by omega, by omega⟩]
  have h' : i < s.data.size := h
  have e : s.data.toList.getD i 0 = s[i] := by
    simp only [List.getD_eq_getElem?_getD]
    rw [List.getElem?_eq_getElem (by simpa using h')]
    rfl
  rw [e]

set_option maxHeartbeats 1000000 in
theorem lwhole_no (s : ByteArray) (w : World) (h8 : 8 ≤ s.size) (hmax : s.size ≤ 140737488351232) (h : (wholeF s.data.toList).1 = 0) : Calls Try.prog 13 #[.string s] w fun e w' => e = .returned (.bool false) ∧ Below w.heap.size w w' := by
  have HW := Lib.hid h
  clear h
  have hi2 : ∀ w, (Instr.index 9 (.string s) (.int .i64 2)).run Try.prog w = .ok (.int .u8 ((s.data.toList.getD 2 0).toNat : Int)) w := idx_str s 2 (by omega)
  have hi3 : ∀ w, (Instr.index 9 (.string s) (.int .i64 3)).run Try.prog w = .ok (.int .u8 ((s.data.toList.getD 3 0).toNat : Int)) w := idx_str s 3 (by omega)
  have b2 := (s.data.toList.getD 2 0).toNat_lt
  have b3 := (s.data.toList.getD 3 0).toNat_lt
  have HN := Lib.hid (show lenOf s.data.toList = (s.data.toList.getD 2 0).toNat * 256 + (s.data.toList.getD 3 0).toNat from rfl)
  generalize (s.data.toList.getD 2 0).toNat = x2 at *
  generalize (s.data.toList.getD 3 0).toNat = x3 at *
  go_enter Try.func13, Try.ntmps13
  go_wp2_with fail
  go_quiet (fail)
  by_cases hn : x2 * 256 + x3 + 8 ≤ s.size
  · go_wp2_with fail
    have hxs : (s.extract 4 (4 + (x2 * 256 + x3))).size = x2 * 256 + x3 := by
      rw [ByteArray.size_extract]; omega
    have hxd : (s.extract 4 (4 + (x2 * 256 + x3))).data.toList = (s.data.toList.drop 4).take (x2 * 256 + x3) := by
      rw [Lib.extract_data]; congr 1; omega
    by_cases h4 : x2 * 256 + x3 ≤ 4096
    · have hp := pack_fits (s.extract 4 (4 + (x2 * 256 + x3))) (w.drewN nq) (by omega)
      rw [hxd] at hp
      have hne : ((s.extract 0 (x2 * 256 + x3 + 8)).toList == ((⟨(frameL ((s.data.toList.drop 4).take (x2 * 256 + x3))).toArray⟩ : ByteArray)).toList) = false := by
        rw [Lib.extract_toList, Lib.toList_data]
        simp only [beq_eq_false_iff_ne]
        intro he
        simp only [List.drop_zero, Nat.sub_zero] at he
        have hc : ((s.data.toList.drop 4).take (x2 * 256 + x3)).length = x2 * 256 + x3 := by
          rw [List.length_take, List.length_drop]
          have : s.data.toList.length = s.size := by simp
          omega
        have hl : s.data.toList = frameL ((s.data.toList.drop 4).take (x2 * 256 + x3)) ++ s.data.toList.drop (x2 * 256 + x3 + 8) := by
          conv => lhs; rw [← List.take_append_drop (x2 * 256 + x3 + 8) s.data.toList, he]
        have := HW.out
        rw [hl, wholeF_frame _ _ (by rw [hc]; exact h4)] at this
        simp at this
      generalize (⟨(frameL ((s.data.toList.drop 4).take (x2 * 256 + x3))).toArray⟩ : ByteArray) = S at *
      have HP := Lib.hid hp
      have hxs' := Lib.hid hxs
      clear hp hxs hxd
      refine HP.out.mono ?_
      rintro e w1 ⟨rfl, hb1⟩
      have HB1 := Lib.hid (show Below w.heap.size w w1 from Below.next (below_drewN (Below.refl _ _) _) hb1)
      clear hb1
      go_wp2_with fail
      go_ret
      exact ⟨rfl, HB1.out⟩
    · have HP := Lib.hid (pack_great (s.extract 4 (4 + (x2 * 256 + x3))) (w.drewN nq) (by omega))
      clear hxs hxd
      refine HP.out.mono ?_
      rintro e w1 ⟨rfl, hb1⟩
      have HB1 := Lib.hid (show Below w.heap.size w w1 from Below.next (below_drewN (Below.refl _ _) _) hb1)
      clear hb1
      go_wp2_with fail
      go_ret
      exact ⟨rfl, HB1.out⟩
  · go_wp2_with fail
    go_ret
    exact ⟨rfl, below_drewN (Below.refl _ _) _⟩

theorem lwhole_any (s : ByteArray) (w : World) (hmax : s.size ≤ 140737488351232) (h : (wholeF s.data.toList).1 = 0) : Calls Try.prog 13 #[.string s] w fun e w' => e = .returned (.bool false) ∧ Below w.heap.size w w' := by
  by_cases h8 : s.size < 8
  · exact lwhole_short s w h8
  · exact lwhole_no s w (by omega) hmax h
end Go.Proofs.Ytmblghdiejneoaa
