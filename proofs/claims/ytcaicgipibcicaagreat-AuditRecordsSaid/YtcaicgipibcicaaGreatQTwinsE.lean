/- Twins of lists of structs. Printed by wip/gentwin.py. -/
import Derived.Test.YtcaicgipibcicaaGreatQTw
namespace Go.Proofs.YtcaicgipibcicaaGreat
set_option maxRecDepth 100000
set_option linter.unusedVariables false
set_option linter.unusedSimpArgs false
open Go.RowKit Go.Sort

set_option maxHeartbeats 8000000 in
theorem twinEdge_any (w : World) (ao : Option Addr) (k c : Nat) (xs : List PEdge) (hk : xs.length = k) (hr : RdC w ao (cellsOf PEdge.cells xs)) (hb : k ≤ 1048576) :
    Calls Tryz.prog 73 #[.slice ao k c] w fun e w' => ∃ G, e = .returned (.slice (some ⟨G, 0, none⟩) k (k + 1)) ∧ Twin w G PEdge.cells xs markEc w' := by
  have HL := Lib.hid hk
  have HR := Lib.hid hr
  obtain ⟨i5, hi, hz0, hz1, hz2⟩ := infos info_edge
  obtain ⟨z, hz⟩ : ∃ z, i5.zero = some z := ⟨_, hz0⟩
  obtain ⟨M, hM⟩ : ∃ M, M = madeCells z.cells ((k + 1) * i5.size) := ⟨_, rfl⟩
  have hMs : M.size = (k + 1) * 3 := by rw [hM, size_madeCells, hz1]
  have hmk : (Instr.makeSlice 26 (.int .i64 ((k : Int) + 1)) (.int .i64 ((k : Int) + 1))).run Tryz.prog w = .ok (.slice (some ⟨w.heap.size, 0, none⟩) (k + 1) (k + 1)) (w.alloc (.cells M 114)) := by
    have h := run_make (P := Tryz.prog) w 26 114 i5 z Tryz.underlying26 hi hz .i64 .i64 ((k : Int) + 1) ((k : Int) + 1) (by omega) (by omega) (by rw [hz2]; omega) (by omega)
    have e : ((k : Int) + 1).toNat = k + 1 := by omega
    rw [e] at h
    rw [h, hM]
  have HT0 := Lib.hid (Tw.begin w PEdge.cells 3 k xs M 114 hMs)
  have HS0 := Lib.hid (show (w.alloc (.cells M 114)).heap.size = w.heap.size + 1 by simp)
  clear hM hMs hk hr
  go_enter Tryz.func73, Tryz.ntmps73
  go_wp2_with fail
  generalize w.alloc (.cells M 114) = W at *
  generalize w.heap.size = G at *
  go_loopw [4] (fun i wr => Hid (∃ j : Nat, i = .int .i64 j ∧ j ≤ k ∧ Tw w G PEdge.cells 3 k xs j wr ∧ G < wr.heap.size)) (fun i _ => k - (intOf i).toNat)
  case atStart => exact Lib.hid ⟨0, rfl, Nat.zero_le _, HT0.out, by rw [HS0.out]; omega⟩
  case round =>
    obtain ⟨j, rfl, hj, ht, hlt0⟩ := hrel.out
    clear hrel
    have HT := Lib.hid ht
    clear ht
    by_cases hlt : j < k
    · obtain ⟨x, hx⟩ : ∃ x, xs[j]? = some x := ⟨xs[j]'(by rw [HL.out]; exact hlt), List.getElem?_eq_getElem _⟩
      obtain ⟨b, o, rfl, _⟩ := HR.out.place (by rw [cellsOf_length _ 3 PEdge.cells_length, HL.out]; omega)
      have HCE := Lib.hid (fun (i : Nat) (u : Value) (hu : x.cells[i]? = some u) => show wr.cell? ⟨b, o + j * 3 + i, none⟩ = some u from rdc_cell PEdge.cells_length (HR.out.below HT.out.below) hx i u hu)
      have HROOM := Lib.hid (there_sub HT.out.room (show j * 3 + 3 ≤ (k + 1) * 3 by omega))
      have HN := Lib.hid (HT.out.next PEdge.cells_length hlt hx)
      have HNS := Lib.hid (show G < (wr.setCells G (j * 3) x.cells).heap.size from Nat.lt_of_lt_of_le hlt0 (Keep.setCells wr G (j * 3) x.cells).size)
      have HSZ := Lib.hid (show (Tryz.prog.info? 114).map (·.size) = some x.cells.length by rw [PEdge.cells_length]; exact sz_edge)
      have HONE := Lib.hid (PEdge.cells_one x)
      have HLEN := Lib.hid (PEdge.cells_length x)
      obtain ⟨cs, hcs⟩ : ∃ cs, cs = x.cells := ⟨_, rfl⟩
      rw [← hcs] at HCE HN HNS HSZ HONE HLEN
      obtain ⟨V, hV⟩ : ∃ V, V = cs.toArray := ⟨_, rfl⟩
      have HV := Lib.hid hV.symm
      have HT2 := Lib.hid (show V.toList = cs by rw [hV])
      have HR2 := Lib.hid (show wr.there G (j * 3) V.size by rw [hV]; simp only [List.size_toArray]; rw [HLEN.out]; exact HROOM.out)
      have HS2 := Lib.hid (show (Tryz.prog.info? 114).map (·.size) = some V.size by rw [hV]; exact HSZ.out)
      have HO2 := Lib.hid (show V.all (·.oneCell') = true by rw [hV]; exact all_oneCell_toArray HONE.out)
      rw [← HT2.out] at HN HNS
      clear hx hcs hV
      go_wp2_with (first | ((with_reducible refine wpList_load_elem (o := ⟨some 20, _, _, _, _, _⟩) ?_ 114 (.tmp 19) ?_ b (o + j * 3) ?_ cs V HV.out _ HCE.out Tryz.underlying114 ?_ HSZ.out ?_); rfl; rfl; rfl; rfl) | ((with_reducible refine wpList_store_mid (op := ⟨none, .store 114 (.tmp 21) (.tmp 20), _, _, _, _⟩) ?_ 114 (.tmp 21) (.tmp 20) ?_ G (j * 3) V ?_ ?_ HR2.out HS2.out HO2.out ?_); rfl; rfl; rfl; rfl))
      go_roundw
      case rel => exact Lib.hid ⟨j + 1, by go_num, by omega, HN.out, HNS.out⟩
      case measure => simp [intOf]; omega
    · obtain rfl : k = j := by omega
      go_wp2_with fail
      obtain ⟨MV, HMV, HMC⟩ := markEdge_op
      refine (HMC wr).mono ?_
      rintro e w2 ⟨rfl, hb2⟩
      clear HMC
      have HT2 := Lib.hid (HT.out.keep hb2 hlt0)
      have HROOM := Lib.hid (there_sub HT2.out.room (show k * 3 + 3 ≤ (k + 1) * 3 by omega))
      have HE := Lib.hid (HT2.out.end PEdge.cells_length HL.out (mark := MV.toList) (by rw [HMV]; rfl))
      have HR2 := Lib.hid (show w2.there G (k * 3) MV.size by rw [← Array.length_toList, HMV]; exact HROOM.out)
      have HS2 := Lib.hid (show (Tryz.prog.info? 114).map (·.size) = some MV.size by rw [← Array.length_toList, HMV]; exact sz_edge)
      have HO2 := Lib.hid (show MV.all (·.oneCell') = true by rw [← Array.toArray_toList (xs := MV), HMV]; exact all_oneCell_toArray markEc_one)
      have HMH := Lib.hid HMV
      clear HMV
      clear hb2
      go_wp2_with (first | ((with_reducible refine wpList_store_mid (op := ⟨none, .store 114 (.tmp 26) (.tmp 25), _, _, _, _⟩) ?_ 114 (.tmp 26) (.tmp 25) ?_ G (k * 3) MV ?_ ?_ HR2.out HS2.out HO2.out ?_); rfl; rfl; rfl; rfl))
      go_ret
      exact ⟨G, rfl, by rw [← HMH.out]; exact HE.out⟩

set_option maxHeartbeats 8000000 in
theorem twinPair_any (w : World) (ao : Option Addr) (k c : Nat) (xs : List PPair) (hk : xs.length = k) (hr : RdC w ao (cellsOf PPair.cells xs)) (hb : k ≤ 1048576) :
    Calls Tryz.prog 32 #[.slice ao k c] w fun e w' => ∃ G, e = .returned (.slice (some ⟨G, 0, none⟩) k (k + 1)) ∧ Twin w G PPair.cells xs markPc w' := by
  have HL := Lib.hid hk
  have HR := Lib.hid hr
  obtain ⟨i5, hi, hz0, hz1, hz2⟩ := infos info_pair
  obtain ⟨z, hz⟩ : ∃ z, i5.zero = some z := ⟨_, hz0⟩
  obtain ⟨M, hM⟩ : ∃ M, M = madeCells z.cells ((k + 1) * i5.size) := ⟨_, rfl⟩
  have hMs : M.size = (k + 1) * 2 := by rw [hM, size_madeCells, hz1]
  have hmk : (Instr.makeSlice 29 (.int .i64 ((k : Int) + 1)) (.int .i64 ((k : Int) + 1))).run Tryz.prog w = .ok (.slice (some ⟨w.heap.size, 0, none⟩) (k + 1) (k + 1)) (w.alloc (.cells M 69)) := by
    have h := run_make (P := Tryz.prog) w 29 69 i5 z Tryz.underlying29 hi hz .i64 .i64 ((k : Int) + 1) ((k : Int) + 1) (by omega) (by omega) (by rw [hz2]; omega) (by omega)
    have e : ((k : Int) + 1).toNat = k + 1 := by omega
    rw [e] at h
    rw [h, hM]
  have HT0 := Lib.hid (Tw.begin w PPair.cells 2 k xs M 69 hMs)
  have HS0 := Lib.hid (show (w.alloc (.cells M 69)).heap.size = w.heap.size + 1 by simp)
  clear hM hMs hk hr
  go_enter Tryz.func32, Tryz.ntmps32
  go_wp2_with fail
  generalize w.alloc (.cells M 69) = W at *
  generalize w.heap.size = G at *
  go_loopw [4] (fun i wr => Hid (∃ j : Nat, i = .int .i64 j ∧ j ≤ k ∧ Tw w G PPair.cells 2 k xs j wr ∧ G < wr.heap.size)) (fun i _ => k - (intOf i).toNat)
  case atStart => exact Lib.hid ⟨0, rfl, Nat.zero_le _, HT0.out, by rw [HS0.out]; omega⟩
  case round =>
    obtain ⟨j, rfl, hj, ht, hlt0⟩ := hrel.out
    clear hrel
    have HT := Lib.hid ht
    clear ht
    by_cases hlt : j < k
    · obtain ⟨x, hx⟩ : ∃ x, xs[j]? = some x := ⟨xs[j]'(by rw [HL.out]; exact hlt), List.getElem?_eq_getElem _⟩
      obtain ⟨b, o, rfl, _⟩ := HR.out.place (by rw [cellsOf_length _ 2 PPair.cells_length, HL.out]; omega)
      have HCE := Lib.hid (fun (i : Nat) (u : Value) (hu : x.cells[i]? = some u) => show wr.cell? ⟨b, o + j * 2 + i, none⟩ = some u from rdc_cell PPair.cells_length (HR.out.below HT.out.below) hx i u hu)
      have HROOM := Lib.hid (there_sub HT.out.room (show j * 2 + 2 ≤ (k + 1) * 2 by omega))
      have HN := Lib.hid (HT.out.next PPair.cells_length hlt hx)
      have HNS := Lib.hid (show G < (wr.setCells G (j * 2) x.cells).heap.size from Nat.lt_of_lt_of_le hlt0 (Keep.setCells wr G (j * 2) x.cells).size)
      have HSZ := Lib.hid (show (Tryz.prog.info? 69).map (·.size) = some x.cells.length by rw [PPair.cells_length]; exact sz_pair)
      have HONE := Lib.hid (PPair.cells_one x)
      have HLEN := Lib.hid (PPair.cells_length x)
      obtain ⟨cs, hcs⟩ : ∃ cs, cs = x.cells := ⟨_, rfl⟩
      rw [← hcs] at HCE HN HNS HSZ HONE HLEN
      obtain ⟨V, hV⟩ : ∃ V, V = cs.toArray := ⟨_, rfl⟩
      have HV := Lib.hid hV.symm
      have HT2 := Lib.hid (show V.toList = cs by rw [hV])
      have HR2 := Lib.hid (show wr.there G (j * 2) V.size by rw [hV]; simp only [List.size_toArray]; rw [HLEN.out]; exact HROOM.out)
      have HS2 := Lib.hid (show (Tryz.prog.info? 69).map (·.size) = some V.size by rw [hV]; exact HSZ.out)
      have HO2 := Lib.hid (show V.all (·.oneCell') = true by rw [hV]; exact all_oneCell_toArray HONE.out)
      rw [← HT2.out] at HN HNS
      clear hx hcs hV
      go_wp2_with (first | ((with_reducible refine wpList_load_elem (o := ⟨some 20, _, _, _, _, _⟩) ?_ 69 (.tmp 19) ?_ b (o + j * 2) ?_ cs V HV.out _ HCE.out Tryz.underlying69 ?_ HSZ.out ?_); rfl; rfl; rfl; rfl) | ((with_reducible refine wpList_store_mid (op := ⟨none, .store 69 (.tmp 21) (.tmp 20), _, _, _, _⟩) ?_ 69 (.tmp 21) (.tmp 20) ?_ G (j * 2) V ?_ ?_ HR2.out HS2.out HO2.out ?_); rfl; rfl; rfl; rfl))
      go_roundw
      case rel => exact Lib.hid ⟨j + 1, by go_num, by omega, HN.out, HNS.out⟩
      case measure => simp [intOf]; omega
    · obtain rfl : k = j := by omega
      go_wp2_with fail
      obtain ⟨MV, HMV, HMC⟩ := markPair_op
      refine (HMC wr).mono ?_
      rintro e w2 ⟨rfl, hb2⟩
      clear HMC
      have HT2 := Lib.hid (HT.out.keep hb2 hlt0)
      have HROOM := Lib.hid (there_sub HT2.out.room (show k * 2 + 2 ≤ (k + 1) * 2 by omega))
      have HE := Lib.hid (HT2.out.end PPair.cells_length HL.out (mark := MV.toList) (by rw [HMV]; rfl))
      have HR2 := Lib.hid (show w2.there G (k * 2) MV.size by rw [← Array.length_toList, HMV]; exact HROOM.out)
      have HS2 := Lib.hid (show (Tryz.prog.info? 69).map (·.size) = some MV.size by rw [← Array.length_toList, HMV]; exact sz_pair)
      have HO2 := Lib.hid (show MV.all (·.oneCell') = true by rw [← Array.toArray_toList (xs := MV), HMV]; exact all_oneCell_toArray markPc_one)
      have HMH := Lib.hid HMV
      clear HMV
      clear hb2
      go_wp2_with (first | ((with_reducible refine wpList_store_mid (op := ⟨none, .store 69 (.tmp 26) (.tmp 25), _, _, _, _⟩) ?_ 69 (.tmp 26) (.tmp 25) ?_ G (k * 2) MV ?_ ?_ HR2.out HS2.out HO2.out ?_); rfl; rfl; rfl; rfl))
      go_ret
      exact ⟨G, rfl, by rw [← HMH.out]; exact HE.out⟩
end Go.Proofs.YtcaicgipibcicaaGreat
