/- Twins of lists of structs. Printed by wip/gentwin.py. -/
import Derived.Test.YtcaicgipibcicaaGreatQTw
import Derived.Test.YtcaicgipibcicaaGreatQSame2
import Derived.Test.YtcaicgipibcicaaGreatQLoadQ
namespace Go.Proofs.YtcaicgipibcicaaGreat
set_option maxRecDepth 100000
set_option linter.unusedVariables false
set_option linter.unusedSimpArgs false
open Go.RowKit Go.Sort

set_option maxHeartbeats 8000000 in
theorem twinEdge_any (w : World) (ao : Option Addr) (k c : Nat) (xs : List PEdge) (hk : xs.length = k) (hr : RdC w ao (cellsOf PEdge.cells xs)) (hb : k ≤ 1048576) :
    Calls Tryz.prog 73 #[.slice ao k c] w fun e w' => ∃ G, e = .returned (.slice (some ⟨G, 0, none⟩) k (k + 1)) ∧ Twin w G PEdge.cells xs markEc w' := by
  have HL := Lib.hid hk
  have HR := Lib.hid hr
  obtain ⟨i5, hi, hz0, hz1, hz2⟩ := infos info_edge
  obtain ⟨z, hz⟩ : ∃ z, i5.zero = some z := ⟨_, hz0⟩
  obtain ⟨M, hM⟩ : ∃ M, M = madeCells z.cells ((k + 1) * i5.size) := ⟨_, rfl⟩
  have hMs : M.size = (k + 1) * 3 := by rw [hM, size_madeCells, hz1]
  have hmk : (Instr.makeSlice 26 (.int .i64 ((k : Int) + 1)) (.int .i64 ((k : Int) + 1))).run Tryz.prog w = .ok (.slice (some ⟨w.heap.size, 0, none⟩) (k + 1) (k + 1)) (w.alloc (.cells M 114)) := by
    have h := run_make (P := Tryz.prog) w 26 114 i5 z Tryz.underlying26 hi hz .i64 .i64 ((k : Int) + 1) ((k : Int) + 1) (by omega) (by omega) (by rw [hz2]; omega) (by omega)
    have e : ((k : Int) + 1).toNat = k + 1 := by omega
    rw [e] at h
    rw [h, hM]
  have HT0 := Lib.hid (Tw.begin w PEdge.cells 3 k xs M 114 hMs)
  have HS0 := Lib.hid (show (w.alloc (.cells M 114)).heap.size = w.heap.size + 1 by simp)
  clear hM hMs hk hr
  go_enter Tryz.func73, Tryz.ntmps73
  go_wp2_with fail
  generalize w.alloc (.cells M 114) = W at *
  generalize w.heap.size = G at *
  go_loopw [4] (fun i wr => Hid (∃ j : Nat, i = .int .i64 j ∧ j ≤ k ∧ Tw w G PEdge.cells 3 k xs j wr ∧ G < wr.heap.size)) (fun i _ => k - (intOf i).toNat)
  case atStart => exact Lib.hid ⟨0, rfl, Nat.zero_le _, HT0.out, by rw [HS0.out]; omega⟩
  case round =>
    obtain ⟨j, rfl, hj, ht, hlt0⟩ := hrel.out
    clear hrel
    have HT := Lib.hid ht
    clear ht
    by_cases hlt : j < k
    · obtain ⟨x, hx⟩ : ∃ x, xs[j]? = some x := ⟨xs[j]'(by rw [HL.out]; exact hlt), List.getElem?_eq_getElem _⟩
      obtain ⟨b, o, rfl, _⟩ := HR.out.place (by rw [cellsOf_length _ 3 PEdge.cells_length, HL.out]; omega)
      have HCE := Lib.hid (fun (i : Nat) (u : Value) (hu : x.cells[i]? = some u) => show wr.cell? ⟨b, o + j * 3 + i, none⟩ = some u from rdc_cell PEdge.cells_length (HR.out.below HT.out.below) hx i u hu)
      have HROOM := Lib.hid (there_sub HT.out.room (show j * 3 + 3 ≤ (k + 1) * 3 by omega))
      have HN := Lib.hid (HT.out.next PEdge.cells_length hlt hx)
      have HNS := Lib.hid (show G < (wr.setCells G (j * 3) x.cells).heap.size from Nat.lt_of_lt_of_le hlt0 (Keep.setCells wr G (j * 3) x.cells).size)
      have HSZ := Lib.hid (show (Tryz.prog.info? 114).map (·.size) = some x.cells.length by rw [PEdge.cells_length]; exact sz_edge)
      have HONE := Lib.hid (PEdge.cells_one x)
      have HLEN := Lib.hid (PEdge.cells_length x)
      obtain ⟨cs, hcs⟩ : ∃ cs, cs = x.cells := ⟨_, rfl⟩
      rw [← hcs] at HCE HN HNS HSZ HONE HLEN
      obtain ⟨V, hV⟩ : ∃ V, V = cs.toArray := ⟨_, rfl⟩
      have HV := Lib.hid hV.symm
      have HT2 := Lib.hid (show V.toList = cs by rw [hV])
      have HR2 := Lib.hid (show wr.there G (j * 3) V.size by rw [hV]; simp only [List.size_toArray]; rw [HLEN.out]; exact HROOM.out)
      have HS2 := Lib.hid (show (Tryz.prog.info? 114).map (·.size) = some V.size by rw [hV]; exact HSZ.out)
      have HO2 := Lib.hid (show V.all (·.oneCell') = true by rw [hV]; exact all_oneCell_toArray HONE.out)
      rw [← HT2.out] at HN HNS
      clear hx hcs hV
      go_wp2_with (first | ((with_reducible refine wpList_load_elem (o := ⟨some 20, _, _, _, _, _⟩) ?_ 114 (.tmp 19) ?_ b (o + j * 3) ?_ cs V HV.out _ HCE.out Tryz.underlying114 ?_ HSZ.out ?_); rfl; rfl; rfl; rfl) | ((with_reducible refine wpList_store_mid (op := ⟨none, .store 114 (.tmp 21) (.tmp 20), _, _, _, _⟩) ?_ 114 (.tmp 21) (.tmp 20) ?_ G (j * 3) V ?_ ?_ HR2.out HS2.out HO2.out ?_); rfl; rfl; rfl; rfl))
      go_roundw
      case rel => exact Lib.hid ⟨j + 1, by go_num, by omega, HN.out, HNS.out⟩
      case measure => simp [intOf]; omega
    · obtain rfl : k = j := by omega
      go_wp2_with fail
      obtain ⟨MV, HMV, HMC⟩ := markEdge_op
      refine (HMC wr).mono ?_
      rintro e w2 ⟨rfl, hb2⟩
      clear HMC
      have HT2 := Lib.hid (HT.out.keep hb2 hlt0)
      have HROOM := Lib.hid (there_sub HT2.out.room (show k * 3 + 3 ≤ (k + 1) * 3 by omega))
      have HE := Lib.hid (HT2.out.end PEdge.cells_length HL.out (mark := MV.toList) (by rw [HMV]; rfl))
      have HR2 := Lib.hid (show w2.there G (k * 3) MV.size by rw [← Array.length_toList, HMV]; exact HROOM.out)
      have HS2 := Lib.hid (show (Tryz.prog.info? 114).map (·.size) = some MV.size by rw [← Array.length_toList, HMV]; exact sz_edge)
      have HO2 := Lib.hid (show MV.all (·.oneCell') = true by rw [← Array.toArray_toList (xs := MV), HMV]; exact all_oneCell_toArray markEc_one)
      have HMH := Lib.hid HMV
      clear HMV
      clear hb2
      go_wp2_with (first | ((with_reducible refine wpList_store_mid (op := ⟨none, .store 114 (.tmp 26) (.tmp 25), _, _, _, _⟩) ?_ 114 (.tmp 26) (.tmp 25) ?_ G (k * 3) MV ?_ ?_ HR2.out HS2.out HO2.out ?_); rfl; rfl; rfl; rfl))
      go_ret
      exact ⟨G, rfl, by rw [← HMH.out]; exact HE.out⟩

set_option maxHeartbeats 8000000 in
theorem twinPair_any (w : World) (ao : Option Addr) (k c : Nat) (xs : List PPair) (hk : xs.length = k) (hr : RdC w ao (cellsOf PPair.cells xs)) (hb : k ≤ 1048576) :
    Calls Tryz.prog 32 #[.slice ao k c] w fun e w' => ∃ G, e = .returned (.slice (some ⟨G, 0, none⟩) k (k + 1)) ∧ Twin w G PPair.cells xs markPc w' := by
  have HL := Lib.hid hk
  have HR := Lib.hid hr
  obtain ⟨i5, hi, hz0, hz1, hz2⟩ := infos info_pair
  obtain ⟨z, hz⟩ : ∃ z, i5.zero = some z := ⟨_, hz0⟩
  obtain ⟨M, hM⟩ : ∃ M, M = madeCells z.cells ((k + 1) * i5.size) := ⟨_, rfl⟩
  have hMs : M.size = (k + 1) * 2 := by rw [hM, size_madeCells, hz1]
  have hmk : (Instr.makeSlice 29 (.int .i64 ((k : Int) + 1)) (.int .i64 ((k : Int) + 1))).run Tryz.prog w = .ok (.slice (some ⟨w.heap.size, 0, none⟩) (k + 1) (k + 1)) (w.alloc (.cells M 69)) := by
    have h := run_make (P := Tryz.prog) w 29 69 i5 z Tryz.underlying29 hi hz .i64 .i64 ((k : Int) + 1) ((k : Int) + 1) (by omega) (by omega) (by rw [hz2]; omega) (by omega)
    have e : ((k : Int) + 1).toNat = k + 1 := by omega
    rw [e] at h
    rw [h, hM]
  have HT0 := Lib.hid (Tw.begin w PPair.cells 2 k xs M 69 hMs)
  have HS0 := Lib.hid (show (w.alloc (.cells M 69)).heap.size = w.heap.size + 1 by simp)
  clear hM hMs hk hr
  go_enter Tryz.func32, Tryz.ntmps32
  go_wp2_with fail
  generalize w.alloc (.cells M 69) = W at *
  generalize w.heap.size = G at *
  go_loopw [4] (fun i wr => Hid (∃ j : Nat, i = .int .i64 j ∧ j ≤ k ∧ Tw w G PPair.cells 2 k xs j wr ∧ G < wr.heap.size)) (fun i _ => k - (intOf i).toNat)
  case atStart => exact Lib.hid ⟨0, rfl, Nat.zero_le _, HT0.out, by rw [HS0.out]; omega⟩
  case round =>
    obtain ⟨j, rfl, hj, ht, hlt0⟩ := hrel.out
    clear hrel
    have HT := Lib.hid ht
    clear ht
    by_cases hlt : j < k
    · obtain ⟨x, hx⟩ : ∃ x, xs[j]? = some x := ⟨xs[j]'(by rw [HL.out]; exact hlt), List.getElem?_eq_getElem _⟩
      obtain ⟨b, o, rfl, _⟩ := HR.out.place (by rw [cellsOf_length _ 2 PPair.cells_length, HL.out]; omega)
      have HCE := Lib.hid (fun (i : Nat) (u : Value) (hu : x.cells[i]? = some u) => show wr.cell? ⟨b, o + j * 2 + i, none⟩ = some u from rdc_cell PPair.cells_length (HR.out.below HT.out.below) hx i u hu)
      have HROOM := Lib.hid (there_sub HT.out.room (show j * 2 + 2 ≤ (k + 1) * 2 by omega))
      have HN := Lib.hid (HT.out.next PPair.cells_length hlt hx)
      have HNS := Lib.hid (show G < (wr.setCells G (j * 2) x.cells).heap.size from Nat.lt_of_lt_of_le hlt0 (Keep.setCells wr G (j * 2) x.cells).size)
      have HSZ := Lib.hid (show (Tryz.prog.info? 69).map (·.size) = some x.cells.length by rw [PPair.cells_length]; exact sz_pair)
      have HONE := Lib.hid (PPair.cells_one x)
      have HLEN := Lib.hid (PPair.cells_length x)
      obtain ⟨cs, hcs⟩ : ∃ cs, cs = x.cells := ⟨_, rfl⟩
      rw [← hcs] at HCE HN HNS HSZ HONE HLEN
      obtain ⟨V, hV⟩ : ∃ V, V = cs.toArray := ⟨_, rfl⟩
      have HV := Lib.hid hV.symm
      have HT2 := Lib.hid (show V.toList = cs by rw [hV])
      have HR2 := Lib.hid (show wr.there G (j * 2) V.size by rw [hV]; simp only [List.size_toArray]; rw [HLEN.out]; exact HROOM.out)
      have HS2 := Lib.hid (show (Tryz.prog.info? 69).map (·.size) = some V.size by rw [hV]; exact HSZ.out)
      have HO2 := Lib.hid (show V.all (·.oneCell') = true by rw [hV]; exact all_oneCell_toArray HONE.out)
      rw [← HT2.out] at HN HNS
      clear hx hcs hV
      go_wp2_with (first | ((with_reducible refine wpList_load_elem (o := ⟨some 20, _, _, _, _, _⟩) ?_ 69 (.tmp 19) ?_ b (o + j * 2) ?_ cs V HV.out _ HCE.out Tryz.underlying69 ?_ HSZ.out ?_); rfl; rfl; rfl; rfl) | ((with_reducible refine wpList_store_mid (op := ⟨none, .store 69 (.tmp 21) (.tmp 20), _, _, _, _⟩) ?_ 69 (.tmp 21) (.tmp 20) ?_ G (j * 2) V ?_ ?_ HR2.out HS2.out HO2.out ?_); rfl; rfl; rfl; rfl))
      go_roundw
      case rel => exact Lib.hid ⟨j + 1, by go_num, by omega, HN.out, HNS.out⟩
      case measure => simp [intOf]; omega
    · obtain rfl : k = j := by omega
      go_wp2_with fail
      obtain ⟨MV, HMV, HMC⟩ := markPair_op
      refine (HMC wr).mono ?_
      rintro e w2 ⟨rfl, hb2⟩
      clear HMC
      have HT2 := Lib.hid (HT.out.keep hb2 hlt0)
      have HROOM := Lib.hid (there_sub HT2.out.room (show k * 2 + 2 ≤ (k + 1) * 2 by omega))
      have HE := Lib.hid (HT2.out.end PPair.cells_length HL.out (mark := MV.toList) (by rw [HMV]; rfl))
      have HR2 := Lib.hid (show w2.there G (k * 2) MV.size by rw [← Array.length_toList, HMV]; exact HROOM.out)
      have HS2 := Lib.hid (show (Tryz.prog.info? 69).map (·.size) = some MV.size by rw [← Array.length_toList, HMV]; exact sz_pair)
      have HO2 := Lib.hid (show MV.all (·.oneCell') = true by rw [← Array.toArray_toList (xs := MV), HMV]; exact all_oneCell_toArray markPc_one)
      have HMH := Lib.hid HMV
      clear HMV
      clear hb2
      go_wp2_with (first | ((with_reducible refine wpList_store_mid (op := ⟨none, .store 69 (.tmp 26) (.tmp 25), _, _, _, _⟩) ?_ 69 (.tmp 26) (.tmp 25) ?_ G (k * 2) MV ?_ ?_ HR2.out HS2.out HO2.out ?_); rfl; rfl; rfl; rfl))
      go_ret
      exact ⟨G, rfl, by rw [← HMH.out]; exact HE.out⟩
end Go.Proofs.YtcaicgipibcicaaGreat

/- Twins of lists of structs. Printed by wip/gentwin.py. -/
namespace Go.Proofs.YtcaicgipibcicaaGreat
set_option maxRecDepth 100000
set_option linter.unusedVariables false
set_option linter.unusedSimpArgs false
open Go.RowKit Go.Sort

set_option maxHeartbeats 8000000 in
theorem twinWaiting_any (w : World) (ao : Option Addr) (k c : Nat) (xs : List PWait) (hk : xs.length = k) (hr : RdC w ao (cellsOf PWait.cells xs)) (hb : k ≤ 1048576) :
    Calls Tryz.prog 38 #[.slice ao k c] w fun e w' => ∃ G, e = .returned (.slice (some ⟨G, 0, none⟩) k (k + 1)) ∧ Twin w G PWait.cells xs markWc w' := by
  have HL := Lib.hid hk
  have HR := Lib.hid hr
  obtain ⟨i5, hi, hz0, hz1, hz2⟩ := infos info_wait
  obtain ⟨z, hz⟩ : ∃ z, i5.zero = some z := ⟨_, hz0⟩
  obtain ⟨M, hM⟩ : ∃ M, M = madeCells z.cells ((k + 1) * i5.size) := ⟨_, rfl⟩
  have hMs : M.size = (k + 1) * 18 := by rw [hM, size_madeCells, hz1]
  have hmk : (Instr.makeSlice 24 (.int .i64 ((k : Int) + 1)) (.int .i64 ((k : Int) + 1))).run Tryz.prog w = .ok (.slice (some ⟨w.heap.size, 0, none⟩) (k + 1) (k + 1)) (w.alloc (.cells M 79)) := by
    have h := run_make (P := Tryz.prog) w 24 79 i5 z Tryz.underlying24 hi hz .i64 .i64 ((k : Int) + 1) ((k : Int) + 1) (by omega) (by omega) (by rw [hz2]; omega) (by omega)
    have e : ((k : Int) + 1).toNat = k + 1 := by omega
    rw [e] at h
    rw [h, hM]
  have HT0 := Lib.hid (Tw.begin w PWait.cells 18 k xs M 79 hMs)
  have HS0 := Lib.hid (show (w.alloc (.cells M 79)).heap.size = w.heap.size + 1 by simp)
  clear hM hMs hk hr
  go_enter Tryz.func38, Tryz.ntmps38
  go_wp2_with fail
  generalize w.alloc (.cells M 79) = W at *
  generalize w.heap.size = G at *
  go_loopw [4] (fun i wr => Hid (∃ j : Nat, i = .int .i64 j ∧ j ≤ k ∧ Tw w G PWait.cells 18 k xs j wr ∧ G < wr.heap.size)) (fun i _ => k - (intOf i).toNat)
  case atStart => exact Lib.hid ⟨0, rfl, Nat.zero_le _, HT0.out, by rw [HS0.out]; omega⟩
  case round =>
    obtain ⟨j, rfl, hj, ht, hlt0⟩ := hrel.out
    clear hrel
    have HT := Lib.hid ht
    clear ht
    by_cases hlt : j < k
    · obtain ⟨x, hx⟩ : ∃ x, xs[j]? = some x := ⟨xs[j]'(by rw [HL.out]; exact hlt), List.getElem?_eq_getElem _⟩
      obtain ⟨b, o, rfl, _⟩ := HR.out.place (by rw [cellsOf_length _ 18 PWait.cells_length, HL.out]; omega)
      have HCE := Lib.hid (fun (i : Nat) (u : Value) (hu : x.cells[i]? = some u) => show wr.cell? ⟨b, o + j * 18 + i, none⟩ = some u from rdc_cell PWait.cells_length (HR.out.below HT.out.below) hx i u hu)
      have HROOM := Lib.hid (there_sub HT.out.room (show j * 18 + 18 ≤ (k + 1) * 18 by omega))
      have HN := Lib.hid (HT.out.next PWait.cells_length hlt hx)
      have HNS := Lib.hid (show G < (wr.setCells G (j * 18) x.cells).heap.size from Nat.lt_of_lt_of_le hlt0 (Keep.setCells wr G (j * 18) x.cells).size)
      have HSZ := Lib.hid (show (Tryz.prog.info? 79).map (·.size) = some x.cells.length by rw [PWait.cells_length]; exact sz_wait)
      have HONE := Lib.hid (PWait.cells_one x)
      have HLEN := Lib.hid (PWait.cells_length x)
      obtain ⟨cs, hcs⟩ : ∃ cs, cs = x.cells := ⟨_, rfl⟩
      rw [← hcs] at HCE HN HNS HSZ HONE HLEN
      obtain ⟨V, hV⟩ : ∃ V, V = cs.toArray := ⟨_, rfl⟩
      have HV := Lib.hid hV.symm
      have HT2 := Lib.hid (show V.toList = cs by rw [hV])
      have HR2 := Lib.hid (show wr.there G (j * 18) V.size by rw [hV]; simp only [List.size_toArray]; rw [HLEN.out]; exact HROOM.out)
      have HS2 := Lib.hid (show (Tryz.prog.info? 79).map (·.size) = some V.size by rw [hV]; exact HSZ.out)
      have HO2 := Lib.hid (show V.all (·.oneCell') = true by rw [hV]; exact all_oneCell_toArray HONE.out)
      rw [← HT2.out] at HN HNS
      clear hx hcs hV
      go_wp2_with (first | ((with_reducible refine wpList_load_elem (o := ⟨some 20, _, _, _, _, _⟩) ?_ 79 (.tmp 19) ?_ b (o + j * 18) ?_ cs V HV.out _ HCE.out Tryz.underlying79 ?_ HSZ.out ?_); rfl; rfl; rfl; rfl) | ((with_reducible refine wpList_store_mid (op := ⟨none, .store 79 (.tmp 21) (.tmp 20), _, _, _, _⟩) ?_ 79 (.tmp 21) (.tmp 20) ?_ G (j * 18) V ?_ ?_ HR2.out HS2.out HO2.out ?_); rfl; rfl; rfl; rfl))
      go_roundw
      case rel => exact Lib.hid ⟨j + 1, by go_num, by omega, HN.out, HNS.out⟩
      case measure => simp [intOf]; omega
    · obtain rfl : k = j := by omega
      go_wp2_with fail
      obtain ⟨MV, HMV, HMC⟩ := markWaiting_op
      refine (HMC wr).mono ?_
      rintro e w2 ⟨rfl, hb2⟩
      clear HMC
      have HT2 := Lib.hid (HT.out.keep hb2 hlt0)
      have HROOM := Lib.hid (there_sub HT2.out.room (show k * 18 + 18 ≤ (k + 1) * 18 by omega))
      have HE := Lib.hid (HT2.out.end PWait.cells_length HL.out (mark := MV.toList) (by rw [HMV]; rfl))
      have HR2 := Lib.hid (show w2.there G (k * 18) MV.size by rw [← Array.length_toList, HMV]; exact HROOM.out)
      have HS2 := Lib.hid (show (Tryz.prog.info? 79).map (·.size) = some MV.size by rw [← Array.length_toList, HMV]; exact sz_wait)
      have HO2 := Lib.hid (show MV.all (·.oneCell') = true by rw [← Array.toArray_toList (xs := MV), HMV]; exact all_oneCell_toArray markWc_one)
      have HMH := Lib.hid HMV
      clear HMV
      clear hb2
      go_wp2_with (first | ((with_reducible refine wpList_store_mid (op := ⟨none, .store 79 (.tmp 26) (.tmp 25), _, _, _, _⟩) ?_ 79 (.tmp 26) (.tmp 25) ?_ G (k * 18) MV ?_ ?_ HR2.out HS2.out HO2.out ?_); rfl; rfl; rfl; rfl))
      go_ret
      exact ⟨G, rfl, by rw [← HMH.out]; exact HE.out⟩
end Go.Proofs.YtcaicgipibcicaaGreat

/- Twins of lists of structs. Printed by wip/gentwin.py. -/
namespace Go.Proofs.YtcaicgipibcicaaGreat
set_option maxRecDepth 100000
set_option linter.unusedVariables false
set_option linter.unusedSimpArgs false
open Go.RowKit Go.Sort

set_option maxHeartbeats 8000000 in
theorem twinIdle_any (w : World) (ao : Option Addr) (k c : Nat) (xs : List PIdle) (hk : xs.length = k) (hr : RdC w ao (cellsOf PIdle.cells xs)) (hb : k ≤ 1048576) :
    Calls Tryz.prog 39 #[.slice ao k c] w fun e w' => ∃ G, e = .returned (.slice (some ⟨G, 0, none⟩) k (k + 1)) ∧ Twin w G PIdle.cells xs markDc w' := by
  have HL := Lib.hid hk
  have HR := Lib.hid hr
  obtain ⟨i5, hi, hz0, hz1, hz2⟩ := infos info_idle
  obtain ⟨z, hz⟩ : ∃ z, i5.zero = some z := ⟨_, hz0⟩
  obtain ⟨M, hM⟩ : ∃ M, M = madeCells z.cells ((k + 1) * i5.size) := ⟨_, rfl⟩
  have hMs : M.size = (k + 1) * 14 := by rw [hM, size_madeCells, hz1]
  have hmk : (Instr.makeSlice 25 (.int .i64 ((k : Int) + 1)) (.int .i64 ((k : Int) + 1))).run Tryz.prog w = .ok (.slice (some ⟨w.heap.size, 0, none⟩) (k + 1) (k + 1)) (w.alloc (.cells M 83)) := by
    have h := run_make (P := Tryz.prog) w 25 83 i5 z Tryz.underlying25 hi hz .i64 .i64 ((k : Int) + 1) ((k : Int) + 1) (by omega) (by omega) (by rw [hz2]; omega) (by omega)
    have e : ((k : Int) + 1).toNat = k + 1 := by omega
    rw [e] at h
    rw [h, hM]
  have HT0 := Lib.hid (Tw.begin w PIdle.cells 14 k xs M 83 hMs)
  have HS0 := Lib.hid (show (w.alloc (.cells M 83)).heap.size = w.heap.size + 1 by simp)
  clear hM hMs hk hr
  go_enter Tryz.func39, Tryz.ntmps39
  go_wp2_with fail
  generalize w.alloc (.cells M 83) = W at *
  generalize w.heap.size = G at *
  go_loopw [4] (fun i wr => Hid (∃ j : Nat, i = .int .i64 j ∧ j ≤ k ∧ Tw w G PIdle.cells 14 k xs j wr ∧ G < wr.heap.size)) (fun i _ => k - (intOf i).toNat)
  case atStart => exact Lib.hid ⟨0, rfl, Nat.zero_le _, HT0.out, by rw [HS0.out]; omega⟩
  case round =>
    obtain ⟨j, rfl, hj, ht, hlt0⟩ := hrel.out
    clear hrel
    have HT := Lib.hid ht
    clear ht
    by_cases hlt : j < k
    · obtain ⟨x, hx⟩ : ∃ x, xs[j]? = some x := ⟨xs[j]'(by rw [HL.out]; exact hlt), List.getElem?_eq_getElem _⟩
      obtain ⟨b, o, rfl, _⟩ := HR.out.place (by rw [cellsOf_length _ 14 PIdle.cells_length, HL.out]; omega)
      have HCE := Lib.hid (fun (i : Nat) (u : Value) (hu : x.cells[i]? = some u) => show wr.cell? ⟨b, o + j * 14 + i, none⟩ = some u from rdc_cell PIdle.cells_length (HR.out.below HT.out.below) hx i u hu)
      have HROOM := Lib.hid (there_sub HT.out.room (show j * 14 + 14 ≤ (k + 1) * 14 by omega))
      have HN := Lib.hid (HT.out.next PIdle.cells_length hlt hx)
      have HNS := Lib.hid (show G < (wr.setCells G (j * 14) x.cells).heap.size from Nat.lt_of_lt_of_le hlt0 (Keep.setCells wr G (j * 14) x.cells).size)
      have HSZ := Lib.hid (show (Tryz.prog.info? 83).map (·.size) = some x.cells.length by rw [PIdle.cells_length]; exact sz_idle)
      have HONE := Lib.hid (PIdle.cells_one x)
      have HLEN := Lib.hid (PIdle.cells_length x)
      obtain ⟨cs, hcs⟩ : ∃ cs, cs = x.cells := ⟨_, rfl⟩
      rw [← hcs] at HCE HN HNS HSZ HONE HLEN
      obtain ⟨V, hV⟩ : ∃ V, V = cs.toArray := ⟨_, rfl⟩
      have HV := Lib.hid hV.symm
      have HT2 := Lib.hid (show V.toList = cs by rw [hV])
      have HR2 := Lib.hid (show wr.there G (j * 14) V.size by rw [hV]; simp only [List.size_toArray]; rw [HLEN.out]; exact HROOM.out)
      have HS2 := Lib.hid (show (Tryz.prog.info? 83).map (·.size) = some V.size by rw [hV]; exact HSZ.out)
      have HO2 := Lib.hid (show V.all (·.oneCell') = true by rw [hV]; exact all_oneCell_toArray HONE.out)
      rw [← HT2.out] at HN HNS
      clear hx hcs hV
      go_wp2_with (first | ((with_reducible refine wpList_load_elem (o := ⟨some 20, _, _, _, _, _⟩) ?_ 83 (.tmp 19) ?_ b (o + j * 14) ?_ cs V HV.out _ HCE.out Tryz.underlying83 ?_ HSZ.out ?_); rfl; rfl; rfl; rfl) | ((with_reducible refine wpList_store_mid (op := ⟨none, .store 83 (.tmp 21) (.tmp 20), _, _, _, _⟩) ?_ 83 (.tmp 21) (.tmp 20) ?_ G (j * 14) V ?_ ?_ HR2.out HS2.out HO2.out ?_); rfl; rfl; rfl; rfl))
      go_roundw
      case rel => exact Lib.hid ⟨j + 1, by go_num, by omega, HN.out, HNS.out⟩
      case measure => simp [intOf]; omega
    · obtain rfl : k = j := by omega
      go_wp2_with fail
      obtain ⟨MV, HMV, HMC⟩ := markIdle_op
      refine (HMC wr).mono ?_
      rintro e w2 ⟨rfl, hb2⟩
      clear HMC
      have HT2 := Lib.hid (HT.out.keep hb2 hlt0)
      have HROOM := Lib.hid (there_sub HT2.out.room (show k * 14 + 14 ≤ (k + 1) * 14 by omega))
      have HE := Lib.hid (HT2.out.end PIdle.cells_length HL.out (mark := MV.toList) (by rw [HMV]; rfl))
      have HR2 := Lib.hid (show w2.there G (k * 14) MV.size by rw [← Array.length_toList, HMV]; exact HROOM.out)
      have HS2 := Lib.hid (show (Tryz.prog.info? 83).map (·.size) = some MV.size by rw [← Array.length_toList, HMV]; exact sz_idle)
      have HO2 := Lib.hid (show MV.all (·.oneCell') = true by rw [← Array.toArray_toList (xs := MV), HMV]; exact all_oneCell_toArray markDc_one)
      have HMH := Lib.hid HMV
      clear HMV
      clear hb2
      go_wp2_with (first | ((with_reducible refine wpList_store_mid (op := ⟨none, .store 83 (.tmp 26) (.tmp 25), _, _, _, _⟩) ?_ 83 (.tmp 26) (.tmp 25) ?_ G (k * 14) MV ?_ ?_ HR2.out HS2.out HO2.out ?_); rfl; rfl; rfl; rfl))
      go_ret
      exact ⟨G, rfl, by rw [← HMH.out]; exact HE.out⟩
end Go.Proofs.YtcaicgipibcicaaGreat

/- Lists of structs that hold the same: SameW. Printed by wip/gensame3.py. -/
namespace Go.Proofs.YtcaicgipibcicaaGreat
set_option maxRecDepth 100000
set_option linter.unusedVariables false
set_option linter.unusedSimpArgs false
open Go.RowKit Go.Sort

set_option maxHeartbeats 8000000 in
theorem sameWaitings_any (w : World) (ao bo : Option Addr) (n c c' : Nat) (l : List PWait) (hl : l.length = n) (hr : RdC w ao (cellsOf PWait.cells l)) (hk : RdC w bo (cellsOf PWait.cells l)) (hn : n ≤ 9007199254740992) :
    Calls Tryz.prog 104 #[.slice ao n c, .slice bo n c'] w fun e w' => e = .returned (.bool true) ∧ Below w.heap.size w w' := by
  have HL := Lib.hid hl
  have HR := Lib.hid hr
  have HK := Lib.hid hk
  clear hl hr hk
  have b1 : ((n : Int) != (n : Int)) = false := by simp
  go_enter Tryz.func104, Tryz.ntmps104
  go_wp2_with fail
  go_loopw [5] (fun i wr => Hid (∃ j : Nat, i = .int .i64 j ∧ j ≤ n ∧ Below w.heap.size w wr)) (fun i _ => n - (intOf i).toNat)
  case atStart => exact Lib.hid ⟨0, rfl, Nat.zero_le _, Below.refl _ _⟩
  case round =>
    obtain ⟨j, rfl, hj, hbel⟩ := hrel.out
    clear hrel
    have HB := Lib.hid hbel
    clear hbel
    by_cases hlt : j < n
    · obtain ⟨x, hx⟩ : ∃ x, l[j]? = some x := ⟨l[j]'(by rw [HL.out]; exact hlt), List.getElem?_eq_getElem _⟩
      obtain ⟨b, o, rfl, _⟩ := HR.out.place (by rw [cellsOf_length _ 18 PWait.cells_length, HL.out]; omega)
      obtain ⟨b', o', rfl, _⟩ := HK.out.place (by rw [cellsOf_length _ 18 PWait.cells_length, HL.out]; omega)
      have hkb := Keep.of_below HB.out (Nat.le_refl _) (fun _ => False)
      have hc1 := Lib.hid (fun (i : Nat) (u : Value) (hu : x.cells[i]? = some u) => show wr.cell? ⟨b, o + j * 18 + i, none⟩ = some u from rdc_cell PWait.cells_length (HR.out.keep hkb (fun _ _ _ => id)) hx i u hu)
      have hc2 := Lib.hid (fun (i : Nat) (u : Value) (hu : x.cells[i]? = some u) => show wr.cell? ⟨b', o' + j * 18 + i, none⟩ = some u from rdc_cell PWait.cells_length (HK.out.keep hkb (fun _ _ _ => id)) hx i u hu)
      have hq : ∀ w, (Op.equalIn 10000 79 (.agg x.cells.toArray) (.agg x.cells.toArray)).run Tryz.prog w = .ok true w := fun w => by
        have h := eq_wait' x.r.i0 x.r.i0 x.r.i1 x.r.i1 x.r.i2 x.r.i2 x.r.i3 x.r.i3 x.r.i4 x.r.i4 x.r.i5 x.r.i5 x.r.i6 x.r.i6 x.r.i7 x.r.i7 x.r.fx x.r.fx x.r.fy x.r.fy x.r.tx x.r.tx x.r.ty x.r.ty x.r.seats x.r.seats x.r.classes x.r.classes x.r.base x.r.base x.r.ttl x.r.ttl x.since x.since x.number x.number w
        rw [bq_wait_refl x.r.i0 x.r.i1 x.r.i2 x.r.i3 x.r.i4 x.r.i5 x.r.i6 x.r.i7 x.r.fx x.r.fy x.r.tx x.r.ty x.r.seats x.r.classes x.r.base x.r.ttl x.since x.number] at h
        exact h
      have hsz := Lib.hid (show (Tryz.prog.info? 79).map (·.size) = some x.cells.length by rw [PWait.cells_length]; exact sz_wait)
      obtain ⟨cs, hcs⟩ : ∃ cs, cs = x.cells := ⟨_, rfl⟩
      rw [← hcs] at hc1 hc2 hq hsz
      obtain ⟨V, hV⟩ : ∃ V, V = cs.toArray := ⟨_, rfl⟩
      rw [← hV] at hq
      have HV := Lib.hid hV.symm
      clear hV
      clear hx hkb
      go_wp2_with fail
      refine wp_region_quiet_lit (by kernel_rfl) (by kernel_rfl) ?_
      iterate 3 (go_big_quiet_step (fail))
      go_big_quiet_want
      with_reducible refine quiet_load (o := ⟨some 20, _, _, _, _, _⟩) 79 (.tmp 19) ?_ b (o + j * 18) ?_ cs V HV.out _ hc1.out Tryz.underlying79 ?_ hsz.out ?_
      · rfl
      · rfl
      · rfl
      go_big_quiet_on
      simp only [Act.put, List.setIfInBounds_toArray, List.set_cons_zero, List.set_cons_succ]
      iterate 3 (go_big_quiet_step (fail))
      go_big_quiet_want
      with_reducible refine quiet_load (o := ⟨some 24, _, _, _, _, _⟩) 79 (.tmp 23) ?_ b' (o' + j * 18) ?_ cs V HV.out _ hc2.out Tryz.underlying79 ?_ hsz.out ?_
      · rfl
      · rfl
      · rfl
      go_big_quiet_on
      simp only [Act.put, List.setIfInBounds_toArray, List.set_cons_zero, List.set_cons_succ]
      go_big_quiet_step (fail)
      refine wpQuiet_nil ?_
      rintro _ ⟨nq, rfl⟩
      go_wp2_with fail
      go_roundw
      case rel => exact Lib.hid ⟨j + 1, by go_num, by omega, below_drewN HB.out _⟩
      case measure => simp [intOf]; omega
    · obtain rfl : n = j := by omega
      go_wp2_with fail
      go_ret
      exact ⟨rfl, HB.out⟩
end Go.Proofs.YtcaicgipibcicaaGreat
