/- Lists of structs that hold the same: SameD. Printed by wip/gensame3.py. -/
import Derived.Test.YtcaicgipibcicaaGreatQTw
import Derived.Test.YtcaicgipibcicaaGreatQSame2
import Derived.Test.YtcaicgipibcicaaGreatQLoadQ
import Derived.Test.YtcaicgipibcicaaGreatQSame3W
namespace Go.Proofs.YtcaicgipibcicaaGreat
set_option maxRecDepth 100000
set_option linter.unusedVariables false
set_option linter.unusedSimpArgs false
open Go.RowKit Go.Sort

set_option maxHeartbeats 8000000 in
theorem sameIdles_any (w : World) (ao bo : Option Addr) (n c c' : Nat) (l : List PIdle) (hl : l.length = n) (hr : RdC w ao (cellsOf PIdle.cells l)) (hk : RdC w bo (cellsOf PIdle.cells l)) (hn : n ≤ 9007199254740992) :
    Calls Tryz.prog 106 #[.slice ao n c, .slice bo n c'] w fun e w' => e = .returned (.bool true) ∧ Below w.heap.size w w' := by
  have HL := Lib.hid hl
  have HR := Lib.hid hr
  have HK := Lib.hid hk
  clear hl hr hk
  have b1 : ((n : Int) != (n : Int)) = false := by simp
  go_enter Tryz.func106, Tryz.ntmps106
  go_wp2_with fail
  go_loopw [5] (fun i wr => Hid (∃ j : Nat, i = .int .i64 j ∧ j ≤ n ∧ Below w.heap.size w wr)) (fun i _ => n - (intOf i).toNat)
  case atStart => exact Lib.hid ⟨0, rfl, Nat.zero_le _, Below.refl _ _⟩
  case round =>
    obtain ⟨j, rfl, hj, hbel⟩ := hrel.out
    clear hrel
    have HB := Lib.hid hbel
    clear hbel
    by_cases hlt : j < n
    · obtain ⟨x, hx⟩ : ∃ x, l[j]? = some x := ⟨l[j]'(by rw [HL.out]; exact hlt), List.getElem?_eq_getElem _⟩
      obtain ⟨b, o, rfl, _⟩ := HR.out.place (by rw [cellsOf_length _ 14 PIdle.cells_length, HL.out]; omega)
      obtain ⟨b', o', rfl, _⟩ := HK.out.place (by rw [cellsOf_length _ 14 PIdle.cells_length, HL.out]; omega)
      have hkb := Keep.of_below HB.out (Nat.le_refl _) (fun _ => False)
      have hc1 := Lib.hid (fun (i : Nat) (u : Value) (hu : x.cells[i]? = some u) => show wr.cell? ⟨b, o + j * 14 + i, none⟩ = some u from rdc_cell PIdle.cells_length (HR.out.keep hkb (fun _ _ _ => id)) hx i u hu)
      have hc2 := Lib.hid (fun (i : Nat) (u : Value) (hu : x.cells[i]? = some u) => show wr.cell? ⟨b', o' + j * 14 + i, none⟩ = some u from rdc_cell PIdle.cells_length (HK.out.keep hkb (fun _ _ _ => id)) hx i u hu)
      have hq : ∀ w, (Op.equalIn 10000 83 (.agg x.cells.toArray) (.agg x.cells.toArray)).run Tryz.prog w = .ok true w := fun w => by
        have h := eq_idle' x.d.i0 x.d.i0 x.d.i1 x.d.i1 x.d.i2 x.d.i2 x.d.i3 x.d.i3 x.d.i4 x.d.i4 x.d.i5 x.d.i5 x.d.i6 x.d.i6 x.d.i7 x.d.i7 x.d.ax x.d.ax x.d.ay x.d.ay x.d.seats x.d.seats x.d.cls x.d.cls x.d.radius x.d.radius x.number x.number w
        rw [bq_idle_refl x.d.i0 x.d.i1 x.d.i2 x.d.i3 x.d.i4 x.d.i5 x.d.i6 x.d.i7 x.d.ax x.d.ay x.d.seats x.d.cls x.d.radius x.number] at h
        exact h
      have hsz := Lib.hid (show (Tryz.prog.info? 83).map (·.size) = some x.cells.length by rw [PIdle.cells_length]; exact sz_idle)
      obtain ⟨cs, hcs⟩ : ∃ cs, cs = x.cells := ⟨_, rfl⟩
      rw [← hcs] at hc1 hc2 hq hsz
      obtain ⟨V, hV⟩ : ∃ V, V = cs.toArray := ⟨_, rfl⟩
      rw [← hV] at hq
      have HV := Lib.hid hV.symm
      clear hV
      clear hx hkb
      go_wp2_with fail
      refine wp_region_quiet_lit (by kernel_rfl) (by kernel_rfl) ?_
      iterate 3 (go_big_quiet_step (fail))
      go_big_quiet_want
      with_reducible refine quiet_load (o := ⟨some 20, _, _, _, _, _⟩) 83 (.tmp 19) ?_ b (o + j * 14) ?_ cs V HV.out _ hc1.out Tryz.underlying83 ?_ hsz.out ?_
      · rfl
      · rfl
      · rfl
      go_big_quiet_on
      simp only [Act.put, List.setIfInBounds_toArray, List.set_cons_zero, List.set_cons_succ]
      iterate 3 (go_big_quiet_step (fail))
      go_big_quiet_want
      with_reducible refine quiet_load (o := ⟨some 24, _, _, _, _, _⟩) 83 (.tmp 23) ?_ b' (o' + j * 14) ?_ cs V HV.out _ hc2.out Tryz.underlying83 ?_ hsz.out ?_
      · rfl
      · rfl
      · rfl
      go_big_quiet_on
      simp only [Act.put, List.setIfInBounds_toArray, List.set_cons_zero, List.set_cons_succ]
      go_big_quiet_step (fail)
      refine wpQuiet_nil ?_
      rintro _ ⟨nq, rfl⟩
      go_wp2_with fail
      go_roundw
      case rel => exact Lib.hid ⟨j + 1, by go_num, by omega, below_drewN HB.out _⟩
      case measure => simp [intOf]; omega
    · obtain rfl : n = j := by omega
      go_wp2_with fail
      go_ret
      exact ⟨rfl, HB.out⟩
end Go.Proofs.YtcaicgipibcicaaGreat

/- Lists of structs that hold the same: SameE. Printed by wip/gensame3.py. -/
namespace Go.Proofs.YtcaicgipibcicaaGreat
set_option maxRecDepth 100000
set_option linter.unusedVariables false
set_option linter.unusedSimpArgs false
open Go.RowKit Go.Sort

set_option maxHeartbeats 8000000 in
theorem sameEdges_any (w : World) (ao bo : Option Addr) (n c c' : Nat) (l : List PEdge) (hl : l.length = n) (hr : RdC w ao (cellsOf PEdge.cells l)) (hk : RdC w bo (cellsOf PEdge.cells l)) (hn : n ≤ 9007199254740992) :
    Calls Tryz.prog 139 #[.slice ao n c, .slice bo n c'] w fun e w' => e = .returned (.bool true) ∧ Below w.heap.size w w' := by
  have HL := Lib.hid hl
  have HR := Lib.hid hr
  have HK := Lib.hid hk
  clear hl hr hk
  have heq := eq_edge'
  have b1 : ((n : Int) != (n : Int)) = false := by simp
  go_enter Tryz.func139, Tryz.ntmps139
  go_wp2_with fail
  go_loopw [5] (fun i wr => Hid (∃ j : Nat, i = .int .i64 j ∧ j ≤ n ∧ Below w.heap.size w wr)) (fun i _ => n - (intOf i).toNat)
  case atStart => exact Lib.hid ⟨0, rfl, Nat.zero_le _, Below.refl _ _⟩
  case round =>
    obtain ⟨j, rfl, hj, hbel⟩ := hrel.out
    clear hrel
    have HB := Lib.hid hbel
    clear hbel
    by_cases hlt : j < n
    · obtain ⟨x, hx⟩ : ∃ x, l[j]? = some x := ⟨l[j]'(by rw [HL.out]; exact hlt), List.getElem?_eq_getElem _⟩
      obtain ⟨b, o, rfl, _⟩ := HR.out.place (by rw [cellsOf_length _ 3 PEdge.cells_length, HL.out]; omega)
      obtain ⟨b', o', rfl, _⟩ := HK.out.place (by rw [cellsOf_length _ 3 PEdge.cells_length, HL.out]; omega)
      have hkb := Keep.of_below HB.out (Nat.le_refl _) (fun _ => False)
      obtain ⟨x0, x1, x2⟩ := edge_at (HR.out.keep hkb (fun _ _ _ => id)) hx
      obtain ⟨y0, y1, y2⟩ := edge_at (HK.out.keep hkb (fun _ _ _ => id)) hx
      have hq := bq_edge_refl x.r x.c x.w
      clear hx hkb
      go_wp2_with fail
      go_quiet (fail)
      go_wp2_with fail
      go_roundw
      case rel => exact Lib.hid ⟨j + 1, by go_num, by omega, below_drewN HB.out _⟩
      case measure => simp [intOf]; omega
    · obtain rfl : n = j := by omega
      go_wp2_with fail
      go_ret
      exact ⟨rfl, HB.out⟩
end Go.Proofs.YtcaicgipibcicaaGreat

/- Lists of structs that hold the same: SameP. Printed by wip/gensame3.py. -/
namespace Go.Proofs.YtcaicgipibcicaaGreat
set_option maxRecDepth 100000
set_option linter.unusedVariables false
set_option linter.unusedSimpArgs false
open Go.RowKit Go.Sort

set_option maxHeartbeats 8000000 in
theorem samePairs_any (w : World) (ao bo : Option Addr) (n c c' : Nat) (l : List PPair) (hl : l.length = n) (hr : RdC w ao (cellsOf PPair.cells l)) (hk : RdC w bo (cellsOf PPair.cells l)) (hn : n ≤ 9007199254740992) :
    Calls Tryz.prog 141 #[.slice ao n c, .slice bo n c'] w fun e w' => e = .returned (.bool true) ∧ Below w.heap.size w w' := by
  have HL := Lib.hid hl
  have HR := Lib.hid hr
  have HK := Lib.hid hk
  clear hl hr hk
  have heq := eq_pair'
  have b1 : ((n : Int) != (n : Int)) = false := by simp
  go_enter Tryz.func141, Tryz.ntmps141
  go_wp2_with fail
  go_loopw [5] (fun i wr => Hid (∃ j : Nat, i = .int .i64 j ∧ j ≤ n ∧ Below w.heap.size w wr)) (fun i _ => n - (intOf i).toNat)
  case atStart => exact Lib.hid ⟨0, rfl, Nat.zero_le _, Below.refl _ _⟩
  case round =>
    obtain ⟨j, rfl, hj, hbel⟩ := hrel.out
    clear hrel
    have HB := Lib.hid hbel
    clear hbel
    by_cases hlt : j < n
    · obtain ⟨x, hx⟩ : ∃ x, l[j]? = some x := ⟨l[j]'(by rw [HL.out]; exact hlt), List.getElem?_eq_getElem _⟩
      obtain ⟨b, o, rfl, _⟩ := HR.out.place (by rw [cellsOf_length _ 2 PPair.cells_length, HL.out]; omega)
      obtain ⟨b', o', rfl, _⟩ := HK.out.place (by rw [cellsOf_length _ 2 PPair.cells_length, HL.out]; omega)
      have hkb := Keep.of_below HB.out (Nat.le_refl _) (fun _ => False)
      obtain ⟨x0, x1⟩ := pair_at (HR.out.keep hkb (fun _ _ _ => id)) hx
      obtain ⟨y0, y1⟩ := pair_at (HK.out.keep hkb (fun _ _ _ => id)) hx
      have hq := bq_pair_refl x.r x.c
      clear hx hkb
      go_wp2_with fail
      go_quiet (fail)
      go_wp2_with fail
      go_roundw
      case rel => exact Lib.hid ⟨j + 1, by go_num, by omega, below_drewN HB.out _⟩
      case measure => simp [intOf]; omega
    · obtain rfl : n = j := by omega
      go_wp2_with fail
      go_ret
      exact ⟨rfl, HB.out⟩
end Go.Proofs.YtcaicgipibcicaaGreat

/- Lists of structs that hold the same: SameI. Printed by wip/gensame3.py. -/
namespace Go.Proofs.YtcaicgipibcicaaGreat
set_option maxRecDepth 100000
set_option linter.unusedVariables false
set_option linter.unusedSimpArgs false
open Go.RowKit Go.Sort

set_option maxHeartbeats 8000000 in
theorem sameInts_any (w : World) (ao bo : Option Addr) (n c c' : Nat) (l : List Int) (hl : l.length = n) (hr : RdC w ao (cellsOf icell l)) (hk : RdC w bo (cellsOf icell l)) (hn : n ≤ 9007199254740992) :
    Calls Tryz.prog 143 #[.slice ao n c, .slice bo n c'] w fun e w' => e = .returned (.bool true) ∧ Below w.heap.size w w' := by
  have HL := Lib.hid hl
  have HR := Lib.hid hr
  have HK := Lib.hid hk
  clear hl hr hk
  have b1 : ((n : Int) != (n : Int)) = false := by simp
  go_enter Tryz.func143, Tryz.ntmps143
  go_wp2_with fail
  go_loopw [5] (fun i wr => Hid (∃ j : Nat, i = .int .i64 j ∧ j ≤ n ∧ Below w.heap.size w wr)) (fun i _ => n - (intOf i).toNat)
  case atStart => exact Lib.hid ⟨0, rfl, Nat.zero_le _, Below.refl _ _⟩
  case round =>
    obtain ⟨j, rfl, hj, hbel⟩ := hrel.out
    clear hrel
    have HB := Lib.hid hbel
    clear hbel
    by_cases hlt : j < n
    · obtain ⟨x, hx⟩ : ∃ x, l[j]? = some x := ⟨l[j]'(by rw [HL.out]; exact hlt), List.getElem?_eq_getElem _⟩
      obtain ⟨b, o, rfl, _⟩ := HR.out.place (by rw [cellsOf_length _ 1 icell_length, HL.out]; omega)
      obtain ⟨b', o', rfl, _⟩ := HK.out.place (by rw [cellsOf_length _ 1 icell_length, HL.out]; omega)
      have hkb := Keep.of_below HB.out (Nat.le_refl _) (fun _ => False)
      have x0 := int_at (HR.out.keep hkb (fun _ _ _ => id)) hx
      have y0 := int_at (HK.out.keep hkb (fun _ _ _ => id)) hx
      have hq : (x == x) = true := by simp
      clear hx hkb
      go_wp2_with fail
      go_quiet (fail)
      go_wp2_with fail
      go_roundw
      case rel => exact Lib.hid ⟨j + 1, by go_num, by omega, below_drewN HB.out _⟩
      case measure => simp [intOf]; omega
    · obtain rfl : n = j := by omega
      go_wp2_with fail
      go_ret
      exact ⟨rfl, HB.out⟩
end Go.Proofs.YtcaicgipibcicaaGreat

/- The mark behind a twin is still there; a twin is left as it was. Printed by wip/genleft.py. -/
namespace Go.Proofs.YtcaicgipibcicaaGreat
set_option maxRecDepth 100000
set_option linter.unusedVariables false
set_option linter.unusedSimpArgs false
open Go.RowKit Go.Sort


set_option maxHeartbeats 4000000 in
theorem isWaiting_any (w : World) (MV : Array Value) (hm : MV.toList = markWc) : Calls Tryz.prog 105 #[.agg MV, .int .i64 7777] w fun e w' => e = .returned (.bool true) ∧ Below w.heap.size w w' := by
  have HB := Lib.hid ((Below.refl w.heap.size w).alloc (Nat.le_refl _) (.cells MV 79))
  have HH := Lib.hid (heap_alloc_new w (.cells MV 79))
  have HC := Lib.hid (head_cells HH.out 18 (show markWc = MV.toList.take 18 by rw [hm]; rfl))
  have HV := Lib.hid (show (markWc).toArray = MV by rw [← hm])
  have heq : ∀ w, (Op.equalIn 10000 79 (.agg MV) (.agg #[.int .u8 0, .int .u8 0, .int .u8 0, .int .u8 0, .int .u8 0, .int .u8 0, .int .u8 0, .int .u8 0, .int .i16 0, .int .i16 0, .int .i16 0, .int .i16 0, .int .u8 0, .int .u8 0, .int .i64 0, .int .i64 0, .int .i64 0, .int .i64 (-8777)])).run Tryz.prog w = .ok true w := fun w => by
    rw [← HV.out]
    exact eq_wait' (0) (0) (0) (0) (0) (0) (0) (0) (0) (0) (0) (0) (0) (0) (0) (0) (0) (0) (0) (0) (0) (0) (0) (0) (0) (0) (0) (0) (0) (0) (0) (0) (0) (0) ((-8777)) ((-8777)) w
  clear hm
  go_enter Tryz.func105, Tryz.ntmps105
  go_wp2_with (first | ((with_reducible refine wpList_load_elem (o := ⟨some 5, _, _, _, _, _⟩) ?_ 79 (.tmp 2) ?_ w.heap.size 0 ?_ markWc MV HV.out _ HC.out Tryz.underlying79 ?_ ?_ ?_); rfl; rfl; rfl; rfl; exact sz_wait))
  go_ret
  exact ⟨rfl, HB.out⟩

set_option maxHeartbeats 4000000 in
theorem leftWaiting_any (w0 w : World) (G : Nat) (ao : Option Addr) (k c : Nat) (xs : List PWait) (hk : xs.length = k) (ht : w.rangeAt G 0 (cellsOf PWait.cells xs ++ markWc)) (hr : RdC w ao (cellsOf PWait.cells xs)) (hb : k ≤ 1048576) :
    Calls Tryz.prog 59 #[.slice (some ⟨G, 0, none⟩) k (k + 1), .slice ao k c] w fun e w' => e = .returned (.bool true) ∧ Below w.heap.size w w' := by
  have hlen : (cellsOf PWait.cells xs).length = k * 18 := by rw [cellsOf_length _ 18 PWait.cells_length, hk]
  have HR1 := Lib.hid (show RdC w (some ⟨G, 0, none⟩) (cellsOf PWait.cells xs) from .inr ⟨G, 0, rfl, fun j u hu => ht j u (by rw [List.getElem?_append_left (List.getElem?_eq_some_iff.1 hu).1]; exact hu)⟩)
  have HM := Lib.hid (fun (w' : World) (hb : Below w.heap.size w w') (j : Nat) (u : Value) (hu : markWc[j]? = some u) => show w'.cell? ⟨G, k * 18 + j, none⟩ = some u from
    (Keep.of_below hb (Nat.le_refl _) (fun _ => False)).cell (by
      have := ht (k * 18 + j) u (by rw [List.getElem?_append_right (by omega), hlen, Nat.add_sub_cancel_left]; exact hu)
      rwa [Nat.zero_add] at this) id)
  have HS := Lib.hid (sameWaitings_any w (some ⟨G, 0, none⟩) ao k (k + 1) c xs hk HR1.out hr (by omega))
  obtain ⟨MV, HMV⟩ : ∃ MV : Array Value, MV.toList = markWc := ⟨(markWc).toArray, rfl⟩
  have HI := Lib.hid (fun w => isWaiting_any w MV HMV)
  have HV := Lib.hid (show (markWc).toArray = MV by rw [← HMV])
  clear hk hr ht hlen HMV
  go_enter Tryz.func59, Tryz.ntmps59
  go_wp2_with fail
  refine HS.out.mono ?_
  rintro e w2 ⟨rfl, hb2⟩
  have HC := Lib.hid (HM.out w2 hb2)
  have HB2 := Lib.hid hb2
  clear hb2
  go_wp2_with (first | ((with_reducible refine wpList_load_g (o := ⟨some 17, _, _, _, _, _⟩) ?_ 79 (.tmp 16) ?_ G (k * 18) ?_ markWc MV HV.out _ HC.out Tryz.underlying79 ?_ ?_ ?_); rfl; rfl; rfl; rfl; exact sz_wait))
  refine (HI.out w2).mono ?_
  rintro e w3 ⟨rfl, hb3⟩
  have HB3 := Lib.hid (Below.next HB2.out hb3)
  clear hb3
  go_wp2_with fail
  go_ret
  exact ⟨rfl, HB3.out⟩

set_option maxHeartbeats 4000000 in
theorem isIdle_any (w : World) (MV : Array Value) (hm : MV.toList = markDc) : Calls Tryz.prog 107 #[.agg MV, .int .i64 7777] w fun e w' => e = .returned (.bool true) ∧ Below w.heap.size w w' := by
  have HB := Lib.hid ((Below.refl w.heap.size w).alloc (Nat.le_refl _) (.cells MV 83))
  have HH := Lib.hid (heap_alloc_new w (.cells MV 83))
  have HC := Lib.hid (head_cells HH.out 14 (show markDc = MV.toList.take 14 by rw [hm]; rfl))
  have HV := Lib.hid (show (markDc).toArray = MV by rw [← hm])
  have heq : ∀ w, (Op.equalIn 10000 83 (.agg MV) (.agg #[.int .u8 0, .int .u8 0, .int .u8 0, .int .u8 0, .int .u8 0, .int .u8 0, .int .u8 0, .int .u8 0, .int .i16 0, .int .i16 0, .int .u8 0, .int .u8 0, .int .i64 0, .int .i64 (-8777)])).run Tryz.prog w = .ok true w := fun w => by
    rw [← HV.out]
    exact eq_idle' (0) (0) (0) (0) (0) (0) (0) (0) (0) (0) (0) (0) (0) (0) (0) (0) (0) (0) (0) (0) (0) (0) (0) (0) (0) (0) ((-8777)) ((-8777)) w
  clear hm
  go_enter Tryz.func107, Tryz.ntmps107
  go_wp2_with (first | ((with_reducible refine wpList_load_elem (o := ⟨some 5, _, _, _, _, _⟩) ?_ 83 (.tmp 2) ?_ w.heap.size 0 ?_ markDc MV HV.out _ HC.out Tryz.underlying83 ?_ ?_ ?_); rfl; rfl; rfl; rfl; exact sz_idle))
  go_ret
  exact ⟨rfl, HB.out⟩

set_option maxHeartbeats 4000000 in
theorem leftIdle_any (w0 w : World) (G : Nat) (ao : Option Addr) (k c : Nat) (xs : List PIdle) (hk : xs.length = k) (ht : w.rangeAt G 0 (cellsOf PIdle.cells xs ++ markDc)) (hr : RdC w ao (cellsOf PIdle.cells xs)) (hb : k ≤ 1048576) :
    Calls Tryz.prog 60 #[.slice (some ⟨G, 0, none⟩) k (k + 1), .slice ao k c] w fun e w' => e = .returned (.bool true) ∧ Below w.heap.size w w' := by
  have hlen : (cellsOf PIdle.cells xs).length = k * 14 := by rw [cellsOf_length _ 14 PIdle.cells_length, hk]
  have HR1 := Lib.hid (show RdC w (some ⟨G, 0, none⟩) (cellsOf PIdle.cells xs) from .inr ⟨G, 0, rfl, fun j u hu => ht j u (by rw [List.getElem?_append_left (List.getElem?_eq_some_iff.1 hu).1]; exact hu)⟩)
  have HM := Lib.hid (fun (w' : World) (hb : Below w.heap.size w w') (j : Nat) (u : Value) (hu : markDc[j]? = some u) => show w'.cell? ⟨G, k * 14 + j, none⟩ = some u from
    (Keep.of_below hb (Nat.le_refl _) (fun _ => False)).cell (by
      have := ht (k * 14 + j) u (by rw [List.getElem?_append_right (by omega), hlen, Nat.add_sub_cancel_left]; exact hu)
      rwa [Nat.zero_add] at this) id)
  have HS := Lib.hid (sameIdles_any w (some ⟨G, 0, none⟩) ao k (k + 1) c xs hk HR1.out hr (by omega))
  obtain ⟨MV, HMV⟩ : ∃ MV : Array Value, MV.toList = markDc := ⟨(markDc).toArray, rfl⟩
  have HI := Lib.hid (fun w => isIdle_any w MV HMV)
  have HV := Lib.hid (show (markDc).toArray = MV by rw [← HMV])
  clear hk hr ht hlen HMV
  go_enter Tryz.func60, Tryz.ntmps60
  go_wp2_with fail
  refine HS.out.mono ?_
  rintro e w2 ⟨rfl, hb2⟩
  have HC := Lib.hid (HM.out w2 hb2)
  have HB2 := Lib.hid hb2
  clear hb2
  go_wp2_with (first | ((with_reducible refine wpList_load_g (o := ⟨some 17, _, _, _, _, _⟩) ?_ 83 (.tmp 16) ?_ G (k * 14) ?_ markDc MV HV.out _ HC.out Tryz.underlying83 ?_ ?_ ?_); rfl; rfl; rfl; rfl; exact sz_idle))
  refine (HI.out w2).mono ?_
  rintro e w3 ⟨rfl, hb3⟩
  have HB3 := Lib.hid (Below.next HB2.out hb3)
  clear hb3
  go_wp2_with fail
  go_ret
  exact ⟨rfl, HB3.out⟩

set_option maxHeartbeats 4000000 in
theorem isEdge_any (w : World) (MV : Array Value) (hm : MV.toList = markEc) : Calls Tryz.prog 140 #[.agg MV, .int .i64 7777] w fun e w' => e = .returned (.bool true) ∧ Below w.heap.size w w' := by
  have HB := Lib.hid ((Below.refl w.heap.size w).alloc (Nat.le_refl _) (.cells MV 114))
  have HH := Lib.hid (heap_alloc_new w (.cells MV 114))
  have HC := Lib.hid (head_cells HH.out 3 (show markEc = MV.toList.take 3 by rw [hm]; rfl))
  have HV := Lib.hid (show (markEc).toArray = MV by rw [← hm])
  have heq : ∀ w, (Op.equalIn 10000 114 (.agg MV) (.agg #[.int .i64 0, .int .i64 0, .int .i64 (-8777)])).run Tryz.prog w = .ok true w := fun w => by
    rw [← HV.out]
    exact eq_edge' (0) (0) (0) (0) ((-8777)) ((-8777)) w
  clear hm
  go_enter Tryz.func140, Tryz.ntmps140
  go_wp2_with (first | ((with_reducible refine wpList_load_elem (o := ⟨some 5, _, _, _, _, _⟩) ?_ 114 (.tmp 2) ?_ w.heap.size 0 ?_ markEc MV HV.out _ HC.out Tryz.underlying114 ?_ ?_ ?_); rfl; rfl; rfl; rfl; exact sz_edge))
  go_ret
  exact ⟨rfl, HB.out⟩

set_option maxHeartbeats 4000000 in
theorem leftEdge_any (w0 w : World) (G : Nat) (ao : Option Addr) (k c : Nat) (xs : List PEdge) (hk : xs.length = k) (ht : w.rangeAt G 0 (cellsOf PEdge.cells xs ++ markEc)) (hr : RdC w ao (cellsOf PEdge.cells xs)) (hb : k ≤ 1048576) :
    Calls Tryz.prog 108 #[.slice (some ⟨G, 0, none⟩) k (k + 1), .slice ao k c] w fun e w' => e = .returned (.bool true) ∧ Below w.heap.size w w' := by
  have hlen : (cellsOf PEdge.cells xs).length = k * 3 := by rw [cellsOf_length _ 3 PEdge.cells_length, hk]
  have HR1 := Lib.hid (show RdC w (some ⟨G, 0, none⟩) (cellsOf PEdge.cells xs) from .inr ⟨G, 0, rfl, fun j u hu => ht j u (by rw [List.getElem?_append_left (List.getElem?_eq_some_iff.1 hu).1]; exact hu)⟩)
  have HM := Lib.hid (fun (w' : World) (hb : Below w.heap.size w w') (j : Nat) (u : Value) (hu : markEc[j]? = some u) => show w'.cell? ⟨G, k * 3 + j, none⟩ = some u from
    (Keep.of_below hb (Nat.le_refl _) (fun _ => False)).cell (by
      have := ht (k * 3 + j) u (by rw [List.getElem?_append_right (by omega), hlen, Nat.add_sub_cancel_left]; exact hu)
      rwa [Nat.zero_add] at this) id)
  have HS := Lib.hid (sameEdges_any w (some ⟨G, 0, none⟩) ao k (k + 1) c xs hk HR1.out hr (by omega))
  obtain ⟨MV, HMV⟩ : ∃ MV : Array Value, MV.toList = markEc := ⟨(markEc).toArray, rfl⟩
  have HI := Lib.hid (fun w => isEdge_any w MV HMV)
  have HV := Lib.hid (show (markEc).toArray = MV by rw [← HMV])
  clear hk hr ht hlen HMV
  go_enter Tryz.func108, Tryz.ntmps108
  go_wp2_with fail
  refine HS.out.mono ?_
  rintro e w2 ⟨rfl, hb2⟩
  have HC := Lib.hid (HM.out w2 hb2)
  have HB2 := Lib.hid hb2
  clear hb2
  go_wp2_with (first | ((with_reducible refine wpList_load_g (o := ⟨some 17, _, _, _, _, _⟩) ?_ 114 (.tmp 16) ?_ G (k * 3) ?_ markEc MV HV.out _ HC.out Tryz.underlying114 ?_ ?_ ?_); rfl; rfl; rfl; rfl; exact sz_edge))
  refine (HI.out w2).mono ?_
  rintro e w3 ⟨rfl, hb3⟩
  have HB3 := Lib.hid (Below.next HB2.out hb3)
  clear hb3
  go_wp2_with fail
  go_ret
  exact ⟨rfl, HB3.out⟩

set_option maxHeartbeats 4000000 in
theorem isPair_any (w : World) (MV : Array Value) (hm : MV.toList = markPc) : Calls Tryz.prog 142 #[.agg MV, .int .i64 7777] w fun e w' => e = .returned (.bool true) ∧ Below w.heap.size w w' := by
  have HB := Lib.hid ((Below.refl w.heap.size w).alloc (Nat.le_refl _) (.cells MV 69))
  have HH := Lib.hid (heap_alloc_new w (.cells MV 69))
  have HC := Lib.hid (head_cells HH.out 2 (show markPc = MV.toList.take 2 by rw [hm]; rfl))
  have HV := Lib.hid (show (markPc).toArray = MV by rw [← hm])
  have heq : ∀ w, (Op.equalIn 10000 69 (.agg MV) (.agg #[.int .i64 (-8777), .int .i64 0])).run Tryz.prog w = .ok true w := fun w => by
    rw [← HV.out]
    exact eq_pair' ((-8777)) ((-8777)) (0) (0) w
  clear hm
  go_enter Tryz.func142, Tryz.ntmps142
  go_wp2_with (first | ((with_reducible refine wpList_load_elem (o := ⟨some 5, _, _, _, _, _⟩) ?_ 69 (.tmp 2) ?_ w.heap.size 0 ?_ markPc MV HV.out _ HC.out Tryz.underlying69 ?_ ?_ ?_); rfl; rfl; rfl; rfl; exact sz_pair))
  go_ret
  exact ⟨rfl, HB.out⟩

set_option maxHeartbeats 4000000 in
theorem leftPair_any (w0 w : World) (G : Nat) (ao : Option Addr) (k c : Nat) (xs : List PPair) (hk : xs.length = k) (ht : w.rangeAt G 0 (cellsOf PPair.cells xs ++ markPc)) (hr : RdC w ao (cellsOf PPair.cells xs)) (hb : k ≤ 1048576) :
    Calls Tryz.prog 109 #[.slice (some ⟨G, 0, none⟩) k (k + 1), .slice ao k c] w fun e w' => e = .returned (.bool true) ∧ Below w.heap.size w w' := by
  have hlen : (cellsOf PPair.cells xs).length = k * 2 := by rw [cellsOf_length _ 2 PPair.cells_length, hk]
  have HR1 := Lib.hid (show RdC w (some ⟨G, 0, none⟩) (cellsOf PPair.cells xs) from .inr ⟨G, 0, rfl, fun j u hu => ht j u (by rw [List.getElem?_append_left (List.getElem?_eq_some_iff.1 hu).1]; exact hu)⟩)
  have HM := Lib.hid (fun (w' : World) (hb : Below w.heap.size w w') (j : Nat) (u : Value) (hu : markPc[j]? = some u) => show w'.cell? ⟨G, k * 2 + j, none⟩ = some u from
    (Keep.of_below hb (Nat.le_refl _) (fun _ => False)).cell (by
      have := ht (k * 2 + j) u (by rw [List.getElem?_append_right (by omega), hlen, Nat.add_sub_cancel_left]; exact hu)
      rwa [Nat.zero_add] at this) id)
  have HS := Lib.hid (samePairs_any w (some ⟨G, 0, none⟩) ao k (k + 1) c xs hk HR1.out hr (by omega))
  obtain ⟨MV, HMV⟩ : ∃ MV : Array Value, MV.toList = markPc := ⟨(markPc).toArray, rfl⟩
  have HI := Lib.hid (fun w => isPair_any w MV HMV)
  have HV := Lib.hid (show (markPc).toArray = MV by rw [← HMV])
  clear hk hr ht hlen HMV
  go_enter Tryz.func109, Tryz.ntmps109
  go_wp2_with fail
  refine HS.out.mono ?_
  rintro e w2 ⟨rfl, hb2⟩
  have HC := Lib.hid (HM.out w2 hb2)
  have HB2 := Lib.hid hb2
  clear hb2
  go_wp2_with (first | ((with_reducible refine wpList_load_g (o := ⟨some 17, _, _, _, _, _⟩) ?_ 69 (.tmp 16) ?_ G (k * 2) ?_ markPc MV HV.out _ HC.out Tryz.underlying69 ?_ ?_ ?_); rfl; rfl; rfl; rfl; exact sz_pair))
  refine (HI.out w2).mono ?_
  rintro e w3 ⟨rfl, hb3⟩
  have HB3 := Lib.hid (Below.next HB2.out hb3)
  clear hb3
  go_wp2_with fail
  go_ret
  exact ⟨rfl, HB3.out⟩
end Go.Proofs.YtcaicgipibcicaaGreat
