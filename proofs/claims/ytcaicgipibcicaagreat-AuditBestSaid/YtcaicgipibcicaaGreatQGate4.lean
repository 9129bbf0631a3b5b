/- The journal's gate: lists are written. Printed by wip/gengate4.py. -/
import Derived.Test.YtcaicgipibcicaaGreatQGate3
namespace Go.Proofs.YtcaicgipibcicaaGreat
set_option maxRecDepth 100000
set_option linter.unusedVariables false
set_option linter.unusedSimpArgs false
open Go.RowKit Go.Sort

def listB {α : Type} (f : α → List Int) (xs : List α) : List Int := varB xs.length ++ xs.flatMap f
theorem listB_len {α : Type} {f : α → List Int} {xs : List α} {n : Nat} (h : ∀ x ∈ xs, (f x).length ≤ 100) (hn : xs.length = n) (h2 : n ≤ 1048576) : (listB f xs).length ≤ 104857700 := by
  have h1 := enc_len h
  have h3 := varB_ten (n := xs.length) (by omega)
  rw [listB, List.length_append]
  omega
theorem RdC.old {w : World} {b o : Nat} {l : List Value} (h : RdC w (some ⟨b, o, none⟩) l) (h0 : l ≠ []) : b < w.heap.size := by
  rcases h with h | ⟨b', o', he, hc⟩
  · exact absurd h h0
  · cases he
    cases l with
    | nil => exact absurd rfl h0
    | cons a l => exact World.block_lt_of_cell? w ⟨b, o + 0, none⟩ (hc 0 a rfl)

theorem enter_listW (args : Array Value) (w : World) : (callFunc 164 args).run Tryz.prog w = .ok (.enter 164 args) w := by kernel_rfl
set_option maxHeartbeats 8000000 in
theorem listW_any (wS w : World) (GB WB : Nat) (sv : Value) (l : List Int) (h : Gt wS GB WB sv l w) (RB off : Nat) (ao : Option Addr) (n c : Nat) (hs : w.cell? ⟨RB, off, none⟩ = some (.slice ao n c)) (hfr : Free sv WB RB) (xs : List PWait) (hx : xs.length = n) (hr : RdC wS ao (cellsOf PWait.cells xs))
    (hok : ∀ x ∈ xs, x.Ok) (hnn : ∀ x ∈ xs, 0 ≤ x.since ∧ 0 ≤ x.number) (hn : n ≤ 1048576) (mx : Int) (hl : l.length ≤ 700000000) :
    Calls Tryz.prog 163 #[.pointer (some ⟨GB, 0, none⟩), .pointer (some ⟨RB, off, none⟩), .int .i64 mx, .func (.func 164) #[.pointer (some ⟨GB, 0, none⟩)] #[]] w fun e w' => e = .returned (.tuple #[]) ∧ GWrote wS GB WB sv (l ++ listB waitB xs) w w' := by
  have H := Lib.hid h
  have HFR := Lib.hid hfr
  have HX := Lib.hid hx
  have HR := Lib.hid hr
  have HOK := Lib.hid hok
  have HNO := Lib.hid hnn
  have HS := Lib.hid hs
  have hRB : RB < w.heap.size := World.block_lt_of_cell? w _ hs
  have hrun := enter_listW
  clear h hfr hx hr hok hnn
  go_enter Tryz.func163, Tryz.ntmps163
  go_wp2_with fail
  have HG0 := Lib.hid (H.out.alloc (.cells #[.int .i64 n] 3))
  have HBX0 := Lib.hid (ptr_cell (heap_alloc_new w (.cells #[.int .i64 n] 3)))
  have HFL := Lib.hid (Free.new H.out (b := w.heap.size) (by omega))
  refine (nat_any wS (w.alloc (.cells #[.int .i64 n] 3)) GB WB sv l HG0.out w.heap.size 0 n mx HBX0.out (by omega) ⟨by omega, by omega⟩ (by omega)).mono ?_
  rintro e w1 ⟨rfl, hb1⟩
  rw [Int.toNat_natCast] at hb1
  have HE0 := Lib.hid hb1
  obtain ⟨svx, hgx, hkx, hnx⟩ := hb1
  have gx := hgx.cells
  have HSA := Lib.hid ((Keep.alloc (fun _ => False) w (.cells #[.int .i64 n] 3)).cell HS.out id)
  clear hgx hkx hnx hs
  go_wp2_with fail
  clear gx
  go_loopw [9] (fun i wr => Hid (∃ k : Nat, i = .int .i64 k ∧ k ≤ n ∧ GWrote wS GB WB sv (l ++ varB n ++ (xs.take k).flatMap waitB) (w.alloc (.cells #[.int .i64 n] 3)) wr)) (fun i _ => n - (intOf i).toNat)
  case atStart => exact Lib.hid ⟨0, rfl, Nat.zero_le _, by simpa using HE0.out⟩
  case round =>
    clear HE0
    obtain ⟨k, rfl, hk, hw⟩ := hrel.out
    clear hrel
    have HW := Lib.hid hw
    obtain ⟨sv1, hg, hkp, hn1⟩ := hw
    have HG := Lib.hid hg
    have HKP := Lib.hid hkp
    have HN := Lib.hid hn1
    clear hg hkp hn1
    have g0 := HG.out.cells
    have c0 := HKP.out.cell HBX0.out HFL.out.not
    have c1 := HKP.out.cell HSA.out HFR.out.not
    by_cases hlt : k < n
    · obtain ⟨x, hx⟩ : ∃ x, xs[k]? = some x := ⟨xs[k]'(by rw [HX.out]; exact hlt), List.getElem?_eq_getElem _⟩
      obtain ⟨b, o, rfl, _⟩ := HR.out.place (by rw [cellsOf_length _ 18 PWait.cells_length, HX.out]; omega)
      have hbS : b < wS.heap.size := HR.out.old (fun he => by have := congrArg List.length he; rw [cellsOf_length _ 18 PWait.cells_length, HX.out] at this; simp at this; omega)
      have HFE := Lib.hid (Free.old HG.out hbS)
      have HCE := Lib.hid (fun (j : Nat) (u : Value) (hu : x.cells[j]? = some u) => show wr.cell? ⟨b, o + k * 18 + j, none⟩ = some u from rdc_cell PWait.cells_length (HR.out.below HG.out.below) hx j u hu)
      have HXO := Lib.hid (HOK.out x (List.mem_of_getElem? hx))
      have HNN := Lib.hid (HNO.out x (List.mem_of_getElem? hx))
      have HT := Lib.hid (take_enc waitB hx)
      have hlen : ((xs.take k).flatMap waitB).length ≤ 104857600 := by
        have h1 := enc_len (f := waitB) (L := xs.take k) (fun y hy => waitB_len (HOK.out y (List.mem_of_mem_take hy)))
        rw [List.length_take] at h1
        omega
      have hvn := varB_ten (n := n) (by omega)
      clear hx hbS
      go_wp2_with fail
      refine (stop_any wS wr GB WB sv1 _ HG.out).mono ?_
      rintro e w2 ⟨rfl, he2⟩
      replace he2 := he2.symm
      subst he2
      go_wp2_with fail
      refine (waiting_any wS wr GB WB sv1 (l ++ varB n ++ (xs.take k).flatMap waitB) HG.out b (o + k * 18) x HXO.out HCE.out HFE.out HNN.out.1 HNN.out.2 (by rw [List.length_append, List.length_append]; omega)).mono ?_
      rintro r w2 ⟨rfl, hb2⟩
      have HE := Lib.hid (show GWrote wS GB WB sv (l ++ varB n ++ (xs.take (k + 1)).flatMap waitB) (w.alloc (.cells #[.int .i64 n] 3)) w2 from by rw [HT.out, ← List.append_assoc]; exact GWrote.step HKP.out HN.out hb2)
      clear hb2 c0 c1 g0
      go_wp2_with fail
      go_roundw
      case rel => exact Lib.hid ⟨k + 1, by go_num, by omega, HE.out⟩
      case measure => simp [intOf]; omega
    · obtain rfl : n = k := by omega
      have HE := Lib.hid (show GWrote wS GB WB sv (l ++ listB waitB xs) w wr from by
        have h1 := HW.out.after (Keep.alloc _ _ _)
        rw [List.take_of_length_le (by rw [HX.out]; exact Nat.le_refl _), List.append_assoc] at h1
        rw [listB, HX.out]
        exact h1)
      go_wp2_with fail
      exact bodyPost_end (v := .tuple #[]) (by simp [results, Tryz.results163, go_sem]) rfl ⟨rfl, HE.out⟩

theorem enter_listD (args : Array Value) (w : World) : (callFunc 166 args).run Tryz.prog w = .ok (.enter 166 args) w := by kernel_rfl
set_option maxHeartbeats 8000000 in
theorem listD_any (wS w : World) (GB WB : Nat) (sv : Value) (l : List Int) (h : Gt wS GB WB sv l w) (RB off : Nat) (ao : Option Addr) (n c : Nat) (hs : w.cell? ⟨RB, off, none⟩ = some (.slice ao n c)) (hfr : Free sv WB RB) (xs : List PIdle) (hx : xs.length = n) (hr : RdC wS ao (cellsOf PIdle.cells xs))
    (hok : ∀ x ∈ xs, x.Ok) (hnn : ∀ x ∈ xs, 0 ≤ x.number) (hn : n ≤ 1048576) (mx : Int) (hl : l.length ≤ 700000000) :
    Calls Tryz.prog 165 #[.pointer (some ⟨GB, 0, none⟩), .pointer (some ⟨RB, off, none⟩), .int .i64 mx, .func (.func 166) #[.pointer (some ⟨GB, 0, none⟩)] #[]] w fun e w' => e = .returned (.tuple #[]) ∧ GWrote wS GB WB sv (l ++ listB idleB xs) w w' := by
  have H := Lib.hid h
  have HFR := Lib.hid hfr
  have HX := Lib.hid hx
  have HR := Lib.hid hr
  have HOK := Lib.hid hok
  have HNO := Lib.hid hnn
  have HS := Lib.hid hs
  have hRB : RB < w.heap.size := World.block_lt_of_cell? w _ hs
  have hrun := enter_listD
  clear h hfr hx hr hok hnn
  go_enter Tryz.func165, Tryz.ntmps165
  go_wp2_with fail
  have HG0 := Lib.hid (H.out.alloc (.cells #[.int .i64 n] 3))
  have HBX0 := Lib.hid (ptr_cell (heap_alloc_new w (.cells #[.int .i64 n] 3)))
  have HFL := Lib.hid (Free.new H.out (b := w.heap.size) (by omega))
  refine (nat_any wS (w.alloc (.cells #[.int .i64 n] 3)) GB WB sv l HG0.out w.heap.size 0 n mx HBX0.out (by omega) ⟨by omega, by omega⟩ (by omega)).mono ?_
  rintro e w1 ⟨rfl, hb1⟩
  rw [Int.toNat_natCast] at hb1
  have HE0 := Lib.hid hb1
  obtain ⟨svx, hgx, hkx, hnx⟩ := hb1
  have gx := hgx.cells
  have HSA := Lib.hid ((Keep.alloc (fun _ => False) w (.cells #[.int .i64 n] 3)).cell HS.out id)
  clear hgx hkx hnx hs
  go_wp2_with fail
  clear gx
  go_loopw [9] (fun i wr => Hid (∃ k : Nat, i = .int .i64 k ∧ k ≤ n ∧ GWrote wS GB WB sv (l ++ varB n ++ (xs.take k).flatMap idleB) (w.alloc (.cells #[.int .i64 n] 3)) wr)) (fun i _ => n - (intOf i).toNat)
  case atStart => exact Lib.hid ⟨0, rfl, Nat.zero_le _, by simpa using HE0.out⟩
  case round =>
    clear HE0
    obtain ⟨k, rfl, hk, hw⟩ := hrel.out
    clear hrel
    have HW := Lib.hid hw
    obtain ⟨sv1, hg, hkp, hn1⟩ := hw
    have HG := Lib.hid hg
    have HKP := Lib.hid hkp
    have HN := Lib.hid hn1
    clear hg hkp hn1
    have g0 := HG.out.cells
    have c0 := HKP.out.cell HBX0.out HFL.out.not
    have c1 := HKP.out.cell HSA.out HFR.out.not
    by_cases hlt : k < n
    · obtain ⟨x, hx⟩ : ∃ x, xs[k]? = some x := ⟨xs[k]'(by rw [HX.out]; exact hlt), List.getElem?_eq_getElem _⟩
      obtain ⟨b, o, rfl, _⟩ := HR.out.place (by rw [cellsOf_length _ 14 PIdle.cells_length, HX.out]; omega)
      have hbS : b < wS.heap.size := HR.out.old (fun he => by have := congrArg List.length he; rw [cellsOf_length _ 14 PIdle.cells_length, HX.out] at this; simp at this; omega)
      have HFE := Lib.hid (Free.old HG.out hbS)
      have HCE := Lib.hid (fun (j : Nat) (u : Value) (hu : x.cells[j]? = some u) => show wr.cell? ⟨b, o + k * 14 + j, none⟩ = some u from rdc_cell PIdle.cells_length (HR.out.below HG.out.below) hx j u hu)
      have HXO := Lib.hid (HOK.out x (List.mem_of_getElem? hx))
      have HNN := Lib.hid (HNO.out x (List.mem_of_getElem? hx))
      have HT := Lib.hid (take_enc idleB hx)
      have hlen : ((xs.take k).flatMap idleB).length ≤ 104857600 := by
        have h1 := enc_len (f := idleB) (L := xs.take k) (fun y hy => idleB_len (HOK.out y (List.mem_of_mem_take hy)))
        rw [List.length_take] at h1
        omega
      have hvn := varB_ten (n := n) (by omega)
      clear hx hbS
      go_wp2_with fail
      refine (stop_any wS wr GB WB sv1 _ HG.out).mono ?_
      rintro e w2 ⟨rfl, he2⟩
      replace he2 := he2.symm
      subst he2
      go_wp2_with fail
      refine (idle_any wS wr GB WB sv1 (l ++ varB n ++ (xs.take k).flatMap idleB) HG.out b (o + k * 14) x HXO.out HCE.out HFE.out HNN.out (by rw [List.length_append, List.length_append]; omega)).mono ?_
      rintro r w2 ⟨rfl, hb2⟩
      have HE := Lib.hid (show GWrote wS GB WB sv (l ++ varB n ++ (xs.take (k + 1)).flatMap idleB) (w.alloc (.cells #[.int .i64 n] 3)) w2 from by rw [HT.out, ← List.append_assoc]; exact GWrote.step HKP.out HN.out hb2)
      clear hb2 c0 c1 g0
      go_wp2_with fail
      go_roundw
      case rel => exact Lib.hid ⟨k + 1, by go_num, by omega, HE.out⟩
      case measure => simp [intOf]; omega
    · obtain rfl : n = k := by omega
      have HE := Lib.hid (show GWrote wS GB WB sv (l ++ listB idleB xs) w wr from by
        have h1 := HW.out.after (Keep.alloc _ _ _)
        rw [List.take_of_length_le (by rw [HX.out]; exact Nat.le_refl _), List.append_assoc] at h1
        rw [listB, HX.out]
        exact h1)
      go_wp2_with fail
      exact bodyPost_end (v := .tuple #[]) (by simp [results, Tryz.results165, go_sem]) rfl ⟨rfl, HE.out⟩

theorem enter_listE (args : Array Value) (w : World) : (callFunc 168 args).run Tryz.prog w = .ok (.enter 168 args) w := by kernel_rfl
set_option maxHeartbeats 8000000 in
theorem listE_any (wS w : World) (GB WB : Nat) (sv : Value) (l : List Int) (h : Gt wS GB WB sv l w) (RB off : Nat) (ao : Option Addr) (n c : Nat) (hs : w.cell? ⟨RB, off, none⟩ = some (.slice ao n c)) (hfr : Free sv WB RB) (xs : List PEdge) (hx : xs.length = n) (hr : RdC wS ao (cellsOf PEdge.cells xs))
    (hok : ∀ x ∈ xs, x.Ok) (hnn : ∀ x ∈ xs, 0 ≤ x.r ∧ 0 ≤ x.c ∧ 0 ≤ x.w) (hn : n ≤ 1048576) (mx : Int) (hl : l.length ≤ 700000000) (BX : Nat) (hbx : w.heap[BX]? = some (.cells #[.pointer (some ⟨GB, 0, none⟩)] 142 (0, 0))) (hfb : Free sv WB BX) :
    Calls Tryz.prog 167 #[.pointer (some ⟨GB, 0, none⟩), .pointer (some ⟨RB, off, none⟩), .int .i64 mx, .func (.func 168) #[] #[.pointer (some ⟨BX, 0, none⟩)]] w fun e w' => e = .returned (.tuple #[]) ∧ GWrote wS GB WB sv (l ++ listB edgeB xs) w w' := by
  have H := Lib.hid h
  have HFR := Lib.hid hfr
  have HX := Lib.hid hx
  have HR := Lib.hid hr
  have HOK := Lib.hid hok
  have HNO := Lib.hid hnn
  have HS := Lib.hid hs
  have hRB : RB < w.heap.size := World.block_lt_of_cell? w _ hs
  have hrun := enter_listE
  have HBX := Lib.hid hbx
  have HFB := Lib.hid hfb
  have HBL := Lib.hid (lt_of_block hbx)
  clear hbx hfb
  clear h hfr hx hr hok hnn
  go_enter Tryz.func167, Tryz.ntmps167
  go_wp2_with fail
  have HG0 := Lib.hid (H.out.alloc (.cells #[.int .i64 n] 3))
  have HBX0 := Lib.hid (ptr_cell (heap_alloc_new w (.cells #[.int .i64 n] 3)))
  have HFL := Lib.hid (Free.new H.out (b := w.heap.size) (by omega))
  refine (nat_any wS (w.alloc (.cells #[.int .i64 n] 3)) GB WB sv l HG0.out w.heap.size 0 n mx HBX0.out (by omega) ⟨by omega, by omega⟩ (by omega)).mono ?_
  rintro e w1 ⟨rfl, hb1⟩
  rw [Int.toNat_natCast] at hb1
  have HE0 := Lib.hid hb1
  obtain ⟨svx, hgx, hkx, hnx⟩ := hb1
  have gx := hgx.cells
  have HSA := Lib.hid ((Keep.alloc (fun _ => False) w (.cells #[.int .i64 n] 3)).cell HS.out id)
  clear hgx hkx hnx hs
  go_wp2_with fail
  clear gx
  go_loopw [9] (fun i wr => Hid (∃ k : Nat, i = .int .i64 k ∧ k ≤ n ∧ GWrote wS GB WB sv (l ++ varB n ++ (xs.take k).flatMap edgeB) (w.alloc (.cells #[.int .i64 n] 3)) wr)) (fun i _ => n - (intOf i).toNat)
  case atStart => exact Lib.hid ⟨0, rfl, Nat.zero_le _, by simpa using HE0.out⟩
  case round =>
    clear HE0
    obtain ⟨k, rfl, hk, hw⟩ := hrel.out
    clear hrel
    have HW := Lib.hid hw
    obtain ⟨sv1, hg, hkp, hn1⟩ := hw
    have HG := Lib.hid hg
    have HKP := Lib.hid hkp
    have HN := Lib.hid hn1
    clear hg hkp hn1
    have g0 := HG.out.cells
    have c0 := HKP.out.cell HBX0.out HFL.out.not
    have c1 := HKP.out.cell HSA.out HFR.out.not
    by_cases hlt : k < n
    · obtain ⟨x, hx⟩ : ∃ x, xs[k]? = some x := ⟨xs[k]'(by rw [HX.out]; exact hlt), List.getElem?_eq_getElem _⟩
      obtain ⟨b, o, rfl, _⟩ := HR.out.place (by rw [cellsOf_length _ 3 PEdge.cells_length, HX.out]; omega)
      have hbS : b < wS.heap.size := HR.out.old (fun he => by have := congrArg List.length he; rw [cellsOf_length _ 3 PEdge.cells_length, HX.out] at this; simp at this; omega)
      have HFE := Lib.hid (Free.old HG.out hbS)
      have HFB2 := Lib.hid (Free.next (w := w.alloc (.cells #[.int .i64 n] 3)) HFB.out (by have := HBL.out; simp; omega) HN.out)
      have HCE := Lib.hid (fun (j : Nat) (u : Value) (hu : x.cells[j]? = some u) => show wr.cell? ⟨b, o + k * 3 + j, none⟩ = some u from rdc_cell PEdge.cells_length (HR.out.below HG.out.below) hx j u hu)
      have HXO := Lib.hid (HOK.out x (List.mem_of_getElem? hx))
      have HNN := Lib.hid (HNO.out x (List.mem_of_getElem? hx))
      have HT := Lib.hid (take_enc edgeB hx)
      have hlen : ((xs.take k).flatMap edgeB).length ≤ 104857600 := by
        have h1 := enc_len (f := edgeB) (L := xs.take k) (fun y hy => edgeB_len (HOK.out y (List.mem_of_mem_take hy)))
        rw [List.length_take] at h1
        omega
      have hvn := varB_ten (n := n) (by omega)
      clear hx hbS
      go_wp2_with fail
      refine (stop_any wS wr GB WB sv1 _ HG.out).mono ?_
      rintro e w2 ⟨rfl, he2⟩
      replace he2 := he2.symm
      subst he2
      go_wp2_with fail
      refine (edge_any wS wr GB WB sv1 (l ++ varB n ++ (xs.take k).flatMap edgeB) HG.out b (o + k * 3) x HXO.out HCE.out HFE.out BX (HKP.out.old ((Keep.alloc (fun _ => False) _ _).old HBX.out id) HFB.out.not) (HFB2.out) HNN.out.1 HNN.out.2.1 HNN.out.2.2 (by rw [List.length_append, List.length_append]; omega)).mono ?_
      rintro r w2 ⟨rfl, hb2⟩
      have HE := Lib.hid (show GWrote wS GB WB sv (l ++ varB n ++ (xs.take (k + 1)).flatMap edgeB) (w.alloc (.cells #[.int .i64 n] 3)) w2 from by rw [HT.out, ← List.append_assoc]; exact GWrote.step HKP.out HN.out hb2)
      clear hb2 c0 c1 g0
      go_wp2_with fail
      go_roundw
      case rel => exact Lib.hid ⟨k + 1, by go_num, by omega, HE.out⟩
      case measure => simp [intOf]; omega
    · obtain rfl : n = k := by omega
      have HE := Lib.hid (show GWrote wS GB WB sv (l ++ listB edgeB xs) w wr from by
        have h1 := HW.out.after (Keep.alloc _ _ _)
        rw [List.take_of_length_le (by rw [HX.out]; exact Nat.le_refl _), List.append_assoc] at h1
        rw [listB, HX.out]
        exact h1)
      go_wp2_with fail
      exact bodyPost_end (v := .tuple #[]) (by simp [results, Tryz.results167, go_sem]) rfl ⟨rfl, HE.out⟩

theorem enter_listP (args : Array Value) (w : World) : (callFunc 170 args).run Tryz.prog w = .ok (.enter 170 args) w := by kernel_rfl
set_option maxHeartbeats 8000000 in
theorem listP_any (wS w : World) (GB WB : Nat) (sv : Value) (l : List Int) (h : Gt wS GB WB sv l w) (RB off : Nat) (ao : Option Addr) (n c : Nat) (hs : w.cell? ⟨RB, off, none⟩ = some (.slice ao n c)) (hfr : Free sv WB RB) (xs : List PPair) (hx : xs.length = n) (hr : RdC wS ao (cellsOf PPair.cells xs))
    (hok : ∀ x ∈ xs, x.Ok) (hnn : ∀ x ∈ xs, 0 ≤ x.r ∧ 0 ≤ x.c) (hn : n ≤ 1048576) (mx : Int) (hl : l.length ≤ 700000000) (BX : Nat) (hbx : w.heap[BX]? = some (.cells #[.pointer (some ⟨GB, 0, none⟩)] 142 (0, 0))) (hfb : Free sv WB BX) :
    Calls Tryz.prog 169 #[.pointer (some ⟨GB, 0, none⟩), .pointer (some ⟨RB, off, none⟩), .int .i64 mx, .func (.func 170) #[] #[.pointer (some ⟨BX, 0, none⟩)]] w fun e w' => e = .returned (.tuple #[]) ∧ GWrote wS GB WB sv (l ++ listB pairB xs) w w' := by
  have H := Lib.hid h
  have HFR := Lib.hid hfr
  have HX := Lib.hid hx
  have HR := Lib.hid hr
  have HOK := Lib.hid hok
  have HNO := Lib.hid hnn
  have HS := Lib.hid hs
  have hRB : RB < w.heap.size := World.block_lt_of_cell? w _ hs
  have hrun := enter_listP
  have HBX := Lib.hid hbx
  have HFB := Lib.hid hfb
  have HBL := Lib.hid (lt_of_block hbx)
  clear hbx hfb
  clear h hfr hx hr hok hnn
  go_enter Tryz.func169, Tryz.ntmps169
  go_wp2_with fail
  have HG0 := Lib.hid (H.out.alloc (.cells #[.int .i64 n] 3))
  have HBX0 := Lib.hid (ptr_cell (heap_alloc_new w (.cells #[.int .i64 n] 3)))
  have HFL := Lib.hid (Free.new H.out (b := w.heap.size) (by omega))
  refine (nat_any wS (w.alloc (.cells #[.int .i64 n] 3)) GB WB sv l HG0.out w.heap.size 0 n mx HBX0.out (by omega) ⟨by omega, by omega⟩ (by omega)).mono ?_
  rintro e w1 ⟨rfl, hb1⟩
  rw [Int.toNat_natCast] at hb1
  have HE0 := Lib.hid hb1
  obtain ⟨svx, hgx, hkx, hnx⟩ := hb1
  have gx := hgx.cells
  have HSA := Lib.hid ((Keep.alloc (fun _ => False) w (.cells #[.int .i64 n] 3)).cell HS.out id)
  clear hgx hkx hnx hs
  go_wp2_with fail
  clear gx
  go_loopw [9] (fun i wr => Hid (∃ k : Nat, i = .int .i64 k ∧ k ≤ n ∧ GWrote wS GB WB sv (l ++ varB n ++ (xs.take k).flatMap pairB) (w.alloc (.cells #[.int .i64 n] 3)) wr)) (fun i _ => n - (intOf i).toNat)
  case atStart => exact Lib.hid ⟨0, rfl, Nat.zero_le _, by simpa using HE0.out⟩
  case round =>
    clear HE0
    obtain ⟨k, rfl, hk, hw⟩ := hrel.out
    clear hrel
    have HW := Lib.hid hw
    obtain ⟨sv1, hg, hkp, hn1⟩ := hw
    have HG := Lib.hid hg
    have HKP := Lib.hid hkp
    have HN := Lib.hid hn1
    clear hg hkp hn1
    have g0 := HG.out.cells
    have c0 := HKP.out.cell HBX0.out HFL.out.not
    have c1 := HKP.out.cell HSA.out HFR.out.not
    by_cases hlt : k < n
    · obtain ⟨x, hx⟩ : ∃ x, xs[k]? = some x := ⟨xs[k]'(by rw [HX.out]; exact hlt), List.getElem?_eq_getElem _⟩
      obtain ⟨b, o, rfl, _⟩ := HR.out.place (by rw [cellsOf_length _ 2 PPair.cells_length, HX.out]; omega)
      have hbS : b < wS.heap.size := HR.out.old (fun he => by have := congrArg List.length he; rw [cellsOf_length _ 2 PPair.cells_length, HX.out] at this; simp at this; omega)
      have HFE := Lib.hid (Free.old HG.out hbS)
      have HFB2 := Lib.hid (Free.next (w := w.alloc (.cells #[.int .i64 n] 3)) HFB.out (by have := HBL.out; simp; omega) HN.out)
      have HCE := Lib.hid (fun (j : Nat) (u : Value) (hu : x.cells[j]? = some u) => show wr.cell? ⟨b, o + k * 2 + j, none⟩ = some u from rdc_cell PPair.cells_length (HR.out.below HG.out.below) hx j u hu)
      have HXO := Lib.hid (HOK.out x (List.mem_of_getElem? hx))
      have HNN := Lib.hid (HNO.out x (List.mem_of_getElem? hx))
      have HT := Lib.hid (take_enc pairB hx)
      have hlen : ((xs.take k).flatMap pairB).length ≤ 104857600 := by
        have h1 := enc_len (f := pairB) (L := xs.take k) (fun y hy => pairB_len (HOK.out y (List.mem_of_mem_take hy)))
        rw [List.length_take] at h1
        omega
      have hvn := varB_ten (n := n) (by omega)
      clear hx hbS
      go_wp2_with fail
      refine (stop_any wS wr GB WB sv1 _ HG.out).mono ?_
      rintro e w2 ⟨rfl, he2⟩
      replace he2 := he2.symm
      subst he2
      go_wp2_with fail
      refine (pair_any wS wr GB WB sv1 (l ++ varB n ++ (xs.take k).flatMap pairB) HG.out b (o + k * 2) x HXO.out HCE.out HFE.out BX (HKP.out.old ((Keep.alloc (fun _ => False) _ _).old HBX.out id) HFB.out.not) (HFB2.out) HNN.out.1 HNN.out.2 (by rw [List.length_append, List.length_append]; omega)).mono ?_
      rintro r w2 ⟨rfl, hb2⟩
      have HE := Lib.hid (show GWrote wS GB WB sv (l ++ varB n ++ (xs.take (k + 1)).flatMap pairB) (w.alloc (.cells #[.int .i64 n] 3)) w2 from by rw [HT.out, ← List.append_assoc]; exact GWrote.step HKP.out HN.out hb2)
      clear hb2 c0 c1 g0
      go_wp2_with fail
      go_roundw
      case rel => exact Lib.hid ⟨k + 1, by go_num, by omega, HE.out⟩
      case measure => simp [intOf]; omega
    · obtain rfl : n = k := by omega
      have HE := Lib.hid (show GWrote wS GB WB sv (l ++ listB pairB xs) w wr from by
        have h1 := HW.out.after (Keep.alloc _ _ _)
        rw [List.take_of_length_le (by rw [HX.out]; exact Nat.le_refl _), List.append_assoc] at h1
        rw [listB, HX.out]
        exact h1)
      go_wp2_with fail
      exact bodyPost_end (v := .tuple #[]) (by simp [results, Tryz.results169, go_sem]) rfl ⟨rfl, HE.out⟩

set_option maxHeartbeats 8000000 in
theorem ints_any (wS w : World) (GB WB : Nat) (sv : Value) (l : List Int) (h : Gt wS GB WB sv l w) (RB off : Nat) (ao : Option Addr) (n c : Nat) (hs : w.cell? ⟨RB, off, none⟩ = some (.slice ao n c)) (hfr : Free sv WB RB) (xs : List Int) (hx : xs.length = n) (hr : RdC wS ao (cellsOf icell xs))
    (hok : ∀ x ∈ xs, i64ok x) (hn : n ≤ 1048576) (hl : l.length ≤ 700000000) :
    Calls Tryz.prog 171 #[.pointer (some ⟨GB, 0, none⟩), .pointer (some ⟨RB, off, none⟩), .int .i64 n] w fun e w' => e = .returned (.tuple #[]) ∧ GWrote wS GB WB sv (l ++ xs.flatMap intB) w w' := by
  have H := Lib.hid h
  have HFR := Lib.hid hfr
  have HX := Lib.hid hx
  have HR := Lib.hid hr
  have HOK := Lib.hid hok
  have HS := Lib.hid hs
  clear h hfr hx hr hok hs
  go_enter Tryz.func171, Tryz.ntmps171
  go_wp2_with fail
  go_loopw [6] (fun i wr => Hid (∃ k : Nat, i = .int .i64 k ∧ k ≤ n ∧ GWrote wS GB WB sv (l ++ (xs.take k).flatMap intB) w wr)) (fun i _ => n - (intOf i).toNat)
  case atStart => exact Lib.hid ⟨0, rfl, Nat.zero_le _, by simpa using GWrote.nil H.out⟩
  case round =>
    obtain ⟨k, rfl, hk, hw⟩ := hrel.out
    clear hrel
    have HW := Lib.hid hw
    obtain ⟨sv1, hg, hkp, hn1⟩ := hw
    have HG := Lib.hid hg
    have HKP := Lib.hid hkp
    have HN := Lib.hid hn1
    clear hg hkp hn1
    have g0 := HG.out.cells
    have c1 := HKP.out.cell HS.out HFR.out.not
    by_cases hlt : k < n
    · obtain ⟨x, hx⟩ : ∃ x, xs[k]? = some x := ⟨xs[k]'(by rw [HX.out]; exact hlt), List.getElem?_eq_getElem _⟩
      obtain ⟨b, o, rfl, _⟩ := HR.out.place (by rw [cellsOf_length _ 1 icell_length, HX.out]; omega)
      have HCE := Lib.hid (int_at (HR.out.below HG.out.below) hx)
      have HXO := Lib.hid (HOK.out x (List.mem_of_getElem? hx))
      have HT := Lib.hid (take_enc intB hx)
      have hlen : ((xs.take k).flatMap intB).length ≤ 104857600 := by
        have h1 := enc_len (f := intB) (m := 10) (L := xs.take k) (fun y hy => intB_len y)
        rw [List.length_take] at h1
        omega
      clear hx
      go_wp2_with fail
      refine (stop_any wS wr GB WB sv1 _ HG.out).mono ?_
      rintro e w2 ⟨rfl, he2⟩
      replace he2 := he2.symm
      subst he2
      go_wp2_with fail
      refine (whole_any wS wr GB WB sv1 (l ++ (xs.take k).flatMap intB) HG.out b (o + k) x HCE.out HXO.out (by rw [List.length_append]; omega)).mono ?_
      rintro r w2 ⟨rfl, hb2⟩
      have HE := Lib.hid (show GWrote wS GB WB sv (l ++ (xs.take (k + 1)).flatMap intB) w w2 from by rw [HT.out, ← List.append_assoc]; exact GWrote.step HKP.out HN.out hb2)
      clear hb2 c1 g0
      go_wp2_with fail
      go_roundw
      case rel => exact Lib.hid ⟨k + 1, by go_num, by omega, HE.out⟩
      case measure => simp [intOf]; omega
    · obtain rfl : n = k := by omega
      have HE := Lib.hid (show GWrote wS GB WB sv (l ++ xs.flatMap intB) w wr from by
        have h1 := HW.out
        rw [List.take_of_length_le (by rw [HX.out]; exact Nat.le_refl _)] at h1
        exact h1)
      go_wp2_with fail
      exact bodyPost_end (v := .tuple #[]) (by simp [results, Tryz.results171, go_sem]) rfl ⟨rfl, HE.out⟩
end Go.Proofs.YtcaicgipibcicaaGreat
