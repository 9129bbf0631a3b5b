/- The log of no bytes. -/
import Derived.Test.YtcaicgipibcicaaGreatQRdr
import Derived.RangeFuncNested
import Derived.RangeFuncBound
import Derived.RangeFuncCalls
import Derived.RangeFuncLeaves
import Derived.Shelf.Abstract
import Derived.Shelf.RegionOpen
import Derived.OwnWalkIn
import Derived.TacticsInMore
import Derived.LoopNIn
import Derived.LoopIn
namespace Go.Proofs.YtcaicgipibcicaaGreat
set_option maxRecDepth 100000
set_option linter.unusedVariables false
set_option linter.unusedSimpArgs false
open Go.RowKit Go.Sort Go.Shelf

set_option maxHeartbeats 4000000 in
theorem newReader_nil (w : World) : Calls Tryz.prog 119 #[.slice none 0 0] w fun e w' => ∃ R, e = .returned (.pointer (some ⟨R, 0, none⟩)) ∧ w.heap.size ≤ R ∧ Below w.heap.size w w' ∧ ∃ ao, RdAt w' R ao 0 0 0 := by
  obtain ⟨i5, hi, hz0, hz1, hz2⟩ := info_parts info_u8
  have hmk : (Instr.makeSlice 59 (.int .i64 0) (.int .i64 0)).run Tryz.prog w = .ok (.slice (some ⟨w.heap.size, 0, none⟩) 0 0) (w.alloc (.cells #[] 5)) := by
    have h := run_make (P := Tryz.prog) w 59 5 i5 (.int .u8 0) Tryz.underlying59 hi hz0 .i64 .i64 0 0 (by omega) (by omega) (by omega) (by omega)
    rw [h]
    have hc : madeCells (Value.int .u8 0).cells (((0 : Int)).toNat * i5.size) = #[] := by
      apply Array.ext
      · rw [size_madeCells]; simp
      · intro j h1 h2; simp at h2
    rw [hc]
    rfl
  have hcp := fun w : World => run_copy_none (P := Tryz.prog) w 59 59 3 5 (some ⟨w.heap.size, 0, none⟩) none 0 0 0 0 Tryz.underlying59 (by kernel_rfl) rfl
  have hcp2 : (Builtin.copy_ #[59, 59] 3 #[.slice (some ⟨w.heap.size, 0, none⟩) 0 0, .slice none 0 0]).run Tryz.prog (w.alloc (.cells #[] 5)) = .ok (goInt 0) (w.alloc (.cells #[] 5)) := run_copy_none _ _ _ _ 5 _ _ 0 0 0 0 Tryz.underlying59 (by kernel_rfl) rfl
  clear hcp
  have HB := Lib.hid (((Below.refl w.heap.size w).alloc (Nat.le_refl _) (.cells #[] 5)).alloc (by simp) (.cells #[.slice (some ⟨w.heap.size, 0, none⟩) 0 0, .int .i64 0, .bool true] 226))
  have HR := Lib.hid (show RdAt ((w.alloc (.cells #[] 5)).alloc (.cells #[.slice (some ⟨w.heap.size, 0, none⟩) 0 0, .int .i64 0, .bool true] 226)) (w.heap.size + 1) (some ⟨w.heap.size, 0, none⟩) 0 0 0 from by
    have := heap_alloc_new (w.alloc (.cells #[] 5)) (.cells #[.slice (some ⟨w.heap.size, 0, none⟩) 0 0, .int .i64 0, .bool true] 226)
    rw [show (w.alloc (.cells #[] 5)).heap.size = w.heap.size + 1 by simp] at this
    exact this)
  clear hi hz0 hz1 hz2
  go_enter Tryz.func119, Tryz.ntmps119
  go_wp2_with fail
  go_ret
  exact ⟨w.heap.size + 1, rfl, by omega, HB.out, _, HR.out⟩

set_option maxHeartbeats 8000000 in
theorem pieces_nil (W : World) (l B : Nat) (hB : W.heap[B]? = some (.cells #[.slice none 0 0] 59 (0, 0))) :
    Calls Tryz.prog 154 #[.func (.yield l) #[] #[], .pointer (some ⟨B, 0, none⟩)] W fun e W' => e = .returned (.tuple #[]) ∧ Below W.heap.size W W' := by
  have HB := Lib.hid hB
  have HBL := Lib.hid (lt_of_block hB)
  have HA := Lib.hid ((Below.refl W.heap.size W).alloc (Nat.le_refl _) (.cells #[.int .u8 0, .int .u8 0, .int .u8 0, .int .u8 0] 139))
  have c0 : (W.alloc (.cells #[.int .u8 0, .int .u8 0, .int .u8 0, .int .u8 0] 139)).cell? ⟨B, 0, none⟩ = some (.slice none 0 0) := by
    rw [cell_of_row _ _ _ _ _ (0, 0) ((Keep.of_below HA.out (Nat.le_refl _) (fun _ => False)).old hB id)]
    rfl
  clear hB
  go_enter Tryz.func154, Tryz.ntmps154
  go_wp2_with fail
  generalize W.alloc (.cells #[.int .u8 0, .int .u8 0, .int .u8 0, .int .u8 0] 139) = W1 at *
  go_loopw [4] (fun i wr => Hid (wr = W1)) (fun i _ => 0)
  case atStart => exact Lib.hid rfl
  case round =>
    obtain rfl := hrel.out
    clear hrel
    go_wp2_with fail
    refine (newReader_nil wr).mono ?_
    rintro e w2 ⟨R, rfl, hR, hb2, ao, h2⟩
    have HB2 := Lib.hid (Below.next HA.out hb2)
    have HR := Lib.hid hR
    have H2 := Lib.hid h2
    clear hb2 hR h2 c0
    go_wp2_with fail
    refine (fixed_nil w2 R ao 0 0 H2.out).mono ?_
    rintro e w3 ⟨rfl, f3, ao3, c3, hf3, h3, k3⟩
    have HB3 := Lib.hid (HB2.out.trans (k3.below HB2.out.size (fun i hi he => by have := HR.out; have := HA.out.size; omega)))
    have H3 := Lib.hid h3
    clear h3 k3
    go_wp2_with fail
    refine (fixed_nil w3 R ao3 c3 f3 H3.out).mono ?_
    rintro e w4 ⟨rfl, f4, ao4, c4, hf4, h4, k4⟩
    have HB4 := Lib.hid (HB3.out.trans (k4.below HB3.out.size (fun i hi he => by have := HR.out; have := HA.out.size; omega)))
    have H4 := Lib.hid h4
    clear h4 k4
    go_wp2_with fail
    refine (end_bad w4 R ao4 0 c4 f4 H4.out hf4).mono ?_
    rintro e w5 ⟨rfl, rfl⟩
    have b1 : (f4 != 0) = true := by simp [hf4]
    go_wp2_with fail
    exact bodyPost_ret (v := .tuple #[]) (by simp [results, Tryz.results154, go_sem]) rfl ⟨rfl, HB4.out⟩

theorem pieces_any (w : World) (ao : Option Addr) (n c : Nat) : Calls Tryz.prog 118 #[.slice ao n c] w fun e w' => e = .returned (.func (.func 154) #[] #[.pointer (some ⟨w.heap.size, 0, none⟩)]) ∧ w' = w.alloc (.cells #[.slice ao n c] 59) := by
  go_enter Tryz.func118, Tryz.ntmps118
  go_wp2_with fail
  go_ret
  exact ⟨rfl, rfl⟩

theorem grown_of_below {w w' : World} (h : Below w.heap.size w w') : w.grownBy w' none := ⟨h.os, h.tape, h.output, h.size, fun k hk _ => h.block k hk⟩
theorem nil_stops (n B : Nat) (w : World) (hB : w.heap[B]? = some (.cells #[.slice none 0 0] 59 (0, 0))) :
    SeqStopsK Fence.wide n Tryz.prog 154 #[.pointer (some ⟨B, 0, none⟩)] (fun x : Empty => nomatch x) (fun _ _ => True) (fun xs => xs = []) (fun _ => False) 0 w := fun l J Jx W hW hJ hJx hY h0 =>
  callsIn_wide.2 ((pieces_nil W l B ((Keep.of_below hW (Nat.le_refl _) (fun _ => False)).old hB id)).mono fun e W' ⟨he, hb⟩ => ⟨⟨_, he⟩, .inl ⟨[], rfl, hJ [] W W' none h0 (grown_of_below hb) (fun r e => by cases e)⟩⟩)

/-- The boxes that a reading begins with. -/
theorem read_boxes (w : World) : ∃ W, ((((((w.alloc (.cells #[.int .i64 0, .int .i64 0, .int .i64 0, .int .i64 0, .int .i64 0] 23)).alloc (.cells #[.slice none 0 0] 43)).alloc (.cells #[.int .i64 0] 3)).alloc (.cells #[.int .u8 0, .int .u8 0, .int .u8 0, .int .u8 0] 139)).alloc (.cells #[.int .i64 0] 3)).alloc (.cells #[.slice none 0 0] 59)) = W ∧ W.heap[w.heap.size]? = some (.cells #[.int .i64 0, .int .i64 0, .int .i64 0, .int .i64 0, .int .i64 0] 23 (0, 0)) ∧ W.heap[w.heap.size + 1]? = some (.cells #[.slice none 0 0] 43 (0, 0)) ∧ W.heap[w.heap.size + 2]? = some (.cells #[.int .i64 0] 3 (0, 0)) ∧
    W.heap[w.heap.size + 3]? = some (.cells #[.int .u8 0, .int .u8 0, .int .u8 0, .int .u8 0] 139 (0, 0)) ∧ W.heap[w.heap.size + 5]? = some (.cells #[.slice none 0 0] 59 (0, 0)) ∧ Below w.heap.size w W ∧ W.heap.size = w.heap.size + 6 := by
  have step : ∀ (V : World) (o : Obj) (k : Nat), V.heap.size = k → (V.alloc o).heap[k]? = some o ∧ (V.alloc o).heap.size = k + 1 ∧ ∀ (j : Nat) (p : Obj), V.heap[j]? = some p → (V.alloc o).heap[j]? = some p := by
    intro V o k hk
    refine ⟨by rw [← hk]; exact heap_alloc_new V o, by rw [← hk]; simp, fun j p hp => (Keep.alloc (fun _ => False) V o).old hp id⟩
  obtain ⟨a1, s1, k1⟩ := step w (.cells #[.int .i64 0, .int .i64 0, .int .i64 0, .int .i64 0, .int .i64 0] 23) _ rfl
  obtain ⟨a2, s2, k2⟩ := step (w.alloc (.cells #[.int .i64 0, .int .i64 0, .int .i64 0, .int .i64 0, .int .i64 0] 23)) (.cells #[.slice none 0 0] 43) _ s1
  obtain ⟨a3, s3, k3⟩ := step ((w.alloc (.cells #[.int .i64 0, .int .i64 0, .int .i64 0, .int .i64 0, .int .i64 0] 23)).alloc (.cells #[.slice none 0 0] 43)) (.cells #[.int .i64 0] 3) _ s2
  obtain ⟨a4, s4, k4⟩ := step (((w.alloc (.cells #[.int .i64 0, .int .i64 0, .int .i64 0, .int .i64 0, .int .i64 0] 23)).alloc (.cells #[.slice none 0 0] 43)).alloc (.cells #[.int .i64 0] 3)) (.cells #[.int .u8 0, .int .u8 0, .int .u8 0, .int .u8 0] 139) _ s3
  obtain ⟨a5, s5, k5⟩ := step ((((w.alloc (.cells #[.int .i64 0, .int .i64 0, .int .i64 0, .int .i64 0, .int .i64 0] 23)).alloc (.cells #[.slice none 0 0] 43)).alloc (.cells #[.int .i64 0] 3)).alloc (.cells #[.int .u8 0, .int .u8 0, .int .u8 0, .int .u8 0] 139)) (.cells #[.int .i64 0] 3) _ s4
  obtain ⟨a6, s6, k6⟩ := step (((((w.alloc (.cells #[.int .i64 0, .int .i64 0, .int .i64 0, .int .i64 0, .int .i64 0] 23)).alloc (.cells #[.slice none 0 0] 43)).alloc (.cells #[.int .i64 0] 3)).alloc (.cells #[.int .u8 0, .int .u8 0, .int .u8 0, .int .u8 0] 139)).alloc (.cells #[.int .i64 0] 3)) (.cells #[.slice none 0 0] 59) _ s5
  refine ⟨_, rfl, k6 _ _ (k5 _ _ (k4 _ _ (k3 _ _ (k2 _ _ a1)))), k6 _ _ (k5 _ _ (k4 _ _ (k3 _ _ a2))), k6 _ _ (k5 _ _ (k4 _ _ a3)), k6 _ _ (k5 _ _ a4), a6, ?_, s6⟩
  exact ((((((Below.refl w.heap.size w).alloc (Nat.le_refl _) _).alloc (by rw [s1]; omega) _).alloc (by rw [s2]; omega) _).alloc (by rw [s3]; omega) _).alloc (by rw [s4]; omega) _).alloc (by rw [s5]; omega) _

theorem zero5 {W : World} {B : Nat} (h : W.heap[B]? = some (.cells #[.int .i64 0, .int .i64 0, .int .i64 0, .int .i64 0, .int .i64 0] 23 (0, 0))) : (((((W.setCell ⟨B, 0, none⟩ (.int .i64 0)).setCell ⟨B, 1, none⟩ (.int .i64 0)).setCell ⟨B, 2, none⟩ (.int .i64 0)).setCell ⟨B, 3, none⟩ (.int .i64 0)).setCell ⟨B, 4, none⟩ (.int .i64 0)).heap[B]? = some (.cells #[.int .i64 0, .int .i64 0, .int .i64 0, .int .i64 0, .int .i64 0] 23 (0, 0)) ∧ Keep (fun k => k = B) W (((((W.setCell ⟨B, 0, none⟩ (.int .i64 0)).setCell ⟨B, 1, none⟩ (.int .i64 0)).setCell ⟨B, 2, none⟩ (.int .i64 0)).setCell ⟨B, 3, none⟩ (.int .i64 0)).setCell ⟨B, 4, none⟩ (.int .i64 0)) := by
  have q := (row_set (row_set (row_set (row_set (row_set h 0 (.int .i64 0)) 1 (.int .i64 0)) 2 (.int .i64 0)) 3 (.int .i64 0)) 4 (.int .i64 0))
  exact ⟨by simpa only [List.setIfInBounds_toArray, List.set_cons_zero, List.set_cons_succ] using q, Keep.setCells W B 0 [.int .i64 0, .int .i64 0, .int .i64 0, .int .i64 0, .int .i64 0]⟩
theorem zero4 {W : World} {B : Nat} (h : W.heap[B]? = some (.cells #[.int .u8 0, .int .u8 0, .int .u8 0, .int .u8 0] 139 (0, 0))) : ((((W.setCell ⟨B, 0, none⟩ (.int .u8 0)).setCell ⟨B, 1, none⟩ (.int .u8 0)).setCell ⟨B, 2, none⟩ (.int .u8 0)).setCell ⟨B, 3, none⟩ (.int .u8 0)).heap[B]? = some (.cells #[.int .u8 0, .int .u8 0, .int .u8 0, .int .u8 0] 139 (0, 0)) ∧ Keep (fun k => k = B) W ((((W.setCell ⟨B, 0, none⟩ (.int .u8 0)).setCell ⟨B, 1, none⟩ (.int .u8 0)).setCell ⟨B, 2, none⟩ (.int .u8 0)).setCell ⟨B, 3, none⟩ (.int .u8 0)) := by
  have q := (row_set (row_set (row_set (row_set h 0 (.int .u8 0)) 1 (.int .u8 0)) 2 (.int .u8 0)) 3 (.int .u8 0))
  exact ⟨by simpa only [List.setIfInBounds_toArray, List.set_cons_zero, List.set_cons_succ] using q, Keep.setCells W B 0 [.int .u8 0, .int .u8 0, .int .u8 0, .int .u8 0]⟩
theorem read_end {W : World} {B D : Nat} (h0 : W.heap[B]? = some (.cells #[.int .i64 0, .int .i64 0, .int .i64 0, .int .i64 0, .int .i64 0] 23 (0, 0))) (h1 : W.heap[B + 1]? = some (.cells #[.slice none 0 0] 43 (0, 0))) (h2 : W.heap[B + 2]? = some (.cells #[.int .i64 0] 3 (0, 0)))
    (h3 : W.heap[B + 3]? = some (.cells #[.int .u8 0, .int .u8 0, .int .u8 0, .int .u8 0] 139 (0, 0))) (hD : B + 6 ≤ D) (hK : W.heap[D]? = some (.deferred (some []))) :
    ∃ WF, (((((((((((W.setCell ⟨B, 0, none⟩ (.int .i64 0)).setCell ⟨B, 1, none⟩ (.int .i64 0)).setCell ⟨B, 2, none⟩ (.int .i64 0)).setCell ⟨B, 3, none⟩ (.int .i64 0)).setCell ⟨B, 4, none⟩ (.int .i64 0)).setCell ⟨B + 1, 0, none⟩ (.slice none 0 0)).setCell ⟨B + 1 + 1, 0, none⟩ (.int .i64 0)).setCell ⟨B + 1 + 1 + 1, 0, none⟩ (.int .u8 0)).setCell ⟨B + 1 + 1 + 1, 1, none⟩ (.int .u8 0)).setCell ⟨B + 1 + 1 + 1, 2, none⟩ (.int .u8 0)).setCell ⟨B + 1 + 1 + 1, 3, none⟩ (.int .u8 0)) = WF ∧ WF.heap[B]? = some (.cells #[.int .i64 0, .int .i64 0, .int .i64 0, .int .i64 0, .int .i64 0] 23 (0, 0)) ∧ WF.heap[B + 1]? = some (.cells #[.slice none 0 0] 43 (0, 0)) ∧ WF.heap[B + 2]? = some (.cells #[.int .i64 0] 3 (0, 0)) ∧
      WF.heap[B + 3]? = some (.cells #[.int .u8 0, .int .u8 0, .int .u8 0, .int .u8 0] 139 (0, 0)) ∧ WF.heap[D]? = some (.deferred (some [])) ∧ Keep (fun k => B ≤ k) W WF := by
  obtain ⟨a0, ka⟩ := zero5 h0
  generalize (((((W.setCell ⟨B, 0, none⟩ (.int .i64 0)).setCell ⟨B, 1, none⟩ (.int .i64 0)).setCell ⟨B, 2, none⟩ (.int .i64 0)).setCell ⟨B, 3, none⟩ (.int .i64 0)).setCell ⟨B, 4, none⟩ (.int .i64 0)) = WA at *
  have a1 := ka.old h1 (by omega)
  have a2 := ka.old h2 (by omega)
  have a3 := ka.old h3 (by omega)
  have aD := ka.old hK (by omega)
  have b1 := row_set a1 0 (.slice none 0 0)
  have kb := keep1 WA (B + 1) 0 (.slice none 0 0)
  generalize WA.setCell ⟨B + 1, 0, none⟩ (.slice none 0 0) = WB at *
  have b0 := kb.old a0 (by omega)
  have b2 := kb.old a2 (by omega)
  have b3 := kb.old a3 (by omega)
  have bD := kb.old aD (by omega)
  have c2 := row_set b2 0 (.int .i64 0)
  have kc := keep1 WB (B + 2) 0 (.int .i64 0)
  generalize WB.setCell ⟨B + 2, 0, none⟩ (.int .i64 0) = WC at *
  have c0 := kc.old b0 (by omega)
  have c1 := kc.old b1 (by omega)
  have c3 := kc.old b3 (by omega)
  have cD := kc.old bD (by omega)
  obtain ⟨d3, kd⟩ := zero4 c3
  refine ⟨_, rfl, kd.old c0 (by omega), kd.old c1 (by omega), kd.old c2 (by omega), d3, kd.old cD (by omega), ?_⟩
  exact ((ka.trans kb (Z := fun k => B ≤ k) (fun _ _ h => by omega) (fun _ _ h => by omega)).trans kc (Z := fun k => B ≤ k) (fun _ _ h => h) (fun _ _ h => by omega)).trans kd (fun _ _ h => h) (fun _ _ h => by omega)

set_option maxHeartbeats 8000000 in
theorem read_nil (w : World) : Calls Tryz.prog 75 #[.slice none 0 0] w fun e w' => e = .returned (.tuple #[.agg #[.int .i64 0, .int .i64 0, .int .i64 0, .int .i64 0, .int .i64 0], .slice none 0 0, .int .i64 0, .agg #[.int .u8 0, .int .u8 0, .int .u8 0, .int .u8 0], .int .i64 250]) ∧ Below w.heap.size w w' := by
  obtain ⟨wl, hwl, h0, h1, h2, h3, h5, hbl, hsz⟩ := read_boxes w
  have HWL := Lib.hid hwl
  have H0 := Lib.hid h0
  have H1 := Lib.hid h1
  have H2 := Lib.hid h2
  have H3 := Lib.hid h3
  have H5 := Lib.hid h5
  have HBL := Lib.hid hbl
  have HSZ := Lib.hid hsz
  clear hwl h0 h1 h2 h3 h5 hbl hsz
  refine (callsIn_wide (n := 5)).1 ?_
  refine callsIn_of_wp_marks Tryz.func75 rfl trivial ?_ rfl
  simp only [Tryz.ntmps75, List.size_toArray, List.length_cons, List.length_nil, Nat.reduceAdd, Nat.reduceSub, Array.replicate_succ, Array.replicate_zero, List.push_toArray, List.append_toArray, List.nil_append, List.cons_append]
  gi_wp2_with (first | (refine ⟨trivial, ?_⟩; gi_at_call 118; refine (callsIn_wide.2 (pieces_any _ _ _ _)).mono ?_; rintro e w' ⟨rfl, rfl⟩))
  rw [HWL.out]
  refine wpIn_rangeFunc_ownF (α := Empty) rfl (by omega) (gf := 154) (lb := #[.pointer (some ⟨w.heap.size + 5, 0, none⟩)]) rfl trivial (enters_of Tryz.func154 (by kernel_rfl) rfl)
    (nil_stops 4 (w.heap.size + 5) wl H5.out) (fun _ _ => trivial) (fun _ _ _ _ _ _ _ _ => trivial) (Below.refl _ _) (fun x => nomatch x)
    (fun _ W => Below wl.heap.size wl W) (fun _ _ _ => False) (ownFrom_below (Nat.le_refl _) (Nat.le_refl _)) (fun _ _ _ _ _ hs _ _ => hs) (Below.refl _ _) (fun x => nomatch x) (fun _ x => nomatch x) (fun _ _ x => nomatch x) ?done (fun _ _ _ _ _ h => h.elim)
  case done =>
    rintro D xs W hD - hB hK
    have HBW := Lib.hid hB
    have HKD := Lib.hid hK
    have HD := Lib.hid hD
    have k := Keep.of_below hB (Nat.le_refl _) (fun _ => False)
    have h0 := k.old H0.out id
    have h1 := k.old H1.out id
    have h2 := k.old H2.out id
    have h3 := k.old H3.out id
    clear hB hK hD k
    obtain ⟨B, hBB⟩ : ∃ B, w.heap.size = B := ⟨_, rfl⟩
    rw [hBB] at h0 h1 h2 h3 HSZ ⊢
    have HBB := Lib.hid hBB
    clear hBB
    obtain ⟨x0, x1, x2, x3, x4⟩ := conf_cells (c := ⟨0, 0, 0, 0, 0⟩) h0
    have xf := fun j => frozen_of_row W B j _ _ h0
    have y0 : W.cell? ⟨B + 1, 0, none⟩ = some (.slice none 0 0) := by rw [cell_of_row W _ _ _ _ (0, 0) h1]; rfl
    have yf := fun j => frozen_of_row W (B + 1) j _ _ h1
    have z0 : W.cell? ⟨B + 1 + 1, 0, none⟩ = some (.int .i64 0) := by rw [cell_of_row W _ _ _ _ (0, 0) h2]; rfl
    have zf := fun j => frozen_of_row W (B + 1 + 1) j _ _ h2
    have u0 : W.cell? ⟨B + 1 + 1 + 1, 0, none⟩ = some (.int .u8 0) := by rw [cell_of_row W _ _ _ _ (0, 0) h3]; rfl
    have u1 : W.cell? ⟨B + 1 + 1 + 1, 1, none⟩ = some (.int .u8 0) := by rw [cell_of_row W _ _ _ _ (0, 0) h3]; rfl
    have u2 : W.cell? ⟨B + 1 + 1 + 1, 2, none⟩ = some (.int .u8 0) := by rw [cell_of_row W _ _ _ _ (0, 0) h3]; rfl
    have u3 : W.cell? ⟨B + 1 + 1 + 1, 3, none⟩ = some (.int .u8 0) := by rw [cell_of_row W _ _ _ _ (0, 0) h3]; rfl
    have uf := fun j => frozen_of_row W (B + 1 + 1 + 1) j _ _ h3
    have HH := Lib.hid (And.intro h0 (And.intro h1 (And.intro h2 h3)))
    clear h0 h1 h2 h3
    gi_wp2
    have hDB : B + 6 ≤ D := by have := HSZ.out; have := HD.out; omega
    obtain ⟨WF, hWF, f0, f1, f2, f3, fD, kF⟩ := read_end HH.out.1 HH.out.2.1 HH.out.2.2.1 HH.out.2.2.2 hDB HKD.out
    rw [hWF]
    refine ⟨by simp, .inl ⟨_, _, rfl, run_takeDeferred fD, ?_⟩⟩
    have g0 : (WF.putObj D (.deferred none)).heap[B]? = some (.cells #[.int .i64 0, .int .i64 0, .int .i64 0, .int .i64 0, .int .i64 0] 23 (0, 0)) := by rw [World.putObj_heap_other (by omega)]; exact f0
    have g1 : (WF.putObj D (.deferred none)).heap[B + 1]? = some (.cells #[.slice none 0 0] 43 (0, 0)) := by rw [World.putObj_heap_other (by omega)]; exact f1
    have g2 : (WF.putObj D (.deferred none)).heap[B + 1 + 1]? = some (.cells #[.int .i64 0] 3 (0, 0)) := by rw [World.putObj_heap_other (by omega)]; exact f2
    have g3 : (WF.putObj D (.deferred none)).heap[B + 1 + 1 + 1]? = some (.cells #[.int .u8 0, .int .u8 0, .int .u8 0, .int .u8 0] 139 (0, 0)) := by rw [World.putObj_heap_other (by omega)]; exact f3
    have hfin : Below w.heap.size w (WF.putObj D (.deferred none)) := by
      have hs := HBL.out.trans (HBW.out.mono HBL.out.size)
      have h1 : Below w.heap.size w WF := hs.trans (kF.below hs.size (fun i hi h => by have := HBB.out; omega))
      exact ⟨h1.os, h1.tape, h1.output, by rw [World.putObj_size]; exact h1.size, fun k hk => by rw [World.putObj_heap_other (by have := HBB.out; omega)]; exact h1.block k hk⟩
    generalize WF.putObj D (.deferred none) = WG at *
    obtain ⟨v0, v1, v2, v3, v4⟩ := conf_cells (c := ⟨0, 0, 0, 0, 0⟩) g0
    have w0 : WG.cell? ⟨B + 1, 0, none⟩ = some (.slice none 0 0) := by rw [cell_of_row WG _ _ _ _ (0, 0) g1]; rfl
    have w1 : WG.cell? ⟨B + 1 + 1, 0, none⟩ = some (.int .i64 0) := by rw [cell_of_row WG _ _ _ _ (0, 0) g2]; rfl
    have r0 : WG.cell? ⟨B + 1 + 1 + 1, 0, none⟩ = some (.int .u8 0) := by rw [cell_of_row WG _ _ _ _ (0, 0) g3]; rfl
    have r1 : WG.cell? ⟨B + 1 + 1 + 1, 1, none⟩ = some (.int .u8 0) := by rw [cell_of_row WG _ _ _ _ (0, 0) g3]; rfl
    have r2 : WG.cell? ⟨B + 1 + 1 + 1, 2, none⟩ = some (.int .u8 0) := by rw [cell_of_row WG _ _ _ _ (0, 0) g3]; rfl
    have r3 : WG.cell? ⟨B + 1 + 1 + 1, 3, none⟩ = some (.int .u8 0) := by rw [cell_of_row WG _ _ _ _ (0, 0) g3]; rfl
    exact ⟨.tuple #[.agg #[.int .i64 0, .int .i64 0, .int .i64 0, .int .i64 0, .int .i64 0], .slice none 0 0, .int .i64 0, .agg #[.int .u8 0, .int .u8 0, .int .u8 0, .int .u8 0], .int .i64 250], by simp [results, Tryz.results75, go_sem, v0, v1, v2, v3, v4, w0, w1, r0, r1, r2, r3], rfl, hfin⟩

set_option maxHeartbeats 8000000 in
theorem jread_nil (w : World) : Calls Tryz.prog 33 #[.slice none 0 0] w fun e w' => e = .returned (.tuple #[.agg #[.int .i64 0, .int .i64 0, .int .i64 0, .int .i64 0, .int .i64 0], .slice none 0 0, .int .i64 0, .int .i64 250]) ∧ Below w.heap.size w w' := by
  have HB := Lib.hid ((Below.refl w.heap.size w).alloc (Nat.le_refl _) (.cells #[.int .i64 0, .int .i64 0, .int .i64 0, .int .i64 0, .int .i64 0] 23))
  have HH := Lib.hid (heap_alloc_new w (.cells #[.int .i64 0, .int .i64 0, .int .i64 0, .int .i64 0, .int .i64 0] 23))
  go_enter Tryz.func33, Tryz.ntmps33
  go_wp2_with fail
  generalize w.alloc (.cells #[.int .i64 0, .int .i64 0, .int .i64 0, .int .i64 0, .int .i64 0] 23) = W at *
  refine (read_nil W).mono ?_
  rintro e w2 ⟨rfl, hb2⟩
  have HB2 := Lib.hid (Below.next HB.out hb2)
  have h2 := (Keep.of_below hb2 (Nat.le_refl _) (fun _ => False)).old HH.out id
  have HZ := Lib.hid (zero5 h2)
  obtain ⟨x0, x1, x2, x3, x4⟩ := conf_cells (c := ⟨0, 0, 0, 0, 0⟩) h2
  have xf := fun j => frozen_of_row w2 w.heap.size j _ _ h2
  clear hb2
  go_wp2_with fail
  obtain ⟨z1, k1⟩ := HZ.out
  generalize (((((w2.setCell ⟨w.heap.size, 0, none⟩ (.int .i64 0)).setCell ⟨w.heap.size, 1, none⟩ (.int .i64 0)).setCell ⟨w.heap.size, 2, none⟩ (.int .i64 0)).setCell ⟨w.heap.size, 3, none⟩ (.int .i64 0)).setCell ⟨w.heap.size, 4, none⟩ (.int .i64 0)) = w3 at *
  obtain ⟨z2, k2⟩ := zero5 z1
  generalize (((((w3.setCell ⟨w.heap.size, 0, none⟩ (.int .i64 0)).setCell ⟨w.heap.size, 1, none⟩ (.int .i64 0)).setCell ⟨w.heap.size, 2, none⟩ (.int .i64 0)).setCell ⟨w.heap.size, 3, none⟩ (.int .i64 0)).setCell ⟨w.heap.size, 4, none⟩ (.int .i64 0)) = w4 at *
  have HF := Lib.hid ((HB2.out.trans (k1.below HB2.out.size (fun i hi h => by omega))).trans (k2.below (Nat.le_trans HB2.out.size k1.size) (fun i hi h => by omega)))
  obtain ⟨v0, v1, v2, v3, v4⟩ := conf_cells (c := ⟨0, 0, 0, 0, 0⟩) z2
  exact bodyPost_ret (v := .tuple #[.agg #[.int .i64 0, .int .i64 0, .int .i64 0, .int .i64 0, .int .i64 0], .slice none 0 0, .int .i64 0, .int .i64 250]) (by simp [results, Tryz.results33, go_sem, v0, v1, v2, v3, v4]) rfl ⟨rfl, HF.out⟩

theorem conf_one (c : PConf) : ∀ u ∈ c.cells, u.oneCell' = true := by
  intro u hu
  simp only [PConf.cells, List.mem_cons, List.not_mem_nil, or_false] at hu
  rcases hu with rfl | rfl | rfl | rfl | rfl <;> rfl

set_option maxHeartbeats 8000000 in
theorem log_nil (w : World) : Calls Tryz.prog 24 #[.slice none 0 0] w fun e w' => e = .returned (.agg #[.int .i64 0, .int .i64 0, .int .i64 250]) ∧ Below w.heap.size w w' := by
  have HB := Lib.hid ((Below.refl w.heap.size w).alloc (Nat.le_refl _) (.cells #[.int .i64 0, .int .i64 0, .int .i64 0] 62))
  have HH := Lib.hid (heap_alloc_new w (.cells #[.int .i64 0, .int .i64 0, .int .i64 0] 62))
  go_enter Tryz.func24, Tryz.ntmps24
  go_wp2_with fail
  generalize w.alloc (.cells #[.int .i64 0, .int .i64 0, .int .i64 0] 62) = W at *
  refine (jread_nil W).mono ?_
  rintro e w2 ⟨rfl, hb2⟩
  have HB2 := Lib.hid (Below.next HB.out hb2)
  have h2 := (Keep.of_below hb2 (Nat.le_refl _) (fun _ => False)).old HH.out id
  clear hb2
  have HB3 := Lib.hid (show Below w.heap.size w (w2.alloc (.cells #[.int .i64 0, .int .i64 0, .int .i64 0, .int .i64 0, .int .i64 0] 23)) from HB2.out.alloc HB2.out.size _)
  have h3 : (w2.alloc (.cells #[.int .i64 0, .int .i64 0, .int .i64 0, .int .i64 0, .int .i64 0] 23)).heap[w.heap.size]? = some (.cells #[.int .i64 0, .int .i64 0, .int .i64 0] 62 (0, 0)) := (Keep.alloc (fun _ => False) w2 _).old h2 id
  have HQ := Lib.hid (row_set (row_set (row_set h3 0 (.int .i64 0)) 1 (.int .i64 0)) 2 (.int .i64 250))
  have HK := Lib.hid (Keep.setCells (w2.alloc (.cells #[.int .i64 0, .int .i64 0, .int .i64 0, .int .i64 0, .int .i64 0] 23)) w.heap.size 0 [.int .i64 0, .int .i64 0, .int .i64 250])
  obtain ⟨g0, g1, g2, gf⟩ := cells3 h3
  clear h2 h3
  go_wp2_with (first | ((with_reducible refine wpList_store_new (o := ⟨none, .store 23 (.tmp 3) (.tmp 16), _, _, _, _⟩) ?_ 23 (.tmp 3) (.tmp 16) ?_ _ #[.int .i64 0, .int .i64 0, .int .i64 0, .int .i64 0, .int .i64 0] ?_ ?_ (PConf.cells ⟨0, 0, 0, 0, 0⟩) ?_ ?_ ?_ (conf_one _) ?_); rfl; rfl; rfl; rfl; rfl; exact sz_conf; rfl))
  exact bodyPost_ret (v := .agg #[.int .i64 0, .int .i64 0, .int .i64 250]) (results_box 2 62 Tryz.results24 w.heap.size rfl #[.int .i64 0, .int .i64 0, .int .i64 250] _ HQ.out _ Tryz.underlying62 rfl (by kernel_rfl)) rfl ⟨rfl, HB3.out.trans (HK.out.below HB3.out.size (fun i hi h => by omega))⟩
end Go.Proofs.YtcaicgipibcicaaGreat
