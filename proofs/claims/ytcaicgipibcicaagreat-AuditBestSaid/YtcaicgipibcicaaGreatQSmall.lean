/- The chapter's configuration and record. Printed by wip/gensmall.py. -/
import Derived.Test.YtcaicgipibcicaaGreatQJNil
import Derived.BigRegion
namespace Go.Proofs.YtcaicgipibcicaaGreat
set_option maxRecDepth 100000
set_option linter.unusedVariables false
set_option linter.unusedSimpArgs false
open Go.RowKit Go.Sort

theorem small_boxes (w : World) : ∃ W, ((((((((((((w.alloc (.cells #[.int .i64 0, .int .i64 0, .int .i64 0, .int .i64 0, .int .i64 0] 23)).alloc (.cells #[.int .i64 0, .slice none 0 0, .slice none 0 0, .int .i64 0, .int .i64 0, .slice none 0 0, .slice none 0 0, .slice none 0 0, .slice none 0 0] 34)).alloc (.cells #[.int .i64 2, .int .i64 2, .int .i64 2, .int .i64 10, .int .i64 5] 23)).alloc (.cells #[.int .u8 0, .int .u8 0, .int .u8 0, .int .u8 0, .int .u8 0, .int .u8 0, .int .u8 0, .int .u8 1, .int .i16 0, .int .i16 0, .int .i16 0, .int .i16 0, .int .u8 1, .int .u8 1, .int .i64 0, .int .i64 10] 77)).alloc (.cells #[.int .u8 0, .int .u8 0, .int .u8 0, .int .u8 0, .int .u8 0, .int .u8 0, .int .u8 0, .int .u8 2, .int .i16 1, .int .i16 0, .int .i16 0, .int .i16 0, .int .u8 1, .int .u8 1, .int .i64 5, .int .i64 10] 77)).alloc (.cells #[.int .u8 0, .int .u8 0, .int .u8 0, .int .u8 0, .int .u8 0, .int .u8 0, .int .u8 0, .int .u8 1, .int .i16 0, .int .i16 0, .int .i16 0, .int .i16 0, .int .u8 1, .int .u8 1, .int .i64 0, .int .i64 10, .int .i64 0, .int .i64 0, .int .u8 0, .int .u8 0, .int .u8 0, .int .u8 0, .int .u8 0, .int .u8 0, .int .u8 0, .int .u8 2, .int .i16 1, .int .i16 0, .int .i16 0, .int .i16 0, .int .u8 1, .int .u8 1, .int .i64 5, .int .i64 10, .int .i64 0, .int .i64 1] 79)).alloc (.cells #[.int .i64 2, .slice (some ⟨w.heap.size + 1 + 1 + 1 + 1 + 1, 0, none⟩) 2 2, .slice (some ⟨w.heap.size + 1 + 1 + 1 + 1 + 1 + 1 + 1, 0, none⟩) 1 1, .int .i64 2, .int .i64 1, .slice (some ⟨w.heap.size + 1 + 1 + 1 + 1 + 1 + 1 + 1 + 1, 0, none⟩) 2 2, .slice (some ⟨w.heap.size + 1 + 1 + 1 + 1 + 1 + 1 + 1 + 1 + 1, 0, none⟩) 1 1, .slice (some ⟨w.heap.size + 1 + 1 + 1 + 1 + 1 + 1 + 1 + 1 + 1 + 1, 0, none⟩) 2 2, .slice (some ⟨w.heap.size + 1 + 1 + 1 + 1 + 1 + 1 + 1 + 1 + 1 + 1 + 1, 0, none⟩) 1 1] 34)).alloc (.cells #[.int .u8 0, .int .u8 0, .int .u8 0, .int .u8 0, .int .u8 0, .int .u8 0, .int .u8 0, .int .u8 7, .int .i16 0, .int .i16 2, .int .u8 4, .int .u8 0, .int .i64 3, .int .i64 0] 83)).alloc (.cells #[.int .i64 0, .int .i64 0, .int .i64 13, .int .i64 1, .int .i64 0, .int .i64 18] 114)).alloc (.cells #[.int .i64 1, .int .i64 0] 69)).alloc (.cells #[.int .i64 0, .int .i64 5] 3)).alloc (.cells #[.int .i64 13] 3)) = W ∧ W.heap[w.heap.size]? = some (.cells #[.int .i64 0, .int .i64 0, .int .i64 0, .int .i64 0, .int .i64 0] 23 (0, 0)) ∧ W.heap[w.heap.size + 1]? = some (.cells #[.int .i64 0, .slice none 0 0, .slice none 0 0, .int .i64 0, .int .i64 0, .slice none 0 0, .slice none 0 0, .slice none 0 0, .slice none 0 0] 34 (0, 0)) ∧ W.heap[w.heap.size + 1 + 1]? = some (.cells #[.int .i64 2, .int .i64 2, .int .i64 2, .int .i64 10, .int .i64 5] 23 (0, 0)) ∧ W.heap[w.heap.size + 1 + 1 + 1 + 1 + 1 + 1]? = some (.cells #[.int .i64 2, .slice (some ⟨w.heap.size + 1 + 1 + 1 + 1 + 1, 0, none⟩) 2 2, .slice (some ⟨w.heap.size + 1 + 1 + 1 + 1 + 1 + 1 + 1, 0, none⟩) 1 1, .int .i64 2, .int .i64 1, .slice (some ⟨w.heap.size + 1 + 1 + 1 + 1 + 1 + 1 + 1 + 1, 0, none⟩) 2 2, .slice (some ⟨w.heap.size + 1 + 1 + 1 + 1 + 1 + 1 + 1 + 1 + 1, 0, none⟩) 1 1, .slice (some ⟨w.heap.size + 1 + 1 + 1 + 1 + 1 + 1 + 1 + 1 + 1 + 1, 0, none⟩) 2 2, .slice (some ⟨w.heap.size + 1 + 1 + 1 + 1 + 1 + 1 + 1 + 1 + 1 + 1 + 1, 0, none⟩) 1 1] 34 (0, 0)) ∧ W.heap[w.heap.size + 1 + 1 + 1 + 1 + 1]? = some (.cells #[.int .u8 0, .int .u8 0, .int .u8 0, .int .u8 0, .int .u8 0, .int .u8 0, .int .u8 0, .int .u8 1, .int .i16 0, .int .i16 0, .int .i16 0, .int .i16 0, .int .u8 1, .int .u8 1, .int .i64 0, .int .i64 10, .int .i64 0, .int .i64 0, .int .u8 0, .int .u8 0, .int .u8 0, .int .u8 0, .int .u8 0, .int .u8 0, .int .u8 0, .int .u8 2, .int .i16 1, .int .i16 0, .int .i16 0, .int .i16 0, .int .u8 1, .int .u8 1, .int .i64 5, .int .i64 10, .int .i64 0, .int .i64 1] 79 (0, 0)) ∧ W.heap[w.heap.size + 1 + 1 + 1 + 1 + 1 + 1 + 1]? = some (.cells #[.int .u8 0, .int .u8 0, .int .u8 0, .int .u8 0, .int .u8 0, .int .u8 0, .int .u8 0, .int .u8 7, .int .i16 0, .int .i16 2, .int .u8 4, .int .u8 0, .int .i64 3, .int .i64 0] 83 (0, 0)) ∧ W.heap[w.heap.size + 1 + 1 + 1 + 1 + 1 + 1 + 1 + 1]? = some (.cells #[.int .i64 0, .int .i64 0, .int .i64 13, .int .i64 1, .int .i64 0, .int .i64 18] 114 (0, 0)) ∧ W.heap[w.heap.size + 1 + 1 + 1 + 1 + 1 + 1 + 1 + 1 + 1]? = some (.cells #[.int .i64 1, .int .i64 0] 69 (0, 0)) ∧ W.heap[w.heap.size + 1 + 1 + 1 + 1 + 1 + 1 + 1 + 1 + 1 + 1]? = some (.cells #[.int .i64 0, .int .i64 5] 3 (0, 0)) ∧ W.heap[w.heap.size + 1 + 1 + 1 + 1 + 1 + 1 + 1 + 1 + 1 + 1 + 1]? = some (.cells #[.int .i64 13] 3 (0, 0)) ∧ Below w.heap.size w W := by
  have step : ∀ (V : World) (o : Obj) (k : Nat), V.heap.size = k → (V.alloc o).heap[k]? = some o ∧ (V.alloc o).heap.size = k + 1 ∧ (∀ (j : Nat) (p : Obj), V.heap[j]? = some p → (V.alloc o).heap[j]? = some p) ∧ (w.heap.size ≤ V.heap.size → Below w.heap.size w V → Below w.heap.size w (V.alloc o)) := by
    intro V o k hk
    exact ⟨by rw [← hk]; exact heap_alloc_new V o, by rw [← hk]; simp, fun j p hp => (Keep.alloc (fun _ => False) V o).old hp id, fun h1 h2 => h2.alloc h1 _⟩
  obtain ⟨a0, s0, k0, q0⟩ := step w (.cells #[.int .i64 0, .int .i64 0, .int .i64 0, .int .i64 0, .int .i64 0] 23) _ rfl
  have b0 := q0 (Nat.le_refl _) (Below.refl _ _)
  generalize w.alloc (.cells #[.int .i64 0, .int .i64 0, .int .i64 0, .int .i64 0, .int .i64 0] 23) = V0 at *
  obtain ⟨a1, s1, k1, q1⟩ := step V0 (.cells #[.int .i64 0, .slice none 0 0, .slice none 0 0, .int .i64 0, .int .i64 0, .slice none 0 0, .slice none 0 0, .slice none 0 0, .slice none 0 0] 34) _ s0
  have b1 := q1 (by rw [s0]; omega) b0
  have a0 := k1 _ _ a0
  generalize V0.alloc (.cells #[.int .i64 0, .slice none 0 0, .slice none 0 0, .int .i64 0, .int .i64 0, .slice none 0 0, .slice none 0 0, .slice none 0 0, .slice none 0 0] 34) = V1 at *
  obtain ⟨a2, s2, k2, q2⟩ := step V1 (.cells #[.int .i64 2, .int .i64 2, .int .i64 2, .int .i64 10, .int .i64 5] 23) _ s1
  have b2 := q2 (by rw [s1]; omega) b1
  have a0 := k2 _ _ a0
  have a1 := k2 _ _ a1
  generalize V1.alloc (.cells #[.int .i64 2, .int .i64 2, .int .i64 2, .int .i64 10, .int .i64 5] 23) = V2 at *
  obtain ⟨a3, s3, k3, q3⟩ := step V2 (.cells #[.int .u8 0, .int .u8 0, .int .u8 0, .int .u8 0, .int .u8 0, .int .u8 0, .int .u8 0, .int .u8 1, .int .i16 0, .int .i16 0, .int .i16 0, .int .i16 0, .int .u8 1, .int .u8 1, .int .i64 0, .int .i64 10] 77) _ s2
  have b3 := q3 (by rw [s2]; omega) b2
  have a0 := k3 _ _ a0
  have a1 := k3 _ _ a1
  have a2 := k3 _ _ a2
  generalize V2.alloc (.cells #[.int .u8 0, .int .u8 0, .int .u8 0, .int .u8 0, .int .u8 0, .int .u8 0, .int .u8 0, .int .u8 1, .int .i16 0, .int .i16 0, .int .i16 0, .int .i16 0, .int .u8 1, .int .u8 1, .int .i64 0, .int .i64 10] 77) = V3 at *
  obtain ⟨a4, s4, k4, q4⟩ := step V3 (.cells #[.int .u8 0, .int .u8 0, .int .u8 0, .int .u8 0, .int .u8 0, .int .u8 0, .int .u8 0, .int .u8 2, .int .i16 1, .int .i16 0, .int .i16 0, .int .i16 0, .int .u8 1, .int .u8 1, .int .i64 5, .int .i64 10] 77) _ s3
  have b4 := q4 (by rw [s3]; omega) b3
  have a0 := k4 _ _ a0
  have a1 := k4 _ _ a1
  have a2 := k4 _ _ a2
  generalize V3.alloc (.cells #[.int .u8 0, .int .u8 0, .int .u8 0, .int .u8 0, .int .u8 0, .int .u8 0, .int .u8 0, .int .u8 2, .int .i16 1, .int .i16 0, .int .i16 0, .int .i16 0, .int .u8 1, .int .u8 1, .int .i64 5, .int .i64 10] 77) = V4 at *
  obtain ⟨a5, s5, k5, q5⟩ := step V4 (.cells #[.int .u8 0, .int .u8 0, .int .u8 0, .int .u8 0, .int .u8 0, .int .u8 0, .int .u8 0, .int .u8 1, .int .i16 0, .int .i16 0, .int .i16 0, .int .i16 0, .int .u8 1, .int .u8 1, .int .i64 0, .int .i64 10, .int .i64 0, .int .i64 0, .int .u8 0, .int .u8 0, .int .u8 0, .int .u8 0, .int .u8 0, .int .u8 0, .int .u8 0, .int .u8 2, .int .i16 1, .int .i16 0, .int .i16 0, .int .i16 0, .int .u8 1, .int .u8 1, .int .i64 5, .int .i64 10, .int .i64 0, .int .i64 1] 79) _ s4
  have b5 := q5 (by rw [s4]; omega) b4
  have a0 := k5 _ _ a0
  have a1 := k5 _ _ a1
  have a2 := k5 _ _ a2
  generalize V4.alloc (.cells #[.int .u8 0, .int .u8 0, .int .u8 0, .int .u8 0, .int .u8 0, .int .u8 0, .int .u8 0, .int .u8 1, .int .i16 0, .int .i16 0, .int .i16 0, .int .i16 0, .int .u8 1, .int .u8 1, .int .i64 0, .int .i64 10, .int .i64 0, .int .i64 0, .int .u8 0, .int .u8 0, .int .u8 0, .int .u8 0, .int .u8 0, .int .u8 0, .int .u8 0, .int .u8 2, .int .i16 1, .int .i16 0, .int .i16 0, .int .i16 0, .int .u8 1, .int .u8 1, .int .i64 5, .int .i64 10, .int .i64 0, .int .i64 1] 79) = V5 at *
  obtain ⟨a6, s6, k6, q6⟩ := step V5 (.cells #[.int .i64 2, .slice (some ⟨w.heap.size + 1 + 1 + 1 + 1 + 1, 0, none⟩) 2 2, .slice (some ⟨w.heap.size + 1 + 1 + 1 + 1 + 1 + 1 + 1, 0, none⟩) 1 1, .int .i64 2, .int .i64 1, .slice (some ⟨w.heap.size + 1 + 1 + 1 + 1 + 1 + 1 + 1 + 1, 0, none⟩) 2 2, .slice (some ⟨w.heap.size + 1 + 1 + 1 + 1 + 1 + 1 + 1 + 1 + 1, 0, none⟩) 1 1, .slice (some ⟨w.heap.size + 1 + 1 + 1 + 1 + 1 + 1 + 1 + 1 + 1 + 1, 0, none⟩) 2 2, .slice (some ⟨w.heap.size + 1 + 1 + 1 + 1 + 1 + 1 + 1 + 1 + 1 + 1 + 1, 0, none⟩) 1 1] 34) _ s5
  have b6 := q6 (by rw [s5]; omega) b5
  have a0 := k6 _ _ a0
  have a1 := k6 _ _ a1
  have a2 := k6 _ _ a2
  have a5 := k6 _ _ a5
  generalize V5.alloc (.cells #[.int .i64 2, .slice (some ⟨w.heap.size + 1 + 1 + 1 + 1 + 1, 0, none⟩) 2 2, .slice (some ⟨w.heap.size + 1 + 1 + 1 + 1 + 1 + 1 + 1, 0, none⟩) 1 1, .int .i64 2, .int .i64 1, .slice (some ⟨w.heap.size + 1 + 1 + 1 + 1 + 1 + 1 + 1 + 1, 0, none⟩) 2 2, .slice (some ⟨w.heap.size + 1 + 1 + 1 + 1 + 1 + 1 + 1 + 1 + 1, 0, none⟩) 1 1, .slice (some ⟨w.heap.size + 1 + 1 + 1 + 1 + 1 + 1 + 1 + 1 + 1 + 1, 0, none⟩) 2 2, .slice (some ⟨w.heap.size + 1 + 1 + 1 + 1 + 1 + 1 + 1 + 1 + 1 + 1 + 1, 0, none⟩) 1 1] 34) = V6 at *
  obtain ⟨a7, s7, k7, q7⟩ := step V6 (.cells #[.int .u8 0, .int .u8 0, .int .u8 0, .int .u8 0, .int .u8 0, .int .u8 0, .int .u8 0, .int .u8 7, .int .i16 0, .int .i16 2, .int .u8 4, .int .u8 0, .int .i64 3, .int .i64 0] 83) _ s6
  have b7 := q7 (by rw [s6]; omega) b6
  have a0 := k7 _ _ a0
  have a1 := k7 _ _ a1
  have a2 := k7 _ _ a2
  have a6 := k7 _ _ a6
  have a5 := k7 _ _ a5
  generalize V6.alloc (.cells #[.int .u8 0, .int .u8 0, .int .u8 0, .int .u8 0, .int .u8 0, .int .u8 0, .int .u8 0, .int .u8 7, .int .i16 0, .int .i16 2, .int .u8 4, .int .u8 0, .int .i64 3, .int .i64 0] 83) = V7 at *
  obtain ⟨a8, s8, k8, q8⟩ := step V7 (.cells #[.int .i64 0, .int .i64 0, .int .i64 13, .int .i64 1, .int .i64 0, .int .i64 18] 114) _ s7
  have b8 := q8 (by rw [s7]; omega) b7
  have a0 := k8 _ _ a0
  have a1 := k8 _ _ a1
  have a2 := k8 _ _ a2
  have a6 := k8 _ _ a6
  have a5 := k8 _ _ a5
  have a7 := k8 _ _ a7
  generalize V7.alloc (.cells #[.int .i64 0, .int .i64 0, .int .i64 13, .int .i64 1, .int .i64 0, .int .i64 18] 114) = V8 at *
  obtain ⟨a9, s9, k9, q9⟩ := step V8 (.cells #[.int .i64 1, .int .i64 0] 69) _ s8
  have b9 := q9 (by rw [s8]; omega) b8
  have a0 := k9 _ _ a0
  have a1 := k9 _ _ a1
  have a2 := k9 _ _ a2
  have a6 := k9 _ _ a6
  have a5 := k9 _ _ a5
  have a7 := k9 _ _ a7
  have a8 := k9 _ _ a8
  generalize V8.alloc (.cells #[.int .i64 1, .int .i64 0] 69) = V9 at *
  obtain ⟨a10, s10, k10, q10⟩ := step V9 (.cells #[.int .i64 0, .int .i64 5] 3) _ s9
  have b10 := q10 (by rw [s9]; omega) b9
  have a0 := k10 _ _ a0
  have a1 := k10 _ _ a1
  have a2 := k10 _ _ a2
  have a6 := k10 _ _ a6
  have a5 := k10 _ _ a5
  have a7 := k10 _ _ a7
  have a8 := k10 _ _ a8
  have a9 := k10 _ _ a9
  generalize V9.alloc (.cells #[.int .i64 0, .int .i64 5] 3) = V10 at *
  obtain ⟨a11, s11, k11, q11⟩ := step V10 (.cells #[.int .i64 13] 3) _ s10
  have b11 := q11 (by rw [s10]; omega) b10
  have a0 := k11 _ _ a0
  have a1 := k11 _ _ a1
  have a2 := k11 _ _ a2
  have a6 := k11 _ _ a6
  have a5 := k11 _ _ a5
  have a7 := k11 _ _ a7
  have a8 := k11 _ _ a8
  have a9 := k11 _ _ a9
  have a10 := k11 _ _ a10
  generalize V10.alloc (.cells #[.int .i64 13] 3) = V11 at *
  exact ⟨_, rfl, a0, a1, a2, a6, a5, a7, a8, a9, a10, a11, b11⟩

theorem put5 {w : World} {B : Nat} {t : TypeId} {z0 z1 z2 z3 z4 : Value} (h : w.heap[B]? = some (.cells #[z0, z1, z2, z3, z4] t (0, 0))) (c0 c1 c2 c3 c4 : Value) :
    (((((w.setCell ⟨B, 0, none⟩ (c0)).setCell ⟨B, 1, none⟩ (c1)).setCell ⟨B, 2, none⟩ (c2)).setCell ⟨B, 3, none⟩ (c3)).setCell ⟨B, 4, none⟩ (c4)).heap[B]? = some (.cells #[c0, c1, c2, c3, c4] t (0, 0)) ∧ Keep (fun k => k = B) w (((((w.setCell ⟨B, 0, none⟩ (c0)).setCell ⟨B, 1, none⟩ (c1)).setCell ⟨B, 2, none⟩ (c2)).setCell ⟨B, 3, none⟩ (c3)).setCell ⟨B, 4, none⟩ (c4)) := by
  have q := (row_set (row_set (row_set (row_set (row_set h 0 (c0)) 1 (c1)) 2 (c2)) 3 (c3)) 4 (c4))
  exact ⟨by simpa only [List.setIfInBounds_toArray, List.set_cons_zero, List.set_cons_succ] using q, Keep.setCells w B 0 [c0, c1, c2, c3, c4]⟩
theorem put9 {w : World} {B : Nat} {t : TypeId} {z0 z1 z2 z3 z4 z5 z6 z7 z8 : Value} (h : w.heap[B]? = some (.cells #[z0, z1, z2, z3, z4, z5, z6, z7, z8] t (0, 0))) (a0 a1 a2 a3 a4 a5 a6 a7 a8 : Value) :
    (((((((((w.setCell ⟨B, 0, none⟩ (a0)).setCell ⟨B, 1, none⟩ (a1)).setCell ⟨B, 2, none⟩ (a2)).setCell ⟨B, 3, none⟩ (a3)).setCell ⟨B, 4, none⟩ (a4)).setCell ⟨B, 5, none⟩ (a5)).setCell ⟨B, 6, none⟩ (a6)).setCell ⟨B, 7, none⟩ (a7)).setCell ⟨B, 8, none⟩ (a8)).heap[B]? = some (.cells #[a0, a1, a2, a3, a4, a5, a6, a7, a8] t (0, 0)) ∧ Keep (fun k => k = B) w (((((((((w.setCell ⟨B, 0, none⟩ (a0)).setCell ⟨B, 1, none⟩ (a1)).setCell ⟨B, 2, none⟩ (a2)).setCell ⟨B, 3, none⟩ (a3)).setCell ⟨B, 4, none⟩ (a4)).setCell ⟨B, 5, none⟩ (a5)).setCell ⟨B, 6, none⟩ (a6)).setCell ⟨B, 7, none⟩ (a7)).setCell ⟨B, 8, none⟩ (a8)) := by
  have q := (row_set (row_set (row_set (row_set (row_set (row_set (row_set (row_set (row_set h 0 (a0)) 1 (a1)) 2 (a2)) 3 (a3)) 4 (a4)) 5 (a5)) 6 (a6)) 7 (a7)) 8 (a8))
  exact ⟨by simpa only [List.setIfInBounds_toArray, List.set_cons_zero, List.set_cons_succ] using q, Keep.setCells w B 0 [a0, a1, a2, a3, a4, a5, a6, a7, a8]⟩

/-- The chapter's record lies there. -/
structure SmallAt (B : Nat) (w : World) : Prop where
  ws : w.heap[B + 5]? = some (.cells #[.int .u8 0, .int .u8 0, .int .u8 0, .int .u8 0, .int .u8 0, .int .u8 0, .int .u8 0, .int .u8 1, .int .i16 0, .int .i16 0, .int .i16 0, .int .i16 0, .int .u8 1, .int .u8 1, .int .i64 0, .int .i64 10, .int .i64 0, .int .i64 0, .int .u8 0, .int .u8 0, .int .u8 0, .int .u8 0, .int .u8 0, .int .u8 0, .int .u8 0, .int .u8 2, .int .i16 1, .int .i16 0, .int .i16 0, .int .i16 0, .int .u8 1, .int .u8 1, .int .i64 5, .int .i64 10, .int .i64 0, .int .i64 1] 79 (0, 0))
  ds : w.heap[B + 7]? = some (.cells #[.int .u8 0, .int .u8 0, .int .u8 0, .int .u8 0, .int .u8 0, .int .u8 0, .int .u8 0, .int .u8 7, .int .i16 0, .int .i16 2, .int .u8 4, .int .u8 0, .int .i64 3, .int .i64 0] 83 (0, 0))
  es : w.heap[B + 8]? = some (.cells #[.int .i64 0, .int .i64 0, .int .i64 13, .int .i64 1, .int .i64 0, .int .i64 18] 114 (0, 0))
  ps : w.heap[B + 9]? = some (.cells #[.int .i64 1, .int .i64 0] 69 (0, 0))
  ys : w.heap[B + 10]? = some (.cells #[.int .i64 0, .int .i64 5] 3 (0, 0))
  zs : w.heap[B + 11]? = some (.cells #[.int .i64 13] 3 (0, 0))

set_option maxHeartbeats 16000000 in
theorem small_any (w : World) : Calls Tryz.prog 37 #[] w fun e w' => e = .returned (.tuple #[.agg #[.int .i64 2, .int .i64 2, .int .i64 2, .int .i64 10, .int .i64 5], .agg #[.int .i64 2, .slice (some ⟨w.heap.size + 5, 0, none⟩) 2 2, .slice (some ⟨w.heap.size + 7, 0, none⟩) 1 1, .int .i64 2, .int .i64 1, .slice (some ⟨w.heap.size + 8, 0, none⟩) 2 2, .slice (some ⟨w.heap.size + 9, 0, none⟩) 1 1, .slice (some ⟨w.heap.size + 10, 0, none⟩) 2 2, .slice (some ⟨w.heap.size + 11, 0, none⟩) 1 1]]) ∧ SmallAt w.heap.size w' ∧ Below w.heap.size w w' := by
  obtain ⟨W, hW, h0, h1, h2, h6, h5, h7, h8, h9, h10, h11, hbel⟩ := small_boxes w
  have HW := Lib.hid hW
  have H0 := Lib.hid h0
  have H1 := Lib.hid h1
  have H2 := Lib.hid h2
  have H6 := Lib.hid h6
  have HS := Lib.hid (show SmallAt w.heap.size W from ⟨h5, h7, h8, h9, h10, h11⟩)
  have HBEL := Lib.hid hbel
  clear hW h0 h1 h2 h5 h6 h7 h8 h9 h10 h11 hbel
  go_enter Tryz.func37, Tryz.ntmps37
  go_wp2_with fail
  rw [HW.out]
  clear HW
  obtain ⟨B, hBB⟩ : ∃ B, w.heap.size = B := ⟨_, rfl⟩
  have HBB := Lib.hid hBB
  rw [hBB] at H0 H1 H2 H6 HS ⊢
  clear hBB
  obtain ⟨x0, x1, x2, x3, x4⟩ := conf_cells (c := ⟨2, 2, 2, 10, 5⟩) H2.out
  obtain ⟨y0, y1, y2, y3, y4, y5, y6, y7, y8⟩ := cells9 H6.out
  obtain ⟨u0, u1, u2, u3, u4⟩ := conf_cells (c := ⟨0, 0, 0, 0, 0⟩) H0.out
  have uf := fun j => frozen_of_row W B j _ _ H0.out
  obtain ⟨v0, v1, v2, v3, v4, v5, v6, v7, v8⟩ := cells9 H1.out
  have vf := fun j => frozen_of_row W (B + 1) j _ _ H1.out
  go_region
  all_goals
    clear x0 x1 x2 x3 x4 y0 y1 y2 y3 y4 y5 y6 y7 y8 u0 u1 u2 u3 u4 uf v0 v1 v2 v3 v4 v5 v6 v7 v8 vf
    obtain ⟨p0, k0⟩ := put5 H0.out (.int .i64 2) (.int .i64 2) (.int .i64 2) (.int .i64 10) (.int .i64 5)
    generalize (((((W.setCell ⟨B, 0, none⟩ (.int .i64 2)).setCell ⟨B, 1, none⟩ (.int .i64 2)).setCell ⟨B, 2, none⟩ (.int .i64 2)).setCell ⟨B, 3, none⟩ (.int .i64 10)).setCell ⟨B, 4, none⟩ (.int .i64 5)) = W2 at *
    obtain ⟨p1, k1⟩ := put9 (k0.old H1.out (by omega)) (.int .i64 2) (.slice (some ⟨B + 1 + 1 + 1 + 1 + 1, 0, none⟩) 2 2) (.slice (some ⟨B + 1 + 1 + 1 + 1 + 1 + 1 + 1, 0, none⟩) 1 1) (.int .i64 2) (.int .i64 1) (.slice (some ⟨B + 1 + 1 + 1 + 1 + 1 + 1 + 1 + 1, 0, none⟩) 2 2) (.slice (some ⟨B + 1 + 1 + 1 + 1 + 1 + 1 + 1 + 1 + 1, 0, none⟩) 1 1) (.slice (some ⟨B + 1 + 1 + 1 + 1 + 1 + 1 + 1 + 1 + 1 + 1, 0, none⟩) 2 2) (.slice (some ⟨B + 1 + 1 + 1 + 1 + 1 + 1 + 1 + 1 + 1 + 1 + 1, 0, none⟩) 1 1)
    generalize (((((((((W2.setCell ⟨B + 1, 0, none⟩ (.int .i64 2)).setCell ⟨B + 1, 1, none⟩ (.slice (some ⟨B + 1 + 1 + 1 + 1 + 1, 0, none⟩) 2 2)).setCell ⟨B + 1, 2, none⟩ (.slice (some ⟨B + 1 + 1 + 1 + 1 + 1 + 1 + 1, 0, none⟩) 1 1)).setCell ⟨B + 1, 3, none⟩ (.int .i64 2)).setCell ⟨B + 1, 4, none⟩ (.int .i64 1)).setCell ⟨B + 1, 5, none⟩ (.slice (some ⟨B + 1 + 1 + 1 + 1 + 1 + 1 + 1 + 1, 0, none⟩) 2 2)).setCell ⟨B + 1, 6, none⟩ (.slice (some ⟨B + 1 + 1 + 1 + 1 + 1 + 1 + 1 + 1 + 1, 0, none⟩) 1 1)).setCell ⟨B + 1, 7, none⟩ (.slice (some ⟨B + 1 + 1 + 1 + 1 + 1 + 1 + 1 + 1 + 1 + 1, 0, none⟩) 2 2)).setCell ⟨B + 1, 8, none⟩ (.slice (some ⟨B + 1 + 1 + 1 + 1 + 1 + 1 + 1 + 1 + 1 + 1 + 1, 0, none⟩) 1 1)) = W3 at *
    have k01 := k0.trans k1 (Z := fun k => k = B ∨ k = B + 1) (fun _ _ h => .inl h) (fun _ _ h => .inr h)
    have HF := Lib.hid (show SmallAt B W3 from ⟨k01.old HS.out.ws (by omega), k01.old HS.out.ds (by omega), k01.old HS.out.es (by omega), k01.old HS.out.ps (by omega), k01.old HS.out.ys (by omega), k01.old HS.out.zs (by omega)⟩)
    have HFB := Lib.hid (show Below w.heap.size w W3 from HBEL.out.trans (k01.below HBEL.out.size (fun i hi h => by have := HBB.out; omega)))
    have p0' := k1.old p0 (by omega)
    obtain ⟨x0, x1, x2, x3, x4⟩ := conf_cells (c := ⟨2, 2, 2, 10, 5⟩) p0'
    obtain ⟨y0, y1, y2, y3, y4, y5, y6, y7, y8⟩ := cells9 p1
    clear p0 p0' p1 k0 k1 k01
    go_wp2_with fail
    exact bodyPost_ret (v := .tuple #[.agg #[.int .i64 2, .int .i64 2, .int .i64 2, .int .i64 10, .int .i64 5], .agg #[.int .i64 2, .slice (some ⟨B + 1 + 1 + 1 + 1 + 1, 0, none⟩) 2 2, .slice (some ⟨B + 1 + 1 + 1 + 1 + 1 + 1 + 1, 0, none⟩) 1 1, .int .i64 2, .int .i64 1, .slice (some ⟨B + 1 + 1 + 1 + 1 + 1 + 1 + 1 + 1, 0, none⟩) 2 2, .slice (some ⟨B + 1 + 1 + 1 + 1 + 1 + 1 + 1 + 1 + 1, 0, none⟩) 1 1, .slice (some ⟨B + 1 + 1 + 1 + 1 + 1 + 1 + 1 + 1 + 1 + 1, 0, none⟩) 2 2, .slice (some ⟨B + 1 + 1 + 1 + 1 + 1 + 1 + 1 + 1 + 1 + 1 + 1, 0, none⟩) 1 1]]) (by simp [results, Tryz.results37, go_sem, x0, x1, x2, x3, x4, y0, y1, y2, y3, y4, y5, y6, y7, y8]) rfl (by rw [HBB.out]; exact ⟨rfl, ⟨HF.out.ws, HF.out.ds, HF.out.es, HF.out.ps, HF.out.ys, HF.out.zs⟩, HBB.out ▸ HFB.out.drew⟩)
end Go.Proofs.YtcaicgipibcicaaGreat
