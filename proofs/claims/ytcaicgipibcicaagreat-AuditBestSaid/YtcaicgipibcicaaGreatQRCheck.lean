/- Chapter 16 in the references: may a graph be? Printed by wip/genright.py. -/
import Derived.Test.YtcaicgipibcicaaGreatQClaim
import Derived.Test.YtcaicgipibcicaaGreatQCertF
import Derived.WalkMore
namespace Go.Proofs.YtcaicgipibcicaaGreat
set_option maxRecDepth 100000
set_option linter.unusedVariables false
set_option linter.unusedSimpArgs false
open Go.RowKit

structure RgRel (w : World) (rows cols : Int) (ev : Value) (l : List PEdge) (i : Nat) (H0 : Nat) (wr : World) : Prop where
  g : wr.heap[H0]? = some (.cells #[.int .i64 rows, .int .i64 cols, ev] 28 (0, 0))
  below : Below w.heap.size w wr
  all : ∀ j, j < i → edgeAt rows cols l j = true
theorem RgRel.one {w : World} {rows cols : Int} {ev : Value} {l : List PEdge} {i : Nat} {H0 : Nat} {wr : World} (h : RgRel w rows cols ev l i H0 wr) (o : Obj) : RgRel w rows cols ev l i H0 (wr.alloc o) :=
  ⟨(Keep.alloc (fun _ => False) _ _).old h.g id, h.below.alloc h.below.size _, h.all⟩
theorem RgRel.next {w : World} {rows cols : Int} {ev : Value} {l : List PEdge} {i : Nat} {H0 : Nat} {wr : World} (h : RgRel w rows cols ev l i H0 wr) (he : edgeAt rows cols l i = true) : RgRel w rows cols ev l (i + 1) H0 wr :=
  ⟨h.g, h.below, upto_next h.all he⟩
def graphB (rows cols : Int) (l : List PEdge) : Bool := decide (graphE rows cols l = 0)

set_option maxHeartbeats 8000000 in
theorem rgcheck_any (w : World) (rows cols : Int) (eo : Option Addr) (n c : Nat) (l : List PEdge) (hl : l.length = n) (hr : RdC w eo (cellsOf PEdge.cells l)) (hn : n ≤ 9007199254740992) :
    Calls Tryz.prog 135 #[.agg #[.int .i64 rows, .int .i64 cols, .slice eo n c]] w fun e w' => e = .returned (.int .i64 (graphE rows cols l)) ∧ Below w.heap.size w w' := by
  have HL := Lib.hid hl
  have HR := Lib.hid hr
  clear hl hr
  have HW := Lib.hid (show RgRel w rows cols (.slice eo n c) l 0 w.heap.size (w.alloc (.cells #[.int .i64 rows, .int .i64 cols, .slice eo n c] 28)) from
    ⟨heap_alloc_new w _, (Below.refl w.heap.size w).alloc (Nat.le_refl _) _, fun j hj => by omega⟩)
  have hcase : (rows < 0) ∨ (0 ≤ rows ∧ 64 < rows) ∨ (0 ≤ rows ∧ rows ≤ 64 ∧ cols < 0) ∨ (0 ≤ rows ∧ rows ≤ 64 ∧ 0 ≤ cols ∧ 64 < cols) ∨ (0 ≤ rows ∧ rows ≤ 64 ∧ 0 ≤ cols ∧ cols ≤ 64) := by omega
  rcases hcase with h1 | ⟨h1, h2⟩ | ⟨h1, h2, h3⟩ | ⟨h1, h2, h3, h4⟩ | ⟨h1, h2, h3, h4⟩
  iterate 4
    · have HE := Lib.hid (graphE_hdr (l := l) (show ¬ (0 ≤ rows ∧ rows ≤ 64 ∧ 0 ≤ cols ∧ cols ≤ 64) by omega))
      go_enter Tryz.func135, Tryz.ntmps135
      go_wp2_with fail
      all_goals
        go_ret
        exact ⟨by rw [HE.out]; rfl, HW.out.below⟩
  go_enter Tryz.func135, Tryz.ntmps135
  go_wp2_with fail
  generalize w.alloc (.cells #[.int .i64 rows, .int .i64 cols, .slice eo n c] 28) = W at *
  have HHE := Lib.hid (show ∃ H0, w.heap.size = H0 from ⟨_, rfl⟩)
  obtain ⟨H0, hH0⟩ := HHE.out
  rw [hH0] at HW ⊢
  have HH := Lib.hid hH0
  clear hH0 HHE
  go_loopw [3] (fun i wr => Hid (∃ k : Nat, i = .int .i64 k ∧ k ≤ n ∧ RgRel w rows cols (.slice eo n c) l k H0 wr)) (fun i _ => n - (intOf i).toNat)
  case atStart => exact Lib.hid ⟨0, rfl, Nat.zero_le _, HW.out⟩
  case round =>
    obtain ⟨k, rfl, hk, hrel1⟩ := hrel.out
    clear hrel
    obtain ⟨g0, g1, g2, gf⟩ := cells3 hrel1.g
    have hs0 : H0 < wr.heap.size := lt_of_block hrel1.g
    have HR1 := Lib.hid hrel1
    clear hrel1
    by_cases hlt : k < n
    · obtain ⟨x, hx⟩ : ∃ x, l[k]? = some x := ⟨l[k]'(by rw [HL.out]; exact hlt), List.getElem?_eq_getElem _⟩
      obtain ⟨b, o, rfl, _⟩ := HR.out.place (by rw [cellsOf_length _ 3 PEdge.cells_length, HL.out]; omega)
      have HRW := Lib.hid (HR.out.keep (Keep.of_below HR1.out.below (Nat.le_refl _) (fun _ => False)) (fun _ _ _ => id))
      obtain ⟨x0, x1, x2⟩ := edge_at HRW.out hx
      have hb0 : b < wr.heap.size := World.block_lt_of_cell? wr _ x0
      have HX := Lib.hid hx
      clear hx
      have HBAD := Lib.hid (fun h => graphE_bad (rows := rows) (cols := cols) (l := l) (i := k) (by rw [HL.out]; exact hlt) h)
      by_cases a1 : x.r < 0 ∨ rows ≤ x.r ∨ x.c < 0 ∨ cols ≤ x.c ∨ x.w < 1 ∨ 1099513724929 < x.w
      · have HB := Lib.hid (HBAD.out (edgeAt_out HX.out (by omega)))
        have a2 : x.r < 0 ∨ (0 ≤ x.r ∧ rows ≤ x.r) ∨ (0 ≤ x.r ∧ x.r < rows ∧ x.c < 0) ∨ (0 ≤ x.r ∧ x.r < rows ∧ 0 ≤ x.c ∧ cols ≤ x.c) ∨ (0 ≤ x.r ∧ x.r < rows ∧ 0 ≤ x.c ∧ x.c < cols ∧ x.w < 1) ∨ (0 ≤ x.r ∧ x.r < rows ∧ 0 ≤ x.c ∧ x.c < cols ∧ 1 ≤ x.w ∧ 1099513724929 < x.w) := by omega
        clear a1
        rcases a2 with h5 | ⟨h5, h6⟩ | ⟨h5, h6, h7⟩ | ⟨h5, h6, h7, h8⟩ | ⟨h5, h6, h7, h8, h9⟩ | ⟨h5, h6, h7, h8, h9, h10⟩
        all_goals
          go_wp2_with fail
          go_ret
          exact ⟨by rw [HB.out]; rfl, (HR1.out.one _).below⟩
      · have h5 : 0 ≤ x.r := by omega
        have h6 : x.r < rows := by omega
        have h7 : 0 ≤ x.c := by omega
        have h8 : x.c < cols := by omega
        have h9 : 1 ≤ x.w := by omega
        have h10 : x.w ≤ 1099513724929 := by omega
        clear a1
        by_cases hk0 : k = 0
        · have HE := Lib.hid (show edgeAt rows cols l k = true by rw [edgeAt_prev HX.out (by omega), hk0]; exact edgeAfter_yes (by simp only [prevE]; omega))
          have hk0' : ¬ 0 < k := by omega
          clear hk0
          go_wp2_with fail
          go_roundw
          case rel => exact Lib.hid ⟨k + 1, by go_num, by omega, (HR1.out.one _).next HE.out⟩
          case measure => simp [intOf]; omega
        · have hk1 : 0 < k := by omega
          obtain ⟨y, hy⟩ : ∃ y, l[k - 1]? = some y := ⟨l[k - 1]'(by rw [HL.out]; omega), List.getElem?_eq_getElem _⟩
          obtain ⟨y0, y1, y2⟩ := edge_at HRW.out hy
          have HP := Lib.hid (show prevE l k = y by
            have := prevE_succ hy
            rwa [show k - 1 + 1 = k by omega] at this)
          clear hy hk0
          have hc2 : x.r < y.r ∨ (y.r ≤ x.r ∧ y.r < x.r) ∨ (x.r = y.r ∧ x.c ≤ y.c) ∨ (x.r = y.r ∧ y.c < x.c) := by omega
          rcases hc2 with h11 | ⟨h11, h12⟩ | ⟨h11, h12⟩ | ⟨h11, h12⟩
          · have q2 : ¬ (0 ≤ x.r ∧ x.r < rows ∧ 0 ≤ x.c ∧ x.c < cols ∧ 1 ≤ x.w ∧ x.w ≤ 1099513724929) ∨ x.r < y.r ∨ (x.r = y.r ∧ x.c ≤ y.c) := by omega
            have HB := Lib.hid (HBAD.out (edgeAt_bad HX.out HP.out q2))
            clear q2
            go_wp2_with fail
            go_ret
            exact ⟨by rw [HB.out]; rfl, ((HR1.out.one _).one _).below⟩
          · have q1 : 0 ≤ x.r ∧ x.r < rows ∧ 0 ≤ x.c ∧ x.c < cols ∧ 1 ≤ x.w ∧ x.w ≤ 1099513724929 := ⟨h5, h6, h7, h8, h9, h10⟩
            have q2 : y.r < x.r ∨ (x.r = y.r ∧ y.c < x.c) := by omega
            have HE := Lib.hid (edgeAt_ok HX.out HP.out q1 q2)
            clear q1 q2
            have h13 : (x.r == y.r) = false := by simp; omega
            go_wp2_with fail
            go_roundw
            case rel => exact Lib.hid ⟨k + 1, by go_num, by omega, ((HR1.out.one _).one _).next HE.out⟩
            case measure => simp [intOf]; omega
          · have q2 : ¬ (0 ≤ x.r ∧ x.r < rows ∧ 0 ≤ x.c ∧ x.c < cols ∧ 1 ≤ x.w ∧ x.w ≤ 1099513724929) ∨ x.r < y.r ∨ (x.r = y.r ∧ x.c ≤ y.c) := by omega
            have HB := Lib.hid (HBAD.out (edgeAt_bad HX.out HP.out q2))
            clear q2
            have h13 : (x.r == y.r) = true := by simp [h11]
            have h14 : ¬ x.r < y.r := by omega
            clear h11
            go_wp2_with fail
            go_ret
            exact ⟨by rw [HB.out]; rfl, ((HR1.out.one _).one _).below⟩
          · have q1 : 0 ≤ x.r ∧ x.r < rows ∧ 0 ≤ x.c ∧ x.c < cols ∧ 1 ≤ x.w ∧ x.w ≤ 1099513724929 := ⟨h5, h6, h7, h8, h9, h10⟩
            have q2 : y.r < x.r ∨ (x.r = y.r ∧ y.c < x.c) := by omega
            have HE := Lib.hid (edgeAt_ok HX.out HP.out q1 q2)
            clear q1 q2
            have h13 : (x.r == y.r) = true := by simp [h11]
            have h14 : ¬ x.r < y.r := by omega
            clear h11
            go_wp2_with fail
            go_roundw
            case rel => exact Lib.hid ⟨k + 1, by go_num, by omega, ((HR1.out.one _).one _).next HE.out⟩
            case measure => simp [intOf]; omega
    · obtain rfl : n = k := by omega
      have HG := Lib.hid (graphE_good (rows := rows) (cols := cols) (l := l) (by omega) (fun j hj => HR1.out.all j (by rw [HL.out] at hj; exact hj)))
      go_wp2_with fail
      go_ret
      exact ⟨by rw [HG.out]; rfl, HR1.out.below⟩

set_option maxHeartbeats 8000000 in
theorem right_any (w : World) (rows cols : Int) (eo : Option Addr) (n c : Nat) (l : List PEdge) (hl : l.length = n) (hr : RdC w eo (cellsOf PEdge.cells l)) (hn : n ≤ 9007199254740992) :
    Calls Tryz.prog 94 #[.agg #[.int .i64 rows, .int .i64 cols, .slice eo n c]] w fun e w' => e = .returned (.bool (graphB rows cols l)) ∧ Below w.heap.size w w' := by
  have HL := Lib.hid hl
  have HR := Lib.hid hr
  clear hl hr
  have HW := Lib.hid (show RgRel w rows cols (.slice eo n c) l 0 w.heap.size (w.alloc (.cells #[.int .i64 rows, .int .i64 cols, .slice eo n c] 28)) from
    ⟨heap_alloc_new w _, (Below.refl w.heap.size w).alloc (Nat.le_refl _) _, fun j hj => by omega⟩)
  have hcase : (rows < 0) ∨ (0 ≤ rows ∧ 64 < rows) ∨ (0 ≤ rows ∧ rows ≤ 64 ∧ cols < 0) ∨ (0 ≤ rows ∧ rows ≤ 64 ∧ 0 ≤ cols ∧ 64 < cols) ∨ (0 ≤ rows ∧ rows ≤ 64 ∧ 0 ≤ cols ∧ cols ≤ 64) := by omega
  rcases hcase with h1 | ⟨h1, h2⟩ | ⟨h1, h2, h3⟩ | ⟨h1, h2, h3, h4⟩ | ⟨h1, h2, h3, h4⟩
  iterate 4
    · have HE := Lib.hid (graphE_hdr (l := l) (show ¬ (0 ≤ rows ∧ rows ≤ 64 ∧ 0 ≤ cols ∧ cols ≤ 64) by omega))
      go_enter Tryz.func94, Tryz.ntmps94
      go_wp2_with fail
      all_goals
        go_ret
        exact ⟨by rw [graphB, HE.out]; rfl, HW.out.below⟩
  go_enter Tryz.func94, Tryz.ntmps94
  go_wp2_with fail
  generalize w.alloc (.cells #[.int .i64 rows, .int .i64 cols, .slice eo n c] 28) = W at *
  have HHE := Lib.hid (show ∃ H0, w.heap.size = H0 from ⟨_, rfl⟩)
  obtain ⟨H0, hH0⟩ := HHE.out
  rw [hH0] at HW ⊢
  have HH := Lib.hid hH0
  clear hH0 HHE
  go_loopw [3] (fun i wr => Hid (∃ k : Nat, i = .int .i64 k ∧ k ≤ n ∧ RgRel w rows cols (.slice eo n c) l k H0 wr)) (fun i _ => n - (intOf i).toNat)
  case atStart => exact Lib.hid ⟨0, rfl, Nat.zero_le _, HW.out⟩
  case round =>
    obtain ⟨k, rfl, hk, hrel1⟩ := hrel.out
    clear hrel
    obtain ⟨g0, g1, g2, gf⟩ := cells3 hrel1.g
    have hs0 : H0 < wr.heap.size := lt_of_block hrel1.g
    have HR1 := Lib.hid hrel1
    clear hrel1
    by_cases hlt : k < n
    · obtain ⟨x, hx⟩ : ∃ x, l[k]? = some x := ⟨l[k]'(by rw [HL.out]; exact hlt), List.getElem?_eq_getElem _⟩
      obtain ⟨b, o, rfl, _⟩ := HR.out.place (by rw [cellsOf_length _ 3 PEdge.cells_length, HL.out]; omega)
      have HRW := Lib.hid (HR.out.keep (Keep.of_below HR1.out.below (Nat.le_refl _) (fun _ => False)) (fun _ _ _ => id))
      obtain ⟨x0, x1, x2⟩ := edge_at HRW.out hx
      have hb0 : b < wr.heap.size := World.block_lt_of_cell? wr _ x0
      have HX := Lib.hid hx
      clear hx
      have HBAD := Lib.hid (fun h => graphE_bad (rows := rows) (cols := cols) (l := l) (i := k) (by rw [HL.out]; exact hlt) h)
      by_cases a1 : x.r < 0 ∨ rows ≤ x.r ∨ x.c < 0 ∨ cols ≤ x.c ∨ x.w < 1 ∨ 1099513724929 < x.w
      · have HB := Lib.hid (HBAD.out (edgeAt_out HX.out (by omega)))
        have a2 : x.r < 0 ∨ (0 ≤ x.r ∧ rows ≤ x.r) ∨ (0 ≤ x.r ∧ x.r < rows ∧ x.c < 0) ∨ (0 ≤ x.r ∧ x.r < rows ∧ 0 ≤ x.c ∧ cols ≤ x.c) ∨ (0 ≤ x.r ∧ x.r < rows ∧ 0 ≤ x.c ∧ x.c < cols ∧ x.w < 1) ∨ (0 ≤ x.r ∧ x.r < rows ∧ 0 ≤ x.c ∧ x.c < cols ∧ 1 ≤ x.w ∧ 1099513724929 < x.w) := by omega
        clear a1
        rcases a2 with h5 | ⟨h5, h6⟩ | ⟨h5, h6, h7⟩ | ⟨h5, h6, h7, h8⟩ | ⟨h5, h6, h7, h8, h9⟩ | ⟨h5, h6, h7, h8, h9, h10⟩
        all_goals
          go_wp2_with fail
          go_ret
          exact ⟨by rw [graphB, HB.out]; rfl, (HR1.out.one _).below⟩
      · have h5 : 0 ≤ x.r := by omega
        have h6 : x.r < rows := by omega
        have h7 : 0 ≤ x.c := by omega
        have h8 : x.c < cols := by omega
        have h9 : 1 ≤ x.w := by omega
        have h10 : x.w ≤ 1099513724929 := by omega
        clear a1
        by_cases hk0 : k = 0
        · have HE := Lib.hid (show edgeAt rows cols l k = true by rw [edgeAt_prev HX.out (by omega), hk0]; exact edgeAfter_yes (by simp only [prevE]; omega))
          have hk0' : ¬ 0 < k := by omega
          clear hk0
          go_wp2_with fail
          go_roundw
          case rel => exact Lib.hid ⟨k + 1, by go_num, by omega, (HR1.out.one _).next HE.out⟩
          case measure => simp [intOf]; omega
        · have hk1 : 0 < k := by omega
          obtain ⟨y, hy⟩ : ∃ y, l[k - 1]? = some y := ⟨l[k - 1]'(by rw [HL.out]; omega), List.getElem?_eq_getElem _⟩
          obtain ⟨y0, y1, y2⟩ := edge_at HRW.out hy
          have HP := Lib.hid (show prevE l k = y by
            have := prevE_succ hy
            rwa [show k - 1 + 1 = k by omega] at this)
          clear hy hk0
          have hc2 : x.r < y.r ∨ (y.r ≤ x.r ∧ y.r < x.r) ∨ (x.r = y.r ∧ x.c ≤ y.c) ∨ (x.r = y.r ∧ y.c < x.c) := by omega
          rcases hc2 with h11 | ⟨h11, h12⟩ | ⟨h11, h12⟩ | ⟨h11, h12⟩
          · have q2 : ¬ (0 ≤ x.r ∧ x.r < rows ∧ 0 ≤ x.c ∧ x.c < cols ∧ 1 ≤ x.w ∧ x.w ≤ 1099513724929) ∨ x.r < y.r ∨ (x.r = y.r ∧ x.c ≤ y.c) := by omega
            have HB := Lib.hid (HBAD.out (edgeAt_bad HX.out HP.out q2))
            clear q2
            go_wp2_with fail
            go_ret
            exact ⟨by rw [graphB, HB.out]; rfl, ((HR1.out.one _).one _).below⟩
          · have q1 : 0 ≤ x.r ∧ x.r < rows ∧ 0 ≤ x.c ∧ x.c < cols ∧ 1 ≤ x.w ∧ x.w ≤ 1099513724929 := ⟨h5, h6, h7, h8, h9, h10⟩
            have q2 : y.r < x.r ∨ (x.r = y.r ∧ y.c < x.c) := by omega
            have HE := Lib.hid (edgeAt_ok HX.out HP.out q1 q2)
            clear q1 q2
            have h13 : (x.r == y.r) = false := by simp; omega
            go_wp2_with fail
            go_roundw
            case rel => exact Lib.hid ⟨k + 1, by go_num, by omega, ((HR1.out.one _).one _).next HE.out⟩
            case measure => simp [intOf]; omega
          · have q2 : ¬ (0 ≤ x.r ∧ x.r < rows ∧ 0 ≤ x.c ∧ x.c < cols ∧ 1 ≤ x.w ∧ x.w ≤ 1099513724929) ∨ x.r < y.r ∨ (x.r = y.r ∧ x.c ≤ y.c) := by omega
            have HB := Lib.hid (HBAD.out (edgeAt_bad HX.out HP.out q2))
            clear q2
            have h13 : (x.r == y.r) = true := by simp [h11]
            have h14 : ¬ x.r < y.r := by omega
            clear h11
            go_wp2_with fail
            go_ret
            exact ⟨by rw [graphB, HB.out]; rfl, ((HR1.out.one _).one _).below⟩
          · have q1 : 0 ≤ x.r ∧ x.r < rows ∧ 0 ≤ x.c ∧ x.c < cols ∧ 1 ≤ x.w ∧ x.w ≤ 1099513724929 := ⟨h5, h6, h7, h8, h9, h10⟩
            have q2 : y.r < x.r ∨ (x.r = y.r ∧ y.c < x.c) := by omega
            have HE := Lib.hid (edgeAt_ok HX.out HP.out q1 q2)
            clear q1 q2
            have h13 : (x.r == y.r) = true := by simp [h11]
            have h14 : ¬ x.r < y.r := by omega
            clear h11
            go_wp2_with fail
            go_roundw
            case rel => exact Lib.hid ⟨k + 1, by go_num, by omega, ((HR1.out.one _).one _).next HE.out⟩
            case measure => simp [intOf]; omega
    · obtain rfl : n = k := by omega
      have HG := Lib.hid (graphE_good (rows := rows) (cols := cols) (l := l) (by omega) (fun j hj => HR1.out.all j (by rw [HL.out] at hj; exact hj)))
      go_wp2_with fail
      go_ret
      exact ⟨by rw [graphB, HG.out]; rfl, HR1.out.below⟩
end Go.Proofs.YtcaicgipibcicaaGreat
