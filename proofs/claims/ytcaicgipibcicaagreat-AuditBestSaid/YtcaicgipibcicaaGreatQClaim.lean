/- Chapter 16: may a graph be? -/
import Derived.Test.YtcaicgipibcicaaGreatQCertF
import Derived.Test.YtcaicgipibcicaaGreatQRFit3
import Derived.WalkMore
import Derived.Deep.CutRange
import Derived.BigQuiet
import Derived.Deep.QuietTactic
namespace Go.Proofs.YtcaicgipibcicaaGreat
set_option maxRecDepth 100000
set_option linter.unusedVariables false
set_option linter.unusedSimpArgs false
open Go.RowKit Go.Sort

structure GcRel (w : World) (rows cols : Int) (ev : Value) (l : List PEdge) (i : Nat) (H0 H1 : Nat) (wr : World) : Prop where
  g : wr.heap[H0]? = some (.cells #[.int .i64 rows, .int .i64 cols, ev] 28 (0, 0))
  last : wr.heap[H1]? = some (.cells #[.int .i64 (prevE l i).r, .int .i64 (prevE l i).c, .int .i64 (prevE l i).w] 114 (0, 0))
  below : Below w.heap.size w wr
  all : ∀ j, j < i → edgeAt rows cols l j = true
theorem cells3 {w : World} {b : Nat} {a0 a1 a2 : Value} {t : TypeId} (h : w.heap[b]? = some (.cells #[a0, a1, a2] t (0, 0))) :
    w.cell? ⟨b, 0, none⟩ = some a0 ∧ w.cell? ⟨b, 1, none⟩ = some a1 ∧ w.cell? ⟨b, 2, none⟩ = some a2 ∧ (∀ j, w.frozen? ⟨b, j, none⟩ = false) := by
  refine ⟨?_, ?_, ?_, fun j => frozen_of_row w b j _ t h⟩ <;> rw [cell_of_row w b _ _ t (0, 0) h] <;> rfl

theorem GcRel.next {w : World} {rows cols : Int} {ev : Value} {l : List PEdge} {k H0 H1 : Nat} {wr : World} (h : GcRel w rows cols ev l k H0 H1 wr) (hw : w.heap.size = H0) (hH : H0 < H1) {x : PEdge} (hx : l[k]? = some x) {a b c : Int} (ha : a = x.r) (hb : b = x.c) (hc : c = x.w)
    (he : edgeAt rows cols l k = true) : GcRel w rows cols ev l (k + 1) H0 H1 ((((wr.setCell ⟨H1, 0, none⟩ (.int .i64 a)).setCell ⟨H1, 1, none⟩ (.int .i64 b)).setCell ⟨H1, 2, none⟩ (.int .i64 c)).alloc (.cells #[.int .i64 a, .int .i64 b, .int .i64 c] 114)) := by
  subst ha
  subst hb
  subst hc
  have HK : Keep (fun k => k = H1) wr ((((wr.setCell ⟨H1, 0, none⟩ (.int .i64 x.r)).setCell ⟨H1, 1, none⟩ (.int .i64 x.c)).setCell ⟨H1, 2, none⟩ (.int .i64 x.w)).alloc (.cells #[.int .i64 x.r, .int .i64 x.c, .int .i64 x.w] 114)) :=
    (((Keep.setCell _ H1 0 _).trans (Keep.setCell _ H1 1 _) (fun _ _ h => h) (fun _ _ h => h)).trans (Keep.setCell _ H1 2 _) (fun _ _ h => h) (fun _ _ h => h)).trans (Keep.alloc (fun k => k = H1) _ _) (fun _ _ h => h) (fun _ _ h => h)
  refine ⟨HK.old h.g (by omega), ?_, h.below.trans (HK.below h.below.size (fun i hi he => by omega)), fun j hj => ?_⟩
  · rw [prevE_succ hx]
    exact (Keep.alloc (fun _ => False) _ _).old (row_set (row_set (row_set h.last 0 (.int .i64 x.r)) 1 (.int .i64 x.c)) 2 (.int .i64 x.w)) id
  · rcases Nat.lt_succ_iff_lt_or_eq.1 hj with hj | rfl
    · exact h.all j hj
    · exact he

set_option maxHeartbeats 8000000 in
theorem gcheck_any (w : World) (rows cols : Int) (eo : Option Addr) (n c : Nat) (l : List PEdge) (hl : l.length = n) (hr : RdC w eo (cellsOf PEdge.cells l)) (hn : n ≤ 9007199254740992) :
    Calls Tryz.prog 71 #[.agg #[.int .i64 rows, .int .i64 cols, .slice eo n c]] w fun e w' => e = .returned (.int .i64 (graphE rows cols l)) ∧ Below w.heap.size w w' := by
  have HL := Lib.hid hl
  have HR := Lib.hid hr
  clear hl hr
  have HW := Lib.hid (show GcRel w rows cols (.slice eo n c) l 0 w.heap.size (w.heap.size + 1) ((w.alloc (.cells #[.int .i64 rows, .int .i64 cols, .slice eo n c] 28)).alloc (.cells #[.int .i64 (-1), .int .i64 0, .int .i64 0] 114)) from by
    refine ⟨(Keep.alloc (fun _ => False) _ _).old (heap_alloc_new w _) id, ?_, ((Below.refl w.heap.size w).alloc (Nat.le_refl _) _).alloc (by simp) _, fun j hj => by omega⟩
    have := heap_alloc_new (w.alloc (.cells #[.int .i64 rows, .int .i64 cols, .slice eo n c] 28)) (.cells #[.int .i64 (-1), .int .i64 0, .int .i64 0] 114)
    rw [show (w.alloc (.cells #[.int .i64 rows, .int .i64 cols, .slice eo n c] 28)).heap.size = w.heap.size + 1 by simp] at this
    exact this)
  go_enter Tryz.func71, Tryz.ntmps71
  go_wp2_with fail
  go_step3
  go_upto_region 1 with fail
  have hW0 : ∀ W, W = w.alloc (.cells #[.int .i64 rows, .int .i64 cols, .slice eo n c] 28) → W.cell? ⟨w.heap.size, 0, none⟩ = some (.int .i64 rows) ∧ W.cell? ⟨w.heap.size, 1, none⟩ = some (.int .i64 cols) ∧ W.cell? ⟨w.heap.size, 2, none⟩ = some (.slice eo n c) ∧ W.heap.size = w.heap.size + 1 := fun W h => by subst h; exact ⟨by go_simp, by go_simp, by go_simp, by simp⟩
  generalize w.alloc (.cells #[.int .i64 rows, .int .i64 cols, .slice eo n c] 28) = W0 at *
  obtain ⟨e0, e1, e2, hz⟩ := hW0 W0 rfl
  have HZ := Lib.hid hz
  clear hW0 hz
  go_cut [3] from 7 to 24 (fun v wx => Hid (v = .bool (!hdrF rows cols) ∧ wx = W0))
  case first =>
    by_cases b1 : rows < 0
    · have HF := Lib.hid (show hdrF rows cols = false from decide_eq_false (by omega))
      go_wp2_with fail
      go_meet
      exact Lib.hid ⟨by rw [HF.out]; rfl, rfl⟩
    by_cases b2 : 64 < rows
    · have HF := Lib.hid (show hdrF rows cols = false from decide_eq_false (by omega))
      have b1' : 0 ≤ rows := by omega
      go_wp2_with fail
      go_meet
      exact Lib.hid ⟨by rw [HF.out]; rfl, rfl⟩
    by_cases b3 : cols < 0
    · have HF := Lib.hid (show hdrF rows cols = false from decide_eq_false (by omega))
      have b1' : 0 ≤ rows := by omega
      have b2' : rows ≤ 64 := by omega
      go_wp2_with fail
      go_meet
      exact Lib.hid ⟨by rw [HF.out]; rfl, rfl⟩
    have b1' : 0 ≤ rows := by omega
    have b2' : rows ≤ 64 := by omega
    have b3' : 0 ≤ cols := by omega
    have HF := Lib.hid (show hdrF rows cols = decide (cols ≤ 64) by
      by_cases h : cols ≤ 64
      · rw [decide_eq_true h]; exact decide_eq_true (by omega)
      · rw [decide_eq_false h]; exact decide_eq_false (by omega))
    go_wp2_with fail
    go_meet
    refine Lib.hid ⟨?_, rfl⟩
    rw [HF.out]
    by_cases h : cols ≤ 64
    · simp [h]
    · simp [h]; omega
  case rest =>
    obtain ⟨rfl, rfl⟩ := hcut.out
    clear hcut
    have hH : w.heap.size < wc.heap.size := by rw [HZ.out]; omega
    have HW := Lib.hid (by rw [← HZ.out] at HW; exact HW.out)
    go_wp2_with fail
    go_step3
    go_wp2_with fail
    generalize wc.alloc (.cells #[.int .i64 (-1), .int .i64 0, .int .i64 0] 114) = W at *
    generalize wc.heap.size = H1 at *
    have HHE := Lib.hid (show ∃ H0, w.heap.size = H0 from ⟨_, rfl⟩)
    obtain ⟨H0, hH0⟩ := HHE.out
    rw [hH0] at HW hH ⊢
    have HH := Lib.hid hH0
    clear hH0 HHE e0 e1 e2
    go_loopw [3, 29] (fun v i wr => Hid (∃ k : Nat, v = .bool (!hdrF rows cols) ∧ i = .int .i64 k ∧ k ≤ n ∧ GcRel w rows cols (.slice eo n c) l k H0 H1 wr)) (fun _ i _ => n - (intOf i).toNat)
    case atStart => exact Lib.hid ⟨0, rfl, rfl, Nat.zero_le _, HW.out⟩
    case round =>
      obtain ⟨k, rfl, rfl, hk, hrel1⟩ := hrel.out
      clear hrel
      obtain ⟨g0, g1, g2, gf⟩ := cells3 hrel1.g
      obtain ⟨p0, p1, p2, pf⟩ := cells3 hrel1.last
      have HR1 := Lib.hid hrel1
      have hs0 : H0 < wr.heap.size := lt_of_block hrel1.g
      have hs1 : H1 < wr.heap.size := lt_of_block hrel1.last
      clear hrel1
      by_cases hlt : k < n
      · obtain ⟨x, hx⟩ : ∃ x, l[k]? = some x := ⟨l[k]'(by rw [HL.out]; exact hlt), List.getElem?_eq_getElem _⟩
        obtain ⟨b, o, rfl, _⟩ := HR.out.place (by rw [cellsOf_length _ 3 PEdge.cells_length, HL.out]; omega)
        obtain ⟨x0, x1, x2⟩ := edge_at ((HR.out.keep (Keep.of_below HR1.out.below (Nat.le_refl _) (fun _ => False)) (fun _ _ _ => id))) hx
        have HX := Lib.hid hx
        have HPV := Lib.hid (rfl : prevE l k = prevE l k)
        generalize hpv : prevE l k = pv at p0 p1 p2
        have HP := Lib.hid hpv
        clear hpv HPV hx
        have HNEXT := Lib.hid (fun (a b c : Int) (ha : a = x.r) (hb : b = x.c) (hc : c = x.w) (h : edgeAt rows cols l k = true) => HR1.out.next HH.out hH HX.out ha hb hc h)
        have HBA := Lib.hid (fun o => show Below w.heap.size w (wr.alloc o) from HR1.out.below.alloc HR1.out.below.size _)
        have HBAD := Lib.hid (fun h => graphE_bad (rows := rows) (cols := cols) (l := l) (i := k) (by rw [HL.out]; exact hlt) h)
        go_wp2_with fail
        all_goals first
          | (have q : ¬ (0 ≤ x.r ∧ x.r < rows ∧ 0 ≤ x.c ∧ x.c < cols ∧ 1 ≤ x.w ∧ x.w ≤ 1099513724929) ∨ x.r < pv.r ∨ (x.r = pv.r ∧ x.c ≤ pv.c) := by omega
             rw [Exit.noGoto_ret]
             go_ret
             refine ⟨?_, HBA.out _⟩
             rw [HBAD.out (edgeAt_bad HX.out HP.out q)]; rfl)
          | (have q1 : 0 ≤ x.r ∧ x.r < rows ∧ 0 ≤ x.c ∧ x.c < cols ∧ 1 ≤ x.w ∧ x.w ≤ 1099513724929 := by omega
             have q2 : pv.r < x.r ∨ (x.r = pv.r ∧ pv.c < x.c) := by omega
             have HE := Lib.hid (edgeAt_ok HX.out HP.out q1 q2)
             go_roundw
             case rel => exact Lib.hid ⟨k + 1, rfl, by go_num, by omega, HNEXT.out _ _ _ (by omega) (by omega) (by omega) HE.out⟩
             case measure => simp [intOf]; omega)
      · obtain rfl : n = k := by omega
        have HG := Lib.hid (fun h => graphE_good (rows := rows) (cols := cols) (l := l) h (fun j hj => HR1.out.all j (by rw [HL.out] at hj; exact hj)))
        have HN := Lib.hid (fun h => graphE_hdr (rows := rows) (cols := cols) (l := l) h)
        cases hh : hdrF rows cols
        · go_wp2_with fail
          rw [Exit.noGoto_ret]
          go_ret
          exact ⟨by rw [HN.out (of_decide_eq_false hh)]; rfl, HR1.out.below⟩
        · go_wp2_with fail
          rw [Exit.noGoto_ret]
          go_ret
          exact ⟨by rw [HG.out (of_decide_eq_true hh)]; rfl, HR1.out.below⟩
end Go.Proofs.YtcaicgipibcicaaGreat

/- Chapter 18 in the program: what a pair is worth, by halves. -/
namespace Go.Proofs.YtcaicgipibcicaaGreat
set_option maxRecDepth 100000
set_option linter.unusedVariables false
set_option linter.unusedSimpArgs false
open Go.RowKit Go.Sort

theorem cells6 {w : World} {b : Nat} {a0 a1 a2 a3 a4 a5 : Value} {t : TypeId} (h : w.heap[b]? = some (.cells #[a0, a1, a2, a3, a4, a5] t (0, 0))) :
    w.cell? ⟨b, 0, none⟩ = some a0 ∧ w.cell? ⟨b, 1, none⟩ = some a1 ∧ w.cell? ⟨b, 2, none⟩ = some a2 ∧ w.cell? ⟨b, 3, none⟩ = some a3 ∧ w.cell? ⟨b, 4, none⟩ = some a4 ∧ w.cell? ⟨b, 5, none⟩ = some a5 := by
  refine ⟨?_, ?_, ?_, ?_, ?_, ?_⟩ <;> rw [cell_of_row w b _ _ t (0, 0) h] <;> rfl
theorem cells2 {w : World} {b : Nat} {a0 a1 : Value} {t : TypeId} (h : w.heap[b]? = some (.cells #[a0, a1] t (0, 0))) :
    w.cell? ⟨b, 0, none⟩ = some a0 ∧ w.cell? ⟨b, 1, none⟩ = some a1 := by
  refine ⟨?_, ?_⟩ <;> rw [cell_of_row w b _ _ t (0, 0) h] <;> rfl

/-- A claim and a pair in memory. -/
structure WtRel (w : World) (rows cols : Int) (ev pv yv zv : Value) (r c : Int) (H0 H1 : Nat) (wr : World) : Prop where
  g : wr.heap[H0]? = some (.cells #[.int .i64 rows, .int .i64 cols, ev, pv, yv, zv] 164 (0, 0))
  p : wr.heap[H1]? = some (.cells #[.int .i64 r, .int .i64 c] 69 (0, 0))
  below : Below w.heap.size w wr
theorem WtRel.one {w : World} {rows cols : Int} {ev pv yv zv : Value} {r c : Int} {H0 H1 : Nat} {wr : World} (h : WtRel w rows cols ev pv yv zv r c H0 H1 wr) (o : Obj) : WtRel w rows cols ev pv yv zv r c H0 H1 (wr.alloc o) :=
  ⟨(Keep.alloc (fun _ => False) _ _).old h.g id, (Keep.alloc (fun _ => False) _ _).old h.p id, h.below.alloc h.below.size _⟩
theorem WtRel.drewN {w : World} {rows cols : Int} {ev pv yv zv : Value} {r c : Int} {H0 H1 : Nat} {wr : World} (h : WtRel w rows cols ev pv yv zv r c H0 H1 wr) (n : Nat) : WtRel w rows cols ev pv yv zv r c H0 H1 (wr.drewN n) :=
  ⟨h.g, h.p, below_drewN h.below n⟩

set_option maxHeartbeats 8000000 in
theorem weight_any (w : World) (rows cols : Int) (eo : Option Addr) (n c : Nat) (pv yv zv : Value) (r k : Int) (l : List PEdge) (hg : graphF rows cols l = true) (hl : l.length = n) (hr : RdC w eo (cellsOf PEdge.cells l)) (hn : n ≤ 9007199254740992) :
    Calls Tryz.prog 131 #[.agg #[.int .i64 rows, .int .i64 cols, .slice eo n c, pv, yv, zv], .agg #[.int .i64 r, .int .i64 k]] w fun e w' => e = .returned (.int .i64 (worthAt l r k)) ∧ Below w.heap.size w w' := by
  have HL := Lib.hid hl
  have HR := Lib.hid hr
  have HG := Lib.hid hg
  clear hl hr hg
  have HW := Lib.hid (show WtRel w rows cols (.slice eo n c) pv yv zv r k w.heap.size (w.heap.size + 1) ((w.alloc (.cells #[.int .i64 rows, .int .i64 cols, .slice eo n c, pv, yv, zv] 164)).alloc (.cells #[.int .i64 r, .int .i64 k] 69)) from by
    refine ⟨(Keep.alloc (fun _ => False) _ _).old (heap_alloc_new w _) id, ?_, ((Below.refl w.heap.size w).alloc (Nat.le_refl _) _).alloc (by simp) _⟩
    have := heap_alloc_new (w.alloc (.cells #[.int .i64 rows, .int .i64 cols, .slice eo n c, pv, yv, zv] 164)) (.cells #[.int .i64 r, .int .i64 k] 69)
    rw [show (w.alloc (.cells #[.int .i64 rows, .int .i64 cols, .slice eo n c, pv, yv, zv] 164)).heap.size = w.heap.size + 1 by simp] at this
    exact this)
  go_enter Tryz.func131, Tryz.ntmps131
  go_wp2_with fail
  generalize (w.alloc (.cells #[.int .i64 rows, .int .i64 cols, .slice eo n c, pv, yv, zv] 164)).alloc (.cells #[.int .i64 r, .int .i64 k] 69) = W at *
  have HHE := Lib.hid (show ∃ H0 H1, w.heap.size = H0 ∧ w.heap.size + 1 = H1 from ⟨_, _, rfl, rfl⟩)
  obtain ⟨H0, H1, hH0, hH1⟩ := HHE.out
  rw [hH1, hH0] at HW ⊢
  have HH := Lib.hid hH0
  clear hH0 hH1 HHE
  obtain ⟨g0, g1, g2, g3, g4, g5⟩ := cells6 HW.out.g
  go_quiet (fail)
  clear g0 g1 g2 g3 g4 g5
  have HW1 := Lib.hid (HW.out.drewN nq)
  clear HW
  generalize W.drewN nq = W1 at *
  go_wp2_with fail
  go_loopw [5, 6] (fun a b wr => Hid (∃ lo hi : Nat, a = .int .i64 lo ∧ b = .int .i64 hi ∧ Halves l r k lo hi ∧ WtRel w rows cols (.slice eo n c) pv yv zv r k H0 H1 wr)) (fun a b _ => (intOf b - intOf a).toNat)
  case atStart => exact Lib.hid ⟨0, n, rfl, rfl, by rw [← HL.out]; exact Halves.begin _ _ _, HW1.out⟩
  case round =>
    obtain ⟨lo, hi, rfl, rfl, hh, hrel1⟩ := hrel.out
    clear hrel
    have HHV := Lib.hid hh
    have hle := hh.le
    have hhi : hi ≤ n := by have := hh.len; rw [HL.out] at this; exact this
    clear hh
    obtain ⟨g0, g1, g2, g3, g4, g5⟩ := cells6 hrel1.g
    obtain ⟨p0, p1⟩ := cells2 hrel1.p
    have hs0 : H0 < wr.heap.size := lt_of_block hrel1.g
    have hs1 : H1 < wr.heap.size := lt_of_block hrel1.p
    have HR1 := Lib.hid hrel1
    clear hrel1
    clear g0 g1 g3 g4 g5
    by_cases hlt : lo < hi
    · obtain ⟨m, hm⟩ : ∃ m, (lo + hi) / 2 = m := ⟨_, rfl⟩
      have hm1 : lo ≤ m := by omega
      have hm2 : m < hi := by omega
      obtain ⟨x, hx⟩ : ∃ x, l[m]? = some x := ⟨l[m]'(by rw [HL.out]; omega), List.getElem?_eq_getElem _⟩
      obtain ⟨b, o, rfl, _⟩ := HR.out.place (by rw [cellsOf_length _ 3 PEdge.cells_length, HL.out]; omega)
      obtain ⟨x0, x1, x2⟩ := edge_at (HR.out.keep (Keep.of_below HR1.out.below (Nat.le_refl _) (fun _ => False)) (fun _ _ _ => id)) hx
      have hb0 : b < wr.heap.size := World.block_lt_of_cell? wr _ x0
      have HX := Lib.hid hx
      clear hx
      have hmi : ((lo : Int) + (hi : Int)) / 2 = (m : Int) := by omega
      have HM := Lib.hid hm
      clear hm
      have hc2 : x.r < r ∨ (r ≤ x.r ∧ r < x.r) ∨ (x.r = r ∧ x.c < k) ∨ (x.r = r ∧ k ≤ x.c) := by omega
      have HUP := Lib.hid (fun h => HHV.out.up HG.out hm1 hm2 HX.out h)
      have HDN := Lib.hid (fun h => HHV.out.down HG.out hm1 hm2 HX.out h)
      rcases hc2 with h11 | ⟨h11, h12⟩ | ⟨h11, h12⟩ | ⟨h11, h12⟩
      · have HA := Lib.hid (show aheadF x r k = true from decide_eq_true (by omega))
        go_wp2_with fail
        go_roundw
        case rel => exact Lib.hid ⟨m + 1, hi, by first | go_num | (rw [hmi]; go_num), rfl, HUP.out HA.out, HR1.out.one _⟩
        case measure => simp [intOf]; omega
      · have HA := Lib.hid (show aheadF x r k = false from decide_eq_false (by omega))
        have h13 : (x.r == r) = false := by simp; omega
        go_wp2_with fail
        go_roundw
        case rel => exact Lib.hid ⟨lo, m, rfl, by first | rfl | rw [hmi], HDN.out HA.out, HR1.out.one _⟩
        case measure => simp [intOf]; omega
      · have HA := Lib.hid (show aheadF x r k = true from decide_eq_true (by omega))
        have h13 : (x.r == r) = true := by simp [h11]
        have h14 : ¬ x.r < r := by omega
        clear h11
        go_wp2_with fail
        go_roundw
        case rel => exact Lib.hid ⟨m + 1, hi, by first | go_num | (rw [hmi]; go_num), rfl, HUP.out HA.out, HR1.out.one _⟩
        case measure => simp [intOf]; omega
      · have HA := Lib.hid (show aheadF x r k = false from decide_eq_false (by omega))
        have h13 : (x.r == r) = true := by simp [h11]
        have h14 : ¬ x.r < r := by omega
        clear h11
        go_wp2_with fail
        go_roundw
        case rel => exact Lib.hid ⟨lo, m, rfl, by first | rfl | rw [hmi], HDN.out HA.out, HR1.out.one _⟩
        case measure => simp [intOf]; omega
    · obtain rfl : lo = hi := by omega
      clear hle
      by_cases hln : lo < n
      · obtain ⟨x, hx⟩ : ∃ x, l[lo]? = some x := ⟨l[lo]'(by rw [HL.out]; omega), List.getElem?_eq_getElem _⟩
        obtain ⟨b, o, rfl, _⟩ := HR.out.place (by rw [cellsOf_length _ 3 PEdge.cells_length, HL.out]; omega)
        obtain ⟨x0, x1, x2⟩ := edge_at (HR.out.keep (Keep.of_below HR1.out.below (Nat.le_refl _) (fun _ => False)) (fun _ _ _ => id)) hx
        have hb0 : b < wr.heap.size := World.block_lt_of_cell? wr _ x0
        have HX := Lib.hid hx
        clear hx
        have hd : decide (lo < n) = true := by simpa using hln
        by_cases h1 : x.r = r
        · by_cases h2 : x.c = k
          · have HE := Lib.hid (HHV.out.hit HX.out ⟨h1, h2⟩)
            have h3 : (x.r == r) = true := by simp [h1]
            have h4 : (x.c == k) = true := by simp [h2]
            clear h1 h2
            go_wp2_with fail
            go_quiet (fail)
            go_wp2_with fail
            go_ret
            exact ⟨by rw [HE.out]; rfl, below_drewN HR1.out.below _⟩
          · have HE := Lib.hid (HHV.out.miss HG.out HX.out (fun h => h2 h.2))
            have h3 : (x.r == r) = true := by simp [h1]
            have h4 : (x.c == k) = false := by simp [h2]
            clear h1 h2
            go_wp2_with fail
            go_quiet (fail)
            go_wp2_with fail
            go_ret
            exact ⟨by rw [HE.out]; rfl, below_drewN HR1.out.below _⟩
        · have HE := Lib.hid (HHV.out.miss HG.out HX.out (fun h => h1 h.1))
          have h3 : (x.r == r) = false := by simp [h1]
          clear h1
          go_wp2_with fail
          go_quiet (fail)
          go_wp2_with fail
          go_ret
          exact ⟨by rw [HE.out]; rfl, below_drewN HR1.out.below _⟩
      · have HE := Lib.hid (HHV.out.past (by rw [HL.out]; omega))
        have hd : decide (lo < n) = false := by simpa using hln
        go_wp2_with fail
        go_quiet (fail)
        go_wp2_with fail
        go_ret
        exact ⟨by rw [HE.out]; rfl, below_drewN HR1.out.below _⟩
end Go.Proofs.YtcaicgipibcicaaGreat
