/- Graphs that are the same; windows that close. Printed by wip/gensame2.py. -/
import Derived.Test.YtcaicgipibcicaaGreatQRMatch
import Derived.Test.YtcaicgipibcicaaGreatQEqs2
namespace Go.Proofs.YtcaicgipibcicaaGreat
set_option maxRecDepth 100000
set_option linter.unusedVariables false
set_option linter.unusedSimpArgs false
open Go.RowKit Go.Sort

def sameL (l m : List PEdge) : Bool := decide (l = m)
theorem sameL_len {l m : List PEdge} (h : l.length ≠ m.length) : sameL l m = false := decide_eq_false (fun e => h (by rw [e]))
theorem sameL_at {l m : List PEdge} {j : Nat} {x y : PEdge} (hx : l[j]? = some x) (hy : m[j]? = some y) (h : bq_edge x.r y.r x.c y.c x.w y.w = false) : sameL l m = false := by
  refine decide_eq_false (fun e => ?_)
  subst e
  rw [hx] at hy
  cases hy
  rw [bq_edge_refl] at h
  cases h
theorem edge_of_bq {x y : PEdge} (h : bq_edge x.r y.r x.c y.c x.w y.w = true) : x = y := by
  obtain ⟨h1, h2, h3⟩ := (bq_edge_iff _ _ _ _ _ _).1 h
  cases x; cases y; simp_all
theorem sameL_all {l m : List PEdge} (hl : l.length = m.length) (h : ∀ j : Nat, j < l.length → l[j]? = m[j]?) : sameL l m = true := by
  refine decide_eq_true (List.ext_getElem? (fun j => ?_))
  by_cases hj : j < l.length
  · exact h j hj
  · rw [List.getElem?_eq_none (by omega), List.getElem?_eq_none (by omega)]
theorem same_next {l m : List PEdge} {j : Nat} {x y : PEdge} (ha : ∀ q : Nat, q < j → l[q]? = m[q]?) (hx : l[j]? = some x) (hy : m[j]? = some y) (h : bq_edge x.r y.r x.c y.c x.w y.w = true) : ∀ q : Nat, q < j + 1 → l[q]? = m[q]? := fun q hq => by
  rcases Nat.lt_succ_iff_lt_or_eq.1 hq with hq | rfl
  · exact ha q hq
  · rw [hx, hy, edge_of_bq h]

set_option maxHeartbeats 8000000 in
theorem equal_any (w : World) (ao bo : Option Addr) (n c m c' : Nat) (l k : List PEdge) (hl : l.length = n) (hr : RdC w ao (cellsOf PEdge.cells l)) (hn : n ≤ 9007199254740992) (hk : k.length = m) (hkr : RdC w bo (cellsOf PEdge.cells k)) (hm : m ≤ 9007199254740992) :
    Calls Tryz.prog 86 #[.slice ao n c, .slice bo m c'] w fun e w' => e = .returned (.bool (sameL l k)) ∧ Below w.heap.size w w' := by
  have HL := Lib.hid hl
  have HR := Lib.hid hr
  have HK := Lib.hid hk
  have HKR := Lib.hid hkr
  clear hl hr hk hkr
  have heq := eq_edge'
  by_cases h1 : n = m
  · subst h1
    have b1 : ((n : Int) != (n : Int)) = false := by simp
    go_enter Tryz.func86, Tryz.ntmps86
    go_wp2_with fail
    go_loopw [5, 13] (fun z i wr => Hid (∃ j : Nat, i = .int .i64 j ∧ j ≤ n ∧ (∀ q : Nat, q < j → l[q]? = k[q]?) ∧ Below w.heap.size w wr)) (fun _ i _ => n - (intOf i).toNat)
    case atStart => exact Lib.hid ⟨0, rfl, Nat.zero_le _, fun q h => absurd h (Nat.not_lt_zero q), Below.refl _ _⟩
    case round =>
      obtain ⟨j, rfl, hj, hall, hbel⟩ := hrel.out
      clear hrel
      have HB := Lib.hid hbel
      have HALL := Lib.hid hall
      clear hbel hall
      by_cases hlt : j < n
      · obtain ⟨x, hx⟩ : ∃ x, l[j]? = some x := ⟨l[j]'(by rw [HL.out]; exact hlt), List.getElem?_eq_getElem _⟩
        obtain ⟨y, hy⟩ : ∃ y, k[j]? = some y := ⟨k[j]'(by rw [HK.out]; exact hlt), List.getElem?_eq_getElem _⟩
        obtain ⟨b, o, rfl, _⟩ := HR.out.place (by rw [cellsOf_length _ 3 PEdge.cells_length, HL.out]; omega)
        obtain ⟨b', o', rfl, _⟩ := HKR.out.place (by rw [cellsOf_length _ 3 PEdge.cells_length, HK.out]; omega)
        have hkb := Keep.of_below HB.out (Nat.le_refl _) (fun _ => False)
        obtain ⟨x0, x1, x2⟩ := edge_at (HR.out.keep hkb (fun _ _ _ => id)) hx
        obtain ⟨y0, y1, y2⟩ := edge_at (HKR.out.keep hkb (fun _ _ _ => id)) hy
        have HX := Lib.hid hx
        have HY := Lib.hid hy
        clear hx hy hkb
        cases hq : bq_edge x.r y.r x.c y.c x.w y.w with
        | false =>
          have HF := Lib.hid (sameL_at HX.out HY.out hq)
          go_wp2_with fail
          go_quiet (fail)
          go_wp2_with fail
          go_ret
          exact ⟨by rw [HF.out]; rfl, (below_drewN HB.out _)⟩
        | true =>
          have HN := Lib.hid (same_next HALL.out HX.out HY.out hq)
          go_wp2_with fail
          go_quiet (fail)
          go_wp2_with fail
          go_roundw
          case rel => exact Lib.hid ⟨j + 1, by go_num, by omega, HN.out, (below_drewN HB.out _)⟩
          case measure => simp [intOf]; omega
      · obtain rfl : n = j := by omega
        have HF := Lib.hid (sameL_all (l := l) (m := k) (by rw [HL.out, HK.out]) (fun q hq => HALL.out q (by rw [HL.out] at hq; exact hq)))
        go_wp2_with fail
        go_ret
        exact ⟨by rw [HF.out]; rfl, HB.out⟩
  · have HF := Lib.hid (sameL_len (l := l) (m := k) (by rw [HL.out, HK.out]; exact h1))
    have b1 : ((n : Int) != (m : Int)) = true := by simp; omega
    go_enter Tryz.func86, Tryz.ntmps86
    go_wp2_with fail
    go_ret
    exact ⟨by rw [HF.out]; rfl, Below.refl _ _⟩

def sameG (r1 c1 : Int) (l : List PEdge) (r2 c2 : Int) (m : List PEdge) : Bool := decide (r1 = r2) && decide (c1 = c2) && sameL l m
theorem sameG_r {r1 c1 r2 c2 : Int} {l m : List PEdge} (h : r1 ≠ r2) : sameG r1 c1 l r2 c2 m = false := by simp [sameG, h]
theorem sameG_c {r1 c1 r2 c2 : Int} {l m : List PEdge} (h : c1 ≠ c2) : sameG r1 c1 l r2 c2 m = false := by simp [sameG, h]
theorem sameG_l {r1 c1 r2 c2 : Int} {l m : List PEdge} (h : sameL l m = false) : sameG r1 c1 l r2 c2 m = false := by simp [sameG, h]
theorem sameG_yes {r1 c1 r2 c2 : Int} {l m : List PEdge} (h1 : r1 = r2) (h2 : c1 = c2) (h : sameL l m = true) : sameG r1 c1 l r2 c2 m = true := by simp [sameG, h, h1, h2]

/-- Two graphs in memory. -/
structure G2Rel (w : World) (r1 c1 : Int) (e1 : Value) (r2 c2 : Int) (e2 : Value) (H0 H1 : Nat) (wr : World) : Prop where
  g : wr.heap[H0]? = some (.cells #[.int .i64 r1, .int .i64 c1, e1] 28 (0, 0))
  h : wr.heap[H1]? = some (.cells #[.int .i64 r2, .int .i64 c2, e2] 28 (0, 0))
  below : Below w.heap.size w wr
theorem G2Rel.drewN {w : World} {r1 c1 : Int} {e1 : Value} {r2 c2 : Int} {e2 : Value} {H0 H1 : Nat} {wr : World} (h : G2Rel w r1 c1 e1 r2 c2 e2 H0 H1 wr) (n : Nat) : G2Rel w r1 c1 e1 r2 c2 e2 H0 H1 (wr.drewN n) := ⟨h.g, h.h, below_drewN h.below n⟩
theorem G2Rel.begin (w : World) (r1 c1 : Int) (e1 : Value) (r2 c2 : Int) (e2 : Value) : G2Rel w r1 c1 e1 r2 c2 e2 w.heap.size (w.heap.size + 1) ((w.alloc (.cells #[.int .i64 r1, .int .i64 c1, e1] 28)).alloc (.cells #[.int .i64 r2, .int .i64 c2, e2] 28)) := by
  refine ⟨(Keep.alloc (fun _ => False) _ _).old (heap_alloc_new w _) id, ?_, ((Below.refl w.heap.size w).alloc (Nat.le_refl _) _).alloc (by simp) _⟩
  have := heap_alloc_new (w.alloc (.cells #[.int .i64 r1, .int .i64 c1, e1] 28)) (.cells #[.int .i64 r2, .int .i64 c2, e2] 28)
  rw [show (w.alloc (.cells #[.int .i64 r1, .int .i64 c1, e1] 28)).heap.size = w.heap.size + 1 by simp] at this
  exact this

set_option maxHeartbeats 8000000 in
theorem same_any (w : World) (r1 c1 r2 c2 : Int) (ao bo : Option Addr) (n c m c' : Nat) (l k : List PEdge) (hl : l.length = n) (hr : RdC w ao (cellsOf PEdge.cells l)) (hn : n ≤ 9007199254740992) (hk : k.length = m) (hkr : RdC w bo (cellsOf PEdge.cells k)) (hm : m ≤ 9007199254740992) :
    Calls Tryz.prog 57 #[.agg #[.int .i64 r1, .int .i64 c1, .slice ao n c], .agg #[.int .i64 r2, .int .i64 c2, .slice bo m c']] w fun e w' => e = .returned (.bool (sameG r1 c1 l r2 c2 k)) ∧ Below w.heap.size w w' := by
  have HL := Lib.hid hl
  have HR := Lib.hid hr
  have HK := Lib.hid hk
  have HKR := Lib.hid hkr
  clear hl hr hk hkr
  have heq := eq_edge'
  have HW := Lib.hid (G2Rel.begin w r1 c1 (.slice ao n c) r2 c2 (.slice bo m c'))
  by_cases h1 : r1 = r2
  · have b1 : (r1 != r2) = false := by simp [h1]
    have HR12 := Lib.hid h1
    clear h1
    by_cases h2 : c1 = c2
    · have b2 : (c1 != c2) = false := by simp [h2]
      have HC12 := Lib.hid h2
      clear h2
      by_cases h3 : n = m
      · subst h3
        have b3 : ((n : Int) != (n : Int)) = false := by simp
        go_enter Tryz.func57, Tryz.ntmps57
        go_wp2_with fail
        generalize (w.alloc (.cells #[.int .i64 r1, .int .i64 c1, .slice ao n c] 28)).alloc (.cells #[.int .i64 r2, .int .i64 c2, .slice bo n c'] 28) = W at *
        generalize w.heap.size + 1 = H1 at *
        have HHE := Lib.hid (show ∃ H0, w.heap.size = H0 from ⟨_, rfl⟩)
        obtain ⟨H0, hH0⟩ := HHE.out
        rw [hH0] at HW
        rw [hH0]
        have HH := Lib.hid hH0
        clear hH0 HHE
        go_loopw [5] (fun i wr => Hid (∃ j : Nat, i = .int .i64 j ∧ j ≤ n ∧ (∀ q : Nat, q < j → l[q]? = k[q]?) ∧ G2Rel w r1 c1 (.slice ao n c) r2 c2 (.slice bo n c') H0 H1 wr)) (fun i _ => n - (intOf i).toNat)
        case atStart => exact Lib.hid ⟨0, rfl, Nat.zero_le _, fun q h => absurd h (Nat.not_lt_zero q), HW.out⟩
        case round =>
          obtain ⟨j, rfl, hj, hall, hbel⟩ := hrel.out
          clear hrel
          obtain ⟨g0, g1, g2, gf⟩ := cells3 hbel.g
          obtain ⟨d0, d1, d2, df⟩ := cells3 hbel.h
          clear gf df
          have HB := Lib.hid hbel
          have HALL := Lib.hid hall
          clear hbel hall
          by_cases hlt : j < n
          · obtain ⟨x, hx⟩ : ∃ x, l[j]? = some x := ⟨l[j]'(by rw [HL.out]; exact hlt), List.getElem?_eq_getElem _⟩
            obtain ⟨y, hy⟩ : ∃ y, k[j]? = some y := ⟨k[j]'(by rw [HK.out]; exact hlt), List.getElem?_eq_getElem _⟩
            obtain ⟨b, o, rfl, _⟩ := HR.out.place (by rw [cellsOf_length _ 3 PEdge.cells_length, HL.out]; omega)
            obtain ⟨b', o', rfl, _⟩ := HKR.out.place (by rw [cellsOf_length _ 3 PEdge.cells_length, HK.out]; omega)
            have hkb := Keep.of_below HB.out.below (Nat.le_refl _) (fun _ => False)
            obtain ⟨x0, x1, x2⟩ := edge_at (HR.out.keep hkb (fun _ _ _ => id)) hx
            obtain ⟨y0, y1, y2⟩ := edge_at (HKR.out.keep hkb (fun _ _ _ => id)) hy
            have HX := Lib.hid hx
            have HY := Lib.hid hy
            clear hx hy hkb
            cases hq : bq_edge x.r y.r x.c y.c x.w y.w with
            | false =>
              have HF := Lib.hid (sameG_l (r1 := r1) (c1 := c1) (r2 := r2) (c2 := c2) (sameL_at HX.out HY.out hq))
              go_wp2_with fail
              go_quiet (fail)
              go_wp2_with fail
              go_ret
              exact ⟨by rw [HF.out]; rfl, (HB.out.drewN _).below⟩
            | true =>
              have HN := Lib.hid (same_next HALL.out HX.out HY.out hq)
              go_wp2_with fail
              go_quiet (fail)
              go_wp2_with fail
              go_roundw
              case rel => exact Lib.hid ⟨j + 1, by go_num, by omega, HN.out, (HB.out.drewN _)⟩
              case measure => simp [intOf]; omega
          · obtain rfl : n = j := by omega
            have HF := Lib.hid (sameG_yes HR12.out HC12.out (sameL_all (l := l) (m := k) (by rw [HL.out, HK.out]) (fun q hq => HALL.out q (by rw [HL.out] at hq; exact hq))))
            go_wp2_with fail
            go_ret
            exact ⟨by rw [HF.out]; rfl, HB.out.below⟩
      · have HF := Lib.hid (sameG_l (r1 := r1) (c1 := c1) (r2 := r2) (c2 := c2) (sameL_len (l := l) (m := k) (by rw [HL.out, HK.out]; exact h3)))
        have b3 : ((n : Int) != (m : Int)) = true := by simp; omega
        go_enter Tryz.func57, Tryz.ntmps57
        go_wp2_with fail
        go_ret
        exact ⟨by rw [HF.out]; rfl, HW.out.below⟩
    · have b2 : (c1 != c2) = true := by simp [h2]
      have HF := Lib.hid (sameG_c (r1 := r1) (r2 := r2) (l := l) (m := k) h2)
      clear h2
      go_enter Tryz.func57, Tryz.ntmps57
      go_wp2_with fail
      go_ret
      exact ⟨by rw [HF.out]; rfl, HW.out.below⟩
  · have b1 : (r1 != r2) = true := by simp [h1]
    have HF := Lib.hid (sameG_r (c1 := c1) (c2 := c2) (l := l) (m := k) h1)
    clear h1
    go_enter Tryz.func57, Tryz.ntmps57
    go_wp2_with fail
    go_ret
    exact ⟨by rw [HF.out]; rfl, HW.out.below⟩

set_option maxHeartbeats 2000000 in
theorem rcloses_any (w : World) (c : PConf) (t : Int) (hc : configF c = true) : Calls Tryz.prog 53 #[.agg #[.int .i64 c.q, .int .i64 c.d, .int .i64 c.w, .int .i64 c.ttl, .int .i64 c.b], .int .i64 t] w fun e w' => e = .returned (.bool (closesB c t)) ∧ Below w.heap.size w w' := by
  have HB := Lib.hid ((Below.refl w.heap.size w).alloc (Nat.le_refl _) (.cells #[.int .i64 c.q, .int .i64 c.d, .int .i64 c.w, .int .i64 c.ttl, .int .i64 c.b] 23))
  have hw : 1 ≤ c.w := by
    unfold configF at hc
    simp only [Bool.and_eq_true] at hc
    exact (of_decide_eq_true hc.1.1.2).1
  clear hc
  by_cases h1 : 1 ≤ t
  · have b1 : decide (1 ≤ t) = true := decide_eq_true h1
    by_cases h2 : t ≤ 1099511627776
    · have b2 : decide (t ≤ 1099511627776) = true := decide_eq_true h2
      have HE := Lib.hid (show closesB c t = (t % c.w == 0) by unfold closesB; rw [decide_eq_true (show 1 ≤ t ∧ t ≤ 1099511627776 from ⟨h1, h2⟩)]; by_cases h : t % c.w = 0 <;> simp [h])
      go_enter Tryz.func53, Tryz.ntmps53
      go_wp2_with fail
      go_ret
      exact ⟨by rw [HE.out]; rfl, HB.out⟩
    · have HE := Lib.hid (show closesB c t = false by unfold closesB; rw [decide_eq_false (fun h => h2 h.2)]; rfl)
      have b2 : decide (t ≤ 1099511627776) = false := decide_eq_false h2
      go_enter Tryz.func53, Tryz.ntmps53
      go_wp2_with fail
      go_ret
      exact ⟨by rw [HE.out]; rfl, HB.out⟩
  · have HE := Lib.hid (show closesB c t = false by unfold closesB; rw [decide_eq_false (fun h => h1 h.1)]; rfl)
    have b1 : decide (1 ≤ t) = false := decide_eq_false h1
    go_enter Tryz.func53, Tryz.ntmps53
    go_wp2_with fail
    go_ret
    exact ⟨by rw [HE.out]; rfl, HB.out⟩
end Go.Proofs.YtcaicgipibcicaaGreat
