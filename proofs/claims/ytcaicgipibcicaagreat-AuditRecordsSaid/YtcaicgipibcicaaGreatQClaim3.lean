/- Chapter 18 in the program: graphs, lengths, prices. -/
import Derived.Test.YtcaicgipibcicaaGreatQFirst
namespace Go.Proofs.YtcaicgipibcicaaGreat
set_option maxRecDepth 100000
set_option linter.unusedVariables false
set_option linter.unusedSimpArgs false
open Go.RowKit Go.Sort

/-- A claim in memory. -/
structure KlRel (w : World) (rows cols : Int) (ev pv yv zv : Value) (H0 : Nat) (wr : World) : Prop where
  g : wr.heap[H0]? = some (.cells #[.int .i64 rows, .int .i64 cols, ev, pv, yv, zv] 164 (0, 0))
  below : Below w.heap.size w wr
theorem KlRel.keep {w : World} {rows cols : Int} {ev pv yv zv : Value} {H0 : Nat} {wr w' : World} (h : KlRel w rows cols ev pv yv zv H0 wr) (hb : Below wr.heap.size wr w') : KlRel w rows cols ev pv yv zv H0 w' :=
  ⟨(Keep.of_below hb (Nat.le_refl _) (fun _ => False)).old h.g id, Below.next h.below hb⟩
theorem KlRel.one {w : World} {rows cols : Int} {ev pv yv zv : Value} {H0 : Nat} {wr : World} (h : KlRel w rows cols ev pv yv zv H0 wr) (o : Obj) : KlRel w rows cols ev pv yv zv H0 (wr.alloc o) :=
  h.keep ((Below.refl _ _).alloc (Nat.le_refl _) _)
theorem KlRel.drewN {w : World} {rows cols : Int} {ev pv yv zv : Value} {H0 : Nat} {wr : World} (h : KlRel w rows cols ev pv yv zv H0 wr) (n : Nat) : KlRel w rows cols ev pv yv zv H0 (wr.drewN n) := ⟨h.g, below_drewN h.below n⟩
theorem KlRel.begin (w : World) (rows cols : Int) (ev pv yv zv : Value) : KlRel w rows cols ev pv yv zv w.heap.size (w.alloc (.cells #[.int .i64 rows, .int .i64 cols, ev, pv, yv, zv] 164)) :=
  ⟨heap_alloc_new w _, (Below.refl w.heap.size w).alloc (Nat.le_refl _) _⟩

set_option maxHeartbeats 4000000 in
theorem cgraph_any (w : World) (rows cols : Int) (eo : Option Addr) (n c : Nat) (pv yv zv : Value) (l : List PEdge) (hl : l.length = n) (hr : RdC w eo (cellsOf PEdge.cells l)) (hn : n ≤ 9007199254740992) :
    Calls Tryz.prog 88 #[.agg #[.int .i64 rows, .int .i64 cols, .slice eo n c, pv, yv, zv]] w fun e w' => e = .returned (.int .i64 (graphE rows cols l)) ∧ Below w.heap.size w w' := by
  have HW := Lib.hid (KlRel.begin w rows cols (.slice eo n c) pv yv zv)
  have HC := Lib.hid (fun wx hb => gcheck_any wx rows cols eo n c l hl (hr.below hb) hn)
  clear hl hr
  go_enter Tryz.func88, Tryz.ntmps88
  go_wp2_with fail
  refine (HC.out _ HW.out.below).mono ?_
  rintro e w1 ⟨rfl, hb1⟩
  have HB := Lib.hid (Below.next HW.out.below hb1)
  clear hb1
  go_wp2_with fail
  go_ret
  exact ⟨rfl, HB.out⟩

def lengthsE (rows cols : Int) (n m : Nat) : Int := if (n : Int) = rows ∧ (m : Int) = cols then 0 else 1
set_option maxHeartbeats 4000000 in
theorem clengths_any (w : World) (rows cols : Int) (yo zo : Option Addr) (n m c c' : Nat) (ev pv : Value) :
    Calls Tryz.prog 90 #[.agg #[.int .i64 rows, .int .i64 cols, ev, pv, .slice yo n c, .slice zo m c']] w fun e w' => e = .returned (.int .i64 (lengthsE rows cols n m)) ∧ Below w.heap.size w w' := by
  have HW := Lib.hid (KlRel.begin w rows cols ev pv (.slice yo n c) (.slice zo m c'))
  by_cases h1 : (n : Int) = rows
  · by_cases h2 : (m : Int) = cols
    · have HE := Lib.hid (show lengthsE rows cols n m = 0 from if_pos ⟨h1, h2⟩)
      have b1 : ((n : Int) != rows) = false := by simp [h1]
      have b2 : ((m : Int) != cols) = false := by simp [h2]
      clear h1 h2
      go_enter Tryz.func90, Tryz.ntmps90
      go_wp2_with fail
      go_ret
      exact ⟨by rw [HE.out]; rfl, HW.out.below⟩
    · have HE := Lib.hid (show lengthsE rows cols n m = 1 from if_neg (fun h => h2 h.2))
      have b1 : ((n : Int) != rows) = false := by simp [h1]
      have b2 : ((m : Int) != cols) = true := by simp [h2]
      clear h1 h2
      go_enter Tryz.func90, Tryz.ntmps90
      go_wp2_with fail
      go_ret
      exact ⟨by rw [HE.out]; rfl, HW.out.below⟩
  · have HE := Lib.hid (show lengthsE rows cols n m = 1 from if_neg (fun h => h1 h.1))
    have b1 : ((n : Int) != rows) = true := by simp [h1]
    clear h1
    go_enter Tryz.func90, Tryz.ntmps90
    go_wp2_with fail
    go_ret
    exact ⟨by rw [HE.out]; rfl, HW.out.below⟩

def dualE (es : List PEdge) (ys zs : List Int) : Int := if holdF es ys zs then 0 else 181
theorem allNat_bad {l : List Int} {k : Nat} {x : Int} (hx : l[k]? = some x) (h : x < 0) : allNat l = false := by
  unfold allNat
  rw [List.all_eq_false]
  exact ⟨x, List.mem_of_getElem? hx, by simpa using h⟩
theorem allNat_good {l : List Int} (h : ∀ (j : Nat) (x : Int), l[j]? = some x → 0 ≤ x) : allNat l = true := by
  unfold allNat
  rw [List.all_eq_true]
  intro x hx
  obtain ⟨j, hj, rfl⟩ := List.getElem_of_mem hx
  exact decide_eq_true (h j _ (List.getElem?_eq_getElem hj))
theorem allNat_at {l : List Int} (h : allNat l = true) {j : Nat} {x : Int} (hx : l[j]? = some x) : 0 ≤ x := of_decide_eq_true (List.all_eq_true.1 h x (List.mem_of_getElem? hx))
theorem dualE_y {es : List PEdge} {ys zs : List Int} (h : allNat ys = false) : dualE es ys zs = 181 := by simp [dualE, holdF, h]
theorem dualE_z {es : List PEdge} {ys zs : List Int} (h : allNat zs = false) : dualE es ys zs = 181 := by simp [dualE, holdF, h]
theorem dualE_e {es : List PEdge} {ys zs : List Int} {k : Nat} (hk : k < es.length) (h : priceAt es ys zs k = false) : dualE es ys zs = 181 := by
  have : allF es.length (priceAt es ys zs) = false := allF_bad hk h
  simp [dualE, holdF, this]
theorem dualE_yes {es : List PEdge} {ys zs : List Int} (hy : allNat ys = true) (hz : allNat zs = true) (h : ∀ j, j < es.length → priceAt es ys zs j = true) : dualE es ys zs = 0 := by
  have : allF es.length (priceAt es ys zs) = true := allF_good h
  simp [dualE, holdF, this, hy, hz]
theorem priceAt_eq {es : List PEdge} {ys zs : List Int} {k : Nat} {x : PEdge} {a b : Int} (hx : es[k]? = some x) (ha : ys[x.r.toNat]? = some a) (hb : zs[x.c.toNat]? = some b) : priceAt es ys zs k = decide (x.w - a ≤ b) := by
  simp [priceAt, hx, ha, hb, List.getD]

set_option maxHeartbeats 8000000 in
theorem cdual_any (w : World) (rows cols : Int) (eo yo zo : Option Addr) (n c m c' k c'' : Nat) (pv : Value) (l : List PEdge) (ys zs : List Int) (hg : graphF rows cols l = true) (hl : l.length = n) (hr : RdC w eo (cellsOf PEdge.cells l)) (hn : n ≤ 9007199254740992)
    (hy : ys.length = m) (hyr : RdC w yo (cellsOf icell ys)) (hm : (m : Int) = rows) (hz : zs.length = k) (hzr : RdC w zo (cellsOf icell zs)) (hk : (k : Int) = cols) (hyo : ∀ x ∈ ys, i64ok x) :
    Calls Tryz.prog 91 #[.agg #[.int .i64 rows, .int .i64 cols, .slice eo n c, pv, .slice yo m c', .slice zo k c'']] w fun e w' => e = .returned (.int .i64 (dualE l ys zs)) ∧ Below w.heap.size w w' := by
  have hhd := graphF_hdr hg
  have hm' : m ≤ 64 := by omega
  have hk' : k ≤ 64 := by omega
  have HMR := Lib.hid hm
  have HKC := Lib.hid hk
  have HL := Lib.hid hl
  have HR := Lib.hid hr
  have HG := Lib.hid hg
  have HY := Lib.hid hy
  have HYR := Lib.hid hyr
  have HZ := Lib.hid hz
  have HZR := Lib.hid hzr
  have HYO := Lib.hid hyo
  clear hl hr hg hy hyr hz hzr hm hk hhd hyo
  have i0 : ∀ w, (Instr.index 205 (.agg #[.slice yo m c', .slice zo k c'']) (.int .i64 0)).run Tryz.prog w = .ok (.slice yo m c') w := fun _ => by kernel_rfl
  have i1 : ∀ w, (Instr.index 205 (.agg #[.slice yo m c', .slice zo k c'']) (.int .i64 1)).run Tryz.prog w = .ok (.slice zo k c'') w := fun _ => by kernel_rfl
  have HW := Lib.hid (KlRel.begin w rows cols (.slice eo n c) pv (.slice yo m c') (.slice zo k c''))
  go_enter Tryz.func91, Tryz.ntmps91
  go_wp2_with fail
  generalize w.alloc (.cells #[.int .i64 rows, .int .i64 cols, .slice eo n c, pv, .slice yo m c', .slice zo k c''] 164) = W at *
  have HHE := Lib.hid (show ∃ H0, w.heap.size = H0 from ⟨_, rfl⟩)
  obtain ⟨H0, hH0⟩ := HHE.out
  rw [hH0] at HW ⊢
  have HH := Lib.hid hH0
  clear hH0 HHE
  go_loop [16] (fun i => Hid (∃ p : Nat, i = .int .i64 p ∧ p ≤ 2 ∧ (1 ≤ p → allNat ys = true) ∧ (2 ≤ p → allNat zs = true))) (fun i => 2 - (intOf i).toNat)
  case atStart => exact Lib.hid ⟨0, rfl, by omega, fun h => absurd h (by omega), fun h => absurd h (by omega)⟩
  case round =>
    obtain ⟨p, rfl, hp, hya, hza⟩ := hrel.out
    clear hrel
    have HYA := Lib.hid hya
    have HZA := Lib.hid hza
    clear hya hza
    have hp3 : p = 0 ∨ p = 1 ∨ p = 2 := by omega
    rcases hp3 with rfl | rfl | rfl
    · go_wp2_with fail
      go_loop [21] (fun i => Hid (∃ j : Nat, i = .int .i64 j ∧ j ≤ m ∧ ∀ (q : Nat) (x : Int), q < j → ys[q]? = some x → 0 ≤ x)) (fun i => m - (intOf i).toNat)
      case atStart => exact Lib.hid ⟨0, rfl, Nat.zero_le _, fun q x h => absurd h (Nat.not_lt_zero q)⟩
      case round =>
        obtain ⟨j, rfl, hj, hall⟩ := hrel.out
        clear hrel
        have HALL := Lib.hid hall
        clear hall
        by_cases hlt : j < m
        · obtain ⟨x, hx⟩ : ∃ x, ys[j]? = some x := ⟨ys[j]'(by rw [HY.out]; exact hlt), List.getElem?_eq_getElem _⟩
          obtain ⟨b, o, rfl, _⟩ := HYR.out.place (by rw [cellsOf_length _ 1 icell_length, HY.out]; omega)
          have hc := int_at (HYR.out.keep (Keep.of_below HW.out.below (Nat.le_refl _) (fun _ => False)) (fun _ _ _ => id)) hx
          have HX := Lib.hid hx
          clear hx
          by_cases h0 : x < 0
          · have HE := Lib.hid (dualE_y (es := l) (ys := ys) (zs := zs) (allNat_bad HX.out h0))
            go_wp2_with fail
            go_ret
            exact ⟨by rw [HE.out]; rfl, HW.out.below⟩
          · have h0' : 0 ≤ x := by omega
            have HA := Lib.hid (show ∀ (q : Nat) (y : Int), q < j + 1 → ys[q]? = some y → 0 ≤ y from fun q y hq hy => by
              rcases Nat.lt_succ_iff_lt_or_eq.1 hq with hq | rfl
              · exact HALL.out q y hq hy
              · rw [HX.out] at hy; cases hy; exact h0')
            clear h0
            go_wp2_with fail
            go_round
            case rel => exact Lib.hid ⟨j + 1, by go_num, by omega, HA.out⟩
            case measure => simp [intOf]; omega
        · obtain rfl : m = j := by omega
          have HA := Lib.hid (allNat_good (l := ys) (fun q x hx => HALL.out q x (by rw [← HY.out]; exact (List.getElem?_eq_some_iff.1 hx).1) hx))
          go_wp2_with fail
          go_round
          case rel => exact Lib.hid ⟨1, by go_num, by omega, fun _ => HA.out, fun h => absurd h (by omega)⟩
          case measure => simp [intOf]
    · go_wp2_with fail
      go_loop [21] (fun i => Hid (∃ j : Nat, i = .int .i64 j ∧ j ≤ k ∧ ∀ (q : Nat) (x : Int), q < j → zs[q]? = some x → 0 ≤ x)) (fun i => k - (intOf i).toNat)
      case atStart => exact Lib.hid ⟨0, rfl, Nat.zero_le _, fun q x h => absurd h (Nat.not_lt_zero q)⟩
      case round =>
        obtain ⟨j, rfl, hj, hall⟩ := hrel.out
        clear hrel
        have HALL := Lib.hid hall
        clear hall
        by_cases hlt : j < k
        · obtain ⟨x, hx⟩ : ∃ x, zs[j]? = some x := ⟨zs[j]'(by rw [HZ.out]; exact hlt), List.getElem?_eq_getElem _⟩
          obtain ⟨b, o, rfl, _⟩ := HZR.out.place (by rw [cellsOf_length _ 1 icell_length, HZ.out]; omega)
          have hc := int_at (HZR.out.keep (Keep.of_below HW.out.below (Nat.le_refl _) (fun _ => False)) (fun _ _ _ => id)) hx
          have HX := Lib.hid hx
          clear hx
          by_cases h0 : x < 0
          · have HE := Lib.hid (dualE_z (es := l) (ys := ys) (zs := zs) (allNat_bad HX.out h0))
            go_wp2_with fail
            go_ret
            exact ⟨by rw [HE.out]; rfl, HW.out.below⟩
          · have h0' : 0 ≤ x := by omega
            have HA := Lib.hid (show ∀ (q : Nat) (y : Int), q < j + 1 → zs[q]? = some y → 0 ≤ y from fun q y hq hy => by
              rcases Nat.lt_succ_iff_lt_or_eq.1 hq with hq | rfl
              · exact HALL.out q y hq hy
              · rw [HX.out] at hy; cases hy; exact h0')
            clear h0
            go_wp2_with fail
            go_round
            case rel => exact Lib.hid ⟨j + 1, by go_num, by omega, HA.out⟩
            case measure => simp [intOf]; omega
        · obtain rfl : k = j := by omega
          have HA := Lib.hid (allNat_good (l := zs) (fun q x hx => HALL.out q x (by rw [← HZ.out]; exact (List.getElem?_eq_some_iff.1 hx).1) hx))
          go_wp2_with fail
          go_round
          case rel => exact Lib.hid ⟨2, by go_num, by omega, fun _ => HYA.out (Nat.le_refl _), fun _ => HA.out⟩
          case measure => simp [intOf]
    · have HYN := Lib.hid (HYA.out (by omega))
      have HZN := Lib.hid (HZA.out (by omega))
      obtain ⟨g0, g1, g2, g3, g4, g5⟩ := cells6 HW.out.g
      go_wp2_with fail
      go_loopw [33] (fun i wr => Hid (∃ j : Nat, i = .int .i64 j ∧ j ≤ n ∧ (∀ q, q < j → priceAt l ys zs q = true) ∧ KlRel w rows cols (.slice eo n c) pv (.slice yo m c') (.slice zo k c'') H0 wr)) (fun i _ => n - (intOf i).toNat)
      case atStart => exact Lib.hid ⟨0, rfl, Nat.zero_le _, upto_none, HW.out⟩
      case round =>
        obtain ⟨j, rfl, hj, hall, hrel1⟩ := hrel.out
        clear hrel g0 g1 g2 g3 g4 g5
        obtain ⟨g0, g1, g2, g3, g4, g5⟩ := cells6 hrel1.g
        have hs0 : H0 < wr.heap.size := lt_of_block hrel1.g
        have HR1 := Lib.hid hrel1
        have HALL := Lib.hid hall
        clear hrel1 hall
        by_cases hlt : j < n
        · obtain ⟨x, hx⟩ : ∃ x, l[j]? = some x := ⟨l[j]'(by rw [HL.out]; exact hlt), List.getElem?_eq_getElem _⟩
          have hin := graphF_at HG.out hx
          have hr1 : x.r.toNat < m := by have := HMR.out; omega
          have hr2 : x.c.toNat < k := by have := HKC.out; omega
          obtain ⟨y, hyx⟩ : ∃ y, ys[x.r.toNat]? = some y := ⟨ys[x.r.toNat]'(by rw [HY.out]; exact hr1), List.getElem?_eq_getElem _⟩
          obtain ⟨z, hzx⟩ : ∃ z, zs[x.c.toNat]? = some z := ⟨zs[x.c.toNat]'(by rw [HZ.out]; exact hr2), List.getElem?_eq_getElem _⟩
          obtain ⟨b, o, rfl, _⟩ := HR.out.place (by rw [cellsOf_length _ 3 PEdge.cells_length, HL.out]; omega)
          obtain ⟨b1, o1, rfl, _⟩ := HYR.out.place (by rw [cellsOf_length _ 1 icell_length, HY.out]; omega)
          obtain ⟨b2, o2, rfl, _⟩ := HZR.out.place (by rw [cellsOf_length _ 1 icell_length, HZ.out]; omega)
          have hkb := Keep.of_below HR1.out.below (Nat.le_refl _) (fun _ => False)
          obtain ⟨x0, x1, x2⟩ := edge_at (HR.out.keep hkb (fun _ _ _ => id)) hx
          have yc := int_at (HYR.out.keep hkb (fun _ _ _ => id)) hyx
          have zc := int_at (HZR.out.keep hkb (fun _ _ _ => id)) hzx
          have hb0 : b < wr.heap.size := World.block_lt_of_cell? wr _ x0
          have hb1 : b1 < wr.heap.size := World.block_lt_of_cell? wr _ yc
          have hb2 : b2 < wr.heap.size := World.block_lt_of_cell? wr _ zc
          have hyb := HYO.out y (List.mem_of_getElem? hyx)
          obtain ⟨hyb1, hyb2⟩ := hyb
          have hyn := allNat_at HYN.out hyx
          obtain ⟨e1, e2, e3, e4, e5, e6⟩ := hin
          have HX := Lib.hid hx
          have HEQ := Lib.hid (priceAt_eq hx hyx hzx)
          clear hx hyx hzx hkb
          by_cases h0 : z < x.w - y
          · have HE := Lib.hid (dualE_e (es := l) (ys := ys) (zs := zs) (by rw [HL.out]; exact hlt) (show priceAt l ys zs j = false by rw [HEQ.out]; exact decide_eq_false (by omega)))
            go_wp2_with fail
            go_quiet (fail)
            go_wp2_with fail
            go_ret
            exact ⟨by rw [HE.out]; rfl, below_drewN (HR1.out.one _).below _⟩
          · have h0' : x.w - y ≤ z := by omega
            have HE := Lib.hid (show priceAt l ys zs j = true by rw [HEQ.out]; exact decide_eq_true h0')
            clear h0
            go_wp2_with fail
            go_quiet (fail)
            have HN := Lib.hid (HR1.out.one (.cells #[.int .i64 x.r, .int .i64 x.c, .int .i64 x.w] 114))
            go_wp2_with fail
            go_roundw
            case rel => exact Lib.hid ⟨j + 1, by go_num, by omega, upto_next HALL.out HE.out, HN.out.drewN _⟩
            case measure => simp [intOf]; omega
        · obtain rfl : n = j := by omega
          have HE := Lib.hid (dualE_yes (es := l) HYN.out HZN.out (fun q hq => HALL.out q (by rw [HL.out] at hq; exact hq)))
          go_wp2_with fail
          go_ret
          exact ⟨by rw [HE.out]; rfl, HR1.out.below⟩
end Go.Proofs.YtcaicgipibcicaaGreat
