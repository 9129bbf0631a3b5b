/- Chapter 18 in the reference: what a pair is worth, prices, sums. Printed by wip/genrcert.py. -/
import Derived.Test.YtcaicgipibcicaaGreatQClaim5
import Derived.Test.YtcaicgipibcicaaGreatQRCheck
namespace Go.Proofs.YtcaicgipibcicaaGreat
set_option maxRecDepth 100000
set_option linter.unusedVariables false
set_option linter.unusedSimpArgs false
open Go.RowKit Go.Sort

/-- A graph in memory. -/
structure GrRel (w : World) (rows cols : Int) (ev : Value) (H0 : Nat) (wr : World) : Prop where
  g : wr.heap[H0]? = some (.cells #[.int .i64 rows, .int .i64 cols, ev] 28 (0, 0))
  below : Below w.heap.size w wr
theorem GrRel.keep {w : World} {rows cols : Int} {ev : Value} {H0 : Nat} {wr w' : World} (h : GrRel w rows cols ev H0 wr) (hb : Below wr.heap.size wr w') : GrRel w rows cols ev H0 w' :=
  ⟨(Keep.of_below hb (Nat.le_refl _) (fun _ => False)).old h.g id, Below.next h.below hb⟩
theorem GrRel.one {w : World} {rows cols : Int} {ev : Value} {H0 : Nat} {wr : World} (h : GrRel w rows cols ev H0 wr) (o : Obj) : GrRel w rows cols ev H0 (wr.alloc o) :=
  h.keep ((Below.refl _ _).alloc (Nat.le_refl _) _)
theorem GrRel.drewN {w : World} {rows cols : Int} {ev : Value} {H0 : Nat} {wr : World} (h : GrRel w rows cols ev H0 wr) (n : Nat) : GrRel w rows cols ev H0 (wr.drewN n) := ⟨h.g, below_drewN h.below n⟩
theorem GrRel.begin (w : World) (rows cols : Int) (ev : Value) : GrRel w rows cols ev w.heap.size (w.alloc (.cells #[.int .i64 rows, .int .i64 cols, ev] 28)) :=
  ⟨heap_alloc_new w _, (Below.refl w.heap.size w).alloc (Nat.le_refl _) _⟩

set_option maxHeartbeats 8000000 in
theorem rweight_any (w : World) (rows cols : Int) (eo : Option Addr) (n c : Nat) (r k : Int) (l : List PEdge) (hl : l.length = n) (hr : RdC w eo (cellsOf PEdge.cells l)) (hn : n ≤ 9007199254740992) :
    Calls Tryz.prog 136 #[.agg #[.int .i64 rows, .int .i64 cols, .slice eo n c], .int .i64 r, .int .i64 k] w fun e w' => e = .returned (.int .i64 (worthAt l r k)) ∧ Below w.heap.size w w' := by
  have HL := Lib.hid hl
  have HR := Lib.hid hr
  clear hl hr
  have HW := Lib.hid (GrRel.begin w rows cols (.slice eo n c))
  go_enter Tryz.func136, Tryz.ntmps136
  go_wp2_with fail
  generalize w.alloc (.cells #[.int .i64 rows, .int .i64 cols, .slice eo n c] 28) = W at *
  have HHE := Lib.hid (show ∃ H0, w.heap.size = H0 from ⟨_, rfl⟩)
  obtain ⟨H0, hH0⟩ := HHE.out
  rw [hH0] at HW ⊢
  have HH := Lib.hid hH0
  clear hH0 HHE
  obtain ⟨g0, g1, g2, gf⟩ := cells3 HW.out.g
  go_loop [7] (fun i => Hid (∃ j : Nat, i = .int .i64 j ∧ j ≤ n ∧ ∀ (q : Nat) (y : PEdge), q < j → l[q]? = some y → ¬ (y.r = r ∧ y.c = k))) (fun i => n - (intOf i).toNat)
  case atStart => exact Lib.hid ⟨0, rfl, Nat.zero_le _, fun q y h => absurd h (Nat.not_lt_zero q)⟩
  case round =>
    obtain ⟨j, rfl, hj, hall⟩ := hrel.out
    clear hrel
    have HALL := Lib.hid hall
    clear hall
    by_cases hlt : j < n
    · obtain ⟨x, hx⟩ : ∃ x, l[j]? = some x := ⟨l[j]'(by rw [HL.out]; exact hlt), List.getElem?_eq_getElem _⟩
      obtain ⟨b, o, rfl, _⟩ := HR.out.place (by rw [cellsOf_length _ 3 PEdge.cells_length, HL.out]; omega)
      obtain ⟨x0, x1, x2⟩ := edge_at (HR.out.keep (Keep.of_below HW.out.below (Nat.le_refl _) (fun _ => False)) (fun _ _ _ => id)) hx
      have HX := Lib.hid hx
      clear hx
      by_cases h1 : x.r = r
      · by_cases h2 : x.c = k
        · have HE := Lib.hid (worthAt_hit (es := l) HX.out ⟨h1, h2⟩ (fun q y hq hy => HALL.out q y hq hy))
          have b1 : (x.r == r) = true := by simp [h1]
          have b2 : (x.c == k) = true := by simp [h2]
          clear h1 h2
          go_wp2_with fail
          go_ret
          exact ⟨by rw [HE.out]; rfl, HW.out.below⟩
        · have HA := Lib.hid (show ∀ (q : Nat) (y : PEdge), q < j + 1 → l[q]? = some y → ¬ (y.r = r ∧ y.c = k) from fun q y hq hy => by
            rcases Nat.lt_succ_iff_lt_or_eq.1 hq with hq | rfl
            · exact HALL.out q y hq hy
            · rw [HX.out] at hy; cases hy; exact fun h => h2 h.2)
          have b1 : (x.r == r) = true := by simp [h1]
          have b2 : (x.c == k) = false := by simp [h2]
          clear h1 h2
          go_wp2_with fail
          go_round
          case rel => exact Lib.hid ⟨j + 1, by go_num, by omega, HA.out⟩
          case measure => simp [intOf]; omega
      · have HA := Lib.hid (show ∀ (q : Nat) (y : PEdge), q < j + 1 → l[q]? = some y → ¬ (y.r = r ∧ y.c = k) from fun q y hq hy => by
          rcases Nat.lt_succ_iff_lt_or_eq.1 hq with hq | rfl
          · exact HALL.out q y hq hy
          · rw [HX.out] at hy; cases hy; exact fun h => h1 h.1)
        have b1 : (x.r == r) = false := by simp [h1]
        clear h1
        go_wp2_with fail
        go_round
        case rel => exact Lib.hid ⟨j + 1, by go_num, by omega, HA.out⟩
        case measure => simp [intOf]; omega
    · obtain rfl : n = j := by omega
      have HE := Lib.hid (worthAt_none (es := l) (r := r) (c := k) (fun q y hy => HALL.out q y (by rw [← HL.out]; exact (List.getElem?_eq_some_iff.1 hy).1) hy))
      go_wp2_with fail
      go_ret
      exact ⟨by rw [HE.out]; rfl, HW.out.below⟩

theorem hold_y {es : List PEdge} {ys zs : List Int} (h : allNat ys = false) : holdF es ys zs = false := by simp [holdF, h]
theorem hold_z {es : List PEdge} {ys zs : List Int} (h : allNat zs = false) : holdF es ys zs = false := by simp [holdF, h]
theorem hold_e {es : List PEdge} {ys zs : List Int} {k : Nat} (hk : k < es.length) (h : priceAt es ys zs k = false) : holdF es ys zs = false := by
  have : allF es.length (priceAt es ys zs) = false := allF_bad hk h
  simp [holdF, this]
theorem hold_yes {es : List PEdge} {ys zs : List Int} (hy : allNat ys = true) (hz : allNat zs = true) (h : ∀ j, j < es.length → priceAt es ys zs j = true) : holdF es ys zs = true := by
  have : allF es.length (priceAt es ys zs) = true := allF_good h
  simp [holdF, this, hy, hz]

set_option maxHeartbeats 8000000 in
theorem rhold_any (w : World) (rows cols : Int) (eo yo zo : Option Addr) (n c m c' k c'' : Nat) (l : List PEdge) (ys zs : List Int) (hg : graphF rows cols l = true) (hl : l.length = n) (hr : RdC w eo (cellsOf PEdge.cells l)) (hn : n ≤ 9007199254740992)
    (hy : ys.length = m) (hyr : RdC w yo (cellsOf icell ys)) (hm : (m : Int) = rows) (hz : zs.length = k) (hzr : RdC w zo (cellsOf icell zs)) (hk : (k : Int) = cols) (hyo : ∀ x ∈ ys, i64ok x) :
    Calls Tryz.prog 137 #[.agg #[.int .i64 rows, .int .i64 cols, .slice eo n c], .slice yo m c', .slice zo k c''] w fun e w' => e = .returned (.bool (holdF l ys zs)) ∧ Below w.heap.size w w' := by
  have hhd := graphF_hdr hg
  have hm' : m ≤ 64 := by omega
  have hk' : k ≤ 64 := by omega
  have HMR := Lib.hid hm
  have HKC := Lib.hid hk
  have HL := Lib.hid hl
  have HR := Lib.hid hr
  have HG := Lib.hid hg
  have HY := Lib.hid hy
  have HYR := Lib.hid hyr
  have HZ := Lib.hid hz
  have HZR := Lib.hid hzr
  have HYO := Lib.hid hyo
  clear hl hr hg hy hyr hz hzr hm hk hhd hyo
  have HW := Lib.hid (GrRel.begin w rows cols (.slice eo n c))
  go_enter Tryz.func137, Tryz.ntmps137
  go_wp2_with fail
  generalize w.alloc (.cells #[.int .i64 rows, .int .i64 cols, .slice eo n c] 28) = W at *
  have HHE := Lib.hid (show ∃ H0, w.heap.size = H0 from ⟨_, rfl⟩)
  obtain ⟨H0, hH0⟩ := HHE.out
  rw [hH0] at HW ⊢
  have HH := Lib.hid hH0
  clear hH0 HHE
  go_loop [7] (fun i => Hid (∃ j : Nat, i = .int .i64 j ∧ j ≤ m ∧ ∀ (q : Nat) (x : Int), q < j → ys[q]? = some x → 0 ≤ x)) (fun i => m - (intOf i).toNat)
  case atStart => exact Lib.hid ⟨0, rfl, Nat.zero_le _, fun q x h => absurd h (Nat.not_lt_zero q)⟩
  case round =>
    obtain ⟨j, rfl, hj, hall⟩ := hrel.out
    clear hrel
    have HALL := Lib.hid hall
    clear hall
    by_cases hlt : j < m
    · obtain ⟨x, hx⟩ : ∃ x, ys[j]? = some x := ⟨ys[j]'(by rw [HY.out]; exact hlt), List.getElem?_eq_getElem _⟩
      obtain ⟨b, o, rfl, _⟩ := HYR.out.place (by rw [cellsOf_length _ 1 icell_length, HY.out]; omega)
      have hc := int_at (HYR.out.keep (Keep.of_below HW.out.below (Nat.le_refl _) (fun _ => False)) (fun _ _ _ => id)) hx
      have HX := Lib.hid hx
      clear hx
      by_cases h0 : x < 0
      · have HE := Lib.hid (hold_y (es := l) (ys := ys) (zs := zs) (allNat_bad HX.out h0))
        go_wp2_with fail
        go_ret
        exact ⟨by rw [HE.out]; rfl, HW.out.below⟩
      · have h0' : 0 ≤ x := by omega
        have HA := Lib.hid (show ∀ (q : Nat) (y : Int), q < j + 1 → ys[q]? = some y → 0 ≤ y from fun q y hq hy => by
          rcases Nat.lt_succ_iff_lt_or_eq.1 hq with hq | rfl
          · exact HALL.out q y hq hy
          · rw [HX.out] at hy; cases hy; exact h0')
        clear h0
        go_wp2_with fail
        go_round
        case rel => exact Lib.hid ⟨j + 1, by go_num, by omega, HA.out⟩
        case measure => simp [intOf]; omega
    · obtain rfl : m = j := by omega
      have HAy := Lib.hid (allNat_good (l := ys) (fun q x hx => HALL.out q x (by rw [← HY.out]; exact (List.getElem?_eq_some_iff.1 hx).1) hx))
      clear HALL hlt hj
      go_wp2_with fail
      go_loop [8] (fun i => Hid (∃ j : Nat, i = .int .i64 j ∧ j ≤ k ∧ ∀ (q : Nat) (x : Int), q < j → zs[q]? = some x → 0 ≤ x)) (fun i => k - (intOf i).toNat)
      case atStart => exact Lib.hid ⟨0, rfl, Nat.zero_le _, fun q x h => absurd h (Nat.not_lt_zero q)⟩
      case round =>
        obtain ⟨j, rfl, hj, hall⟩ := hrel.out
        clear hrel
        have HALL := Lib.hid hall
        clear hall
        by_cases hlt : j < k
        · obtain ⟨x, hx⟩ : ∃ x, zs[j]? = some x := ⟨zs[j]'(by rw [HZ.out]; exact hlt), List.getElem?_eq_getElem _⟩
          obtain ⟨b, o, rfl, _⟩ := HZR.out.place (by rw [cellsOf_length _ 1 icell_length, HZ.out]; omega)
          have hc := int_at (HZR.out.keep (Keep.of_below HW.out.below (Nat.le_refl _) (fun _ => False)) (fun _ _ _ => id)) hx
          have HX := Lib.hid hx
          clear hx
          by_cases h0 : x < 0
          · have HE := Lib.hid (hold_z (es := l) (ys := ys) (zs := zs) (allNat_bad HX.out h0))
            go_wp2_with fail
            go_ret
            exact ⟨by rw [HE.out]; rfl, HW.out.below⟩
          · have h0' : 0 ≤ x := by omega
            have HA := Lib.hid (show ∀ (q : Nat) (y : Int), q < j + 1 → zs[q]? = some y → 0 ≤ y from fun q y hq hy => by
              rcases Nat.lt_succ_iff_lt_or_eq.1 hq with hq | rfl
              · exact HALL.out q y hq hy
              · rw [HX.out] at hy; cases hy; exact h0')
            clear h0
            go_wp2_with fail
            go_round
            case rel => exact Lib.hid ⟨j + 1, by go_num, by omega, HA.out⟩
            case measure => simp [intOf]; omega
        · obtain rfl : k = j := by omega
          have HAz := Lib.hid (allNat_good (l := zs) (fun q x hx => HALL.out q x (by rw [← HZ.out]; exact (List.getElem?_eq_some_iff.1 hx).1) hx))
          clear HALL hlt hj
          go_wp2_with fail
          go_loopw [9] (fun i wr => Hid (∃ j : Nat, i = .int .i64 j ∧ j ≤ n ∧ (∀ q, q < j → priceAt l ys zs q = true) ∧ GrRel w rows cols (.slice eo n c) H0 wr)) (fun i _ => n - (intOf i).toNat)
          case atStart => exact Lib.hid ⟨0, rfl, Nat.zero_le _, upto_none, HW.out⟩
          case round =>
            obtain ⟨j, rfl, hj, hall, hrel1⟩ := hrel.out
            clear hrel
            obtain ⟨g0, g1, g2, gf⟩ := cells3 hrel1.g
            have hs0 : H0 < wr.heap.size := lt_of_block hrel1.g
            have HR1 := Lib.hid hrel1
            have HALL := Lib.hid hall
            clear hrel1 hall
            by_cases hlt : j < n
            · obtain ⟨x, hx⟩ : ∃ x, l[j]? = some x := ⟨l[j]'(by rw [HL.out]; exact hlt), List.getElem?_eq_getElem _⟩
              have hin := graphF_at HG.out hx
              have hr1 : x.r.toNat < m := by have := HMR.out; omega
              have hr2 : x.c.toNat < k := by have := HKC.out; omega
              obtain ⟨y, hyx⟩ : ∃ y, ys[x.r.toNat]? = some y := ⟨ys[x.r.toNat]'(by rw [HY.out]; exact hr1), List.getElem?_eq_getElem _⟩
              obtain ⟨z, hzx⟩ : ∃ z, zs[x.c.toNat]? = some z := ⟨zs[x.c.toNat]'(by rw [HZ.out]; exact hr2), List.getElem?_eq_getElem _⟩
              obtain ⟨b, o, rfl, _⟩ := HR.out.place (by rw [cellsOf_length _ 3 PEdge.cells_length, HL.out]; omega)
              obtain ⟨b1, o1, rfl, _⟩ := HYR.out.place (by rw [cellsOf_length _ 1 icell_length, HY.out]; omega)
              obtain ⟨b2, o2, rfl, _⟩ := HZR.out.place (by rw [cellsOf_length _ 1 icell_length, HZ.out]; omega)
              have hkb := Keep.of_below HR1.out.below (Nat.le_refl _) (fun _ => False)
              obtain ⟨x0, x1, x2⟩ := edge_at (HR.out.keep hkb (fun _ _ _ => id)) hx
              have yc := int_at (HYR.out.keep hkb (fun _ _ _ => id)) hyx
              have zc := int_at (HZR.out.keep hkb (fun _ _ _ => id)) hzx
              have hb0 : b < wr.heap.size := World.block_lt_of_cell? wr _ x0
              have hb1 : b1 < wr.heap.size := World.block_lt_of_cell? wr _ yc
              have hb2 : b2 < wr.heap.size := World.block_lt_of_cell? wr _ zc
              have hyb := HYO.out y (List.mem_of_getElem? hyx)
              obtain ⟨hyb1, hyb2⟩ := hyb
              have hyn := allNat_at HAy.out hyx
              obtain ⟨e1, e2, e3, e4, e5, e6⟩ := hin
              have HX := Lib.hid hx
              have HEQ := Lib.hid (priceAt_eq hx hyx hzx)
              clear hx hyx hzx hkb
              by_cases h0 : z < x.w - y
              · have HE := Lib.hid (hold_e (es := l) (ys := ys) (zs := zs) (by rw [HL.out]; exact hlt) (show priceAt l ys zs j = false by rw [HEQ.out]; exact decide_eq_false (by omega)))
                go_wp2_with fail
                go_quiet (fail)
                go_wp2_with fail
                go_ret
                exact ⟨by rw [HE.out]; rfl, below_drewN (HR1.out.one _).below _⟩
              · have h0' : x.w - y ≤ z := by omega
                have HE := Lib.hid (show priceAt l ys zs j = true by rw [HEQ.out]; exact decide_eq_true h0')
                clear h0
                go_wp2_with fail
                go_quiet (fail)
                have HN := Lib.hid (HR1.out.one (.cells #[.int .i64 x.r, .int .i64 x.c, .int .i64 x.w] 114))
                go_wp2_with fail
                go_roundw
                case rel => exact Lib.hid ⟨j + 1, by go_num, by omega, upto_next HALL.out HE.out, HN.out.drewN _⟩
                case measure => simp [intOf]; omega
            · obtain rfl : n = j := by omega
              have HE := Lib.hid (hold_yes (es := l) HAy.out HAz.out (fun q hq => HALL.out q (by rw [HL.out] at hq; exact hq)))
              go_wp2_with fail
              go_ret
              exact ⟨by rw [HE.out]; rfl, HR1.out.below⟩

set_option maxHeartbeats 8000000 in
theorem rsum_any (w : World) (yo zo : Option Addr) (m c' k c'' : Nat) (ys zs : List Int) (hm : m ≤ 9007199254740992) (hk : k ≤ 9007199254740992)
    (hy : ys.length = m) (hyr : RdC w yo (cellsOf icell ys)) (hz : zs.length = k) (hzr : RdC w zo (cellsOf icell zs)) (hyn : allNat ys = true) (hzn : allNat zs = true) :
    Calls Tryz.prog 138 #[.slice yo m c', .slice zo k c''] w fun e w' => e = .returned (sumV (sumAll ys zs)) ∧ w = w' := by
  have HY := Lib.hid hy
  have HYR := Lib.hid hyr
  have HZ := Lib.hid hz
  have HZR := Lib.hid hzr
  have HYN := Lib.hid hyn
  have HZN := Lib.hid hzn
  clear hy hyr hz hzr hyn hzn
  go_enter Tryz.func138, Tryz.ntmps138
  go_wp2_with fail
  go_loop [6, 7] (fun a i => Hid (∃ (j : Nat) (t : Int), a = .int .i64 t ∧ i = .int .i64 j ∧ j ≤ m ∧ sumF 0 (([] : List Int) ++ ys.take j) = some t)) (fun _ i => m - (intOf i).toNat)
  case atStart => exact Lib.hid ⟨0, 0, rfl, rfl, Nat.zero_le _, by rw [List.take_zero, List.append_nil]; exact rfl⟩
  case round =>
    obtain ⟨j, t, rfl, rfl, hj, ht⟩ := hrel.out
    clear hrel
    have HT := Lib.hid ht
    clear ht
    by_cases hlt : j < m
    · obtain ⟨x, hx⟩ : ∃ x, ys[j]? = some x := ⟨ys[j]'(by rw [HY.out]; exact hlt), List.getElem?_eq_getElem _⟩
      obtain ⟨b, o, rfl, _⟩ := HYR.out.place (by rw [cellsOf_length _ 1 icell_length, HY.out]; omega)
      have hc := int_at HYR.out hx
      obtain ⟨s1, s2, s3, s4, s5⟩ := sum_step (pre := ([] : List Int)) rfl HYN.out hx HT.out
      have S4 := Lib.hid s4
      have S5 := Lib.hid s5
      clear hx s4 s5
      by_cases h0 : 4611686018427387903 - t < x
      · have HE := Lib.hid (show sumAll ys zs = none by have := S4.out h0 zs; simpa [sumAll] using this)
        go_wp2_with fail
        go_ret2
        exact ⟨by rw [HE.out]; rfl, rfl⟩
      · have h0' : x ≤ 4611686018427387903 - t := by omega
        have HA := Lib.hid (S5.out h0')
        clear h0
        go_wp2_with fail
        go_round
        case rel => exact Lib.hid ⟨j + 1, t + x, by first | rfl | go_num, by go_num, by omega, HA.out⟩
        case measure => simp [intOf]; omega
    · obtain rfl : m = j := by omega
      have HAy := Lib.hid (show sumF 0 (ys) = some t by
        have := HT.out
        rw [List.take_of_length_le (by rw [HY.out]; exact Nat.le_refl _)] at this
        simpa using this)
      clear HT hlt hj
      go_wp2_with fail
      go_loop [6, 8] (fun a i => Hid (∃ (j : Nat) (t : Int), a = .int .i64 t ∧ i = .int .i64 j ∧ j ≤ k ∧ sumF 0 (ys ++ zs.take j) = some t)) (fun _ i => k - (intOf i).toNat)
      case atStart => exact Lib.hid ⟨0, t, rfl, rfl, Nat.zero_le _, by rw [List.take_zero, List.append_nil]; exact HAy.out⟩
      case round =>
        obtain ⟨j, t, rfl, rfl, hj, ht⟩ := hrel.out
        clear hrel
        have HT := Lib.hid ht
        clear ht
        by_cases hlt : j < k
        · obtain ⟨x, hx⟩ : ∃ x, zs[j]? = some x := ⟨zs[j]'(by rw [HZ.out]; exact hlt), List.getElem?_eq_getElem _⟩
          obtain ⟨b, o, rfl, _⟩ := HZR.out.place (by rw [cellsOf_length _ 1 icell_length, HZ.out]; omega)
          have hc := int_at HZR.out hx
          obtain ⟨s1, s2, s3, s4, s5⟩ := sum_step (pre := ys) HYN.out HZN.out hx HT.out
          have S4 := Lib.hid s4
          have S5 := Lib.hid s5
          clear hx s4 s5
          by_cases h0 : 4611686018427387903 - t < x
          · have HE := Lib.hid (show sumAll ys zs = none by have := S4.out h0 []; simpa [sumAll] using this)
            go_wp2_with fail
            go_ret2
            exact ⟨by rw [HE.out]; rfl, rfl⟩
          · have h0' : x ≤ 4611686018427387903 - t := by omega
            have HA := Lib.hid (S5.out h0')
            clear h0
            go_wp2_with fail
            go_round
            case rel => exact Lib.hid ⟨j + 1, t + x, by first | rfl | go_num, by go_num, by omega, HA.out⟩
            case measure => simp [intOf]; omega
        · obtain rfl : k = j := by omega
          have HAz := Lib.hid (show sumF 0 (ys ++ zs) = some t by
            have := HT.out
            rw [List.take_of_length_le (by rw [HZ.out]; exact Nat.le_refl _)] at this
            simpa using this)
          clear HT hlt hj
          have HE := Lib.hid (show sumAll ys zs = some t from HAz.out)
          go_wp2_with fail
          go_ret2
          exact ⟨by rw [HE.out]; rfl, rfl⟩
end Go.Proofs.YtcaicgipibcicaaGreat
