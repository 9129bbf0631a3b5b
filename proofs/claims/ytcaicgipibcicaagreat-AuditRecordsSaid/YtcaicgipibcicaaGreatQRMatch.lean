/- Matchings in the reference of chapter 17; graphs that are the same; windows that close. Printed by wip/genrmatch.py. -/
import Derived.Test.YtcaicgipibcicaaGreatQRCert5
namespace Go.Proofs.YtcaicgipibcicaaGreat
set_option maxRecDepth 100000
set_option linter.unusedVariables false
set_option linter.unusedSimpArgs false
open Go.RowKit Go.Sort

/-- Is there an edge among the first j? -/
def edgeUpto (es : List PEdge) (r c : Int) (j : Nat) : Bool := (es.take j).any (isE r c)
theorem edgeUpto_zero (es : List PEdge) (r c : Int) : edgeUpto es r c 0 = false := by simp [edgeUpto]
theorem edgeUpto_succ {es : List PEdge} {r c : Int} {j : Nat} {x : PEdge} (hx : es[j]? = some x) : edgeUpto es r c (j + 1) = (edgeUpto es r c j || isE r c x) := by
  have hj := (List.getElem?_eq_some_iff.1 hx).1
  unfold edgeUpto
  rw [List.take_succ_eq_append_getElem hj, (List.getElem?_eq_some_iff.1 hx).2, List.any_append]
  simp
theorem edgeUpto_all (es : List PEdge) (r c : Int) : edgeUpto es r c es.length = edgeIs es r c := by simp [edgeUpto, edgeIs]

set_option maxHeartbeats 8000000 in
theorem rmatching_any (w : World) (rows cols : Int) (eo po : Option Addr) (n c q d : Nat) (l : List PEdge) (ps : List PPair) (hg : graphF rows cols l = true) (hl : l.length = n) (hr : RdC w eo (cellsOf PEdge.cells l)) (hn : n ≤ 9007199254740992)
    (hp : ps.length = q) (hpr : RdC w po (cellsOf PPair.cells ps)) (hq : q ≤ 9007199254740992) :
    Calls Tryz.prog 95 #[.agg #[.int .i64 rows, .int .i64 cols, .slice eo n c], .slice po q d] w fun e w' => e = .returned (.bool (matchF l ps)) ∧ Below w.heap.size w w' := by
  have HP := Lib.hid hp
  have HPR := Lib.hid hpr
  have HL := Lib.hid hl
  have HR := Lib.hid hr
  have HG := Lib.hid hg
  clear hl hr hp hpr hg
  have HW := Lib.hid (GrRel.begin w rows cols (.slice eo n c))
  go_enter Tryz.func95, Tryz.ntmps95
  go_wp2_with fail
  generalize w.alloc (.cells #[.int .i64 rows, .int .i64 cols, .slice eo n c] 28) = W at *
  have HHE := Lib.hid (show ∃ H0, w.heap.size = H0 from ⟨_, rfl⟩)
  obtain ⟨H0, hH0⟩ := HHE.out
  rw [hH0] at HW
  rw [hH0]
  have HH := Lib.hid hH0
  clear hH0 HHE
  go_loopw [5] (fun i wr => Hid (∃ k : Nat, i = .int .i64 k ∧ k ≤ q ∧ (∀ j, j < k → pairAt l ps j = true) ∧ GrRel w rows cols (.slice eo n c) H0 wr)) (fun i _ => q - (intOf i).toNat)
  case atStart => exact Lib.hid ⟨0, rfl, Nat.zero_le _, upto_none, HW.out⟩
  case round =>
    obtain ⟨k, rfl, hk, hall, hrel1⟩ := hrel.out
    clear hrel
    have HR1 := Lib.hid hrel1
    have HALL := Lib.hid hall
    clear hrel1 hall
    by_cases hlt : k < q
    · obtain ⟨x, hx⟩ : ∃ x, ps[k]? = some x := ⟨ps[k]'(by rw [HP.out]; exact hlt), List.getElem?_eq_getElem _⟩
      obtain ⟨b, o, rfl, _⟩ := HPR.out.place (by rw [cellsOf_length _ 2 PPair.cells_length, HP.out]; omega)
      have HX := Lib.hid hx
      have HBAD := Lib.hid (fun h => matchF_bad (es := l) HX.out h)
      have HEQ := Lib.hid (pairAt_eq (es := l) HX.out)
      have HIN := Lib.hid (worthAt_in HG.out x.r x.c)
      have HEI := Lib.hid (edgeIs_eq HG.out x.r x.c)
      clear hx
      go_wp2_with fail
      go_loopw [6, 7] (fun v i wr => Hid (∃ j : Nat, v = .bool (edgeUpto l x.r x.c j) ∧ i = .int .i64 j ∧ j ≤ n ∧ GrRel w rows cols (.slice eo n c) H0 wr)) (fun _ i _ => n - (intOf i).toNat)
      case atStart => exact Lib.hid ⟨0, by rw [edgeUpto_zero], rfl, Nat.zero_le _, HR1.out⟩
      case round =>
        obtain ⟨j, rfl, rfl, hj, hrel1⟩ := hrel.out
        clear hrel
        obtain ⟨g0, g1, g2, gf⟩ := cells3 hrel1.g
        have HR2 := Lib.hid hrel1
        clear hrel1 g0 g1 gf
        by_cases hjn : j < n
        · obtain ⟨y, hy⟩ : ∃ y, l[j]? = some y := ⟨l[j]'(by rw [HL.out]; exact hjn), List.getElem?_eq_getElem _⟩
          obtain ⟨b2, o2, rfl, _⟩ := HR.out.place (by rw [cellsOf_length _ 3 PEdge.cells_length, HL.out]; omega)
          have hkb := Keep.of_below HR2.out.below (Nat.le_refl _) (fun _ => False)
          obtain ⟨y0, y1, y2⟩ := edge_at (HR.out.keep hkb (fun _ _ _ => id)) hy
          obtain ⟨x0, x1⟩ := pair_at (HPR.out.keep hkb (fun _ _ _ => id)) HX.out
          have HSU := Lib.hid (edgeUpto_succ (r := x.r) (c := x.c) hy)
          clear hy hkb
          cases heu : edgeUpto l x.r x.c j with
          | true =>
            have HNX := Lib.hid (show edgeUpto l x.r x.c (j + 1) = true by rw [HSU.out, heu]; rfl)
            clear heu
            go_wp2_with fail
            go_quiet (fail)
            go_wp2_with fail
            go_roundw
            case rel => exact Lib.hid ⟨j + 1, by rw [HNX.out], by go_num, by omega, HR2.out.drewN _⟩
            case measure => simp [intOf]; omega
          | false =>
            by_cases h1 : y.r = x.r
            · by_cases h2 : y.c = x.c
              · have HNX := Lib.hid (show edgeUpto l x.r x.c (j + 1) = true by rw [HSU.out, heu, isE, decide_eq_true ⟨h1, h2⟩]; rfl)
                have b1 : (y.r == x.r) = true := by simp [h1]
                have b2 : (y.c == x.c) = true := by simp [h2]
                clear heu h1 h2
                go_wp2_with fail
                go_quiet (fail)
                go_wp2_with fail
                go_roundw
                case rel => exact Lib.hid ⟨j + 1, by rw [HNX.out], by go_num, by omega, HR2.out.drewN _⟩
                case measure => simp [intOf]; omega
              · have HNX := Lib.hid (show edgeUpto l x.r x.c (j + 1) = false by rw [HSU.out, heu, isE, decide_eq_false (fun h => h2 h.2)]; rfl)
                have b1 : (y.r == x.r) = true := by simp [h1]
                have b2 : (y.c == x.c) = false := by simp [h2]
                clear heu h1 h2
                go_wp2_with fail
                go_quiet (fail)
                go_wp2_with fail
                go_roundw
                case rel => exact Lib.hid ⟨j + 1, by rw [HNX.out], by go_num, by omega, HR2.out.drewN _⟩
                case measure => simp [intOf]; omega
            · have HNX := Lib.hid (show edgeUpto l x.r x.c (j + 1) = false by rw [HSU.out, heu, isE, decide_eq_false (fun h => h1 h.1)]; rfl)
              have b1 : (y.r == x.r) = false := by simp [h1]
              clear heu h1
              go_wp2_with fail
              go_quiet (fail)
              go_wp2_with fail
              go_roundw
              case rel => exact Lib.hid ⟨j + 1, by rw [HNX.out], by go_num, by omega, HR2.out.drewN _⟩
              case measure => simp [intOf]; omega
        · obtain rfl : n = j := by omega
          have HEU := Lib.hid (show edgeUpto l x.r x.c n = decide (worthAt l x.r x.c ≠ 0) by rw [← HEI.out, ← edgeUpto_all, HL.out])
          obtain ⟨x0, x1⟩ := pair_at (HPR.out.keep (Keep.of_below HR2.out.below (Nat.le_refl _) (fun _ => False)) (fun _ _ _ => id)) HX.out
          by_cases h1 : worthAt l x.r x.c = 0
          · have HF := Lib.hid (HBAD.out (by rw [HEQ.out, h1]; simp))
            rw [HEU.out, decide_eq_false (fun h => h h1)]
            clear h1
            go_wp2_with fail
            go_quiet (fail)
            go_wp2_with fail
            go_ret
            exact ⟨by rw [HF.out]; rfl, (HR2.out.drewN _).below⟩
          · have hrow : 0 ≤ x.r := by
              rcases HIN.out with ⟨h0, _⟩ | ⟨_, _, h3, _⟩
              · exact absurd h0 h1
              · exact h3
            have HEQ2 := Lib.hid (show pairAt l ps k = (decide (prevR ps k < x.r) && freeC ps k x.c) by rw [HEQ.out, decide_eq_true (show worthAt l x.r x.c ≠ 0 from h1), Bool.and_true])
            rw [HEU.out, decide_eq_true h1]
            have HROW : Hid ((k = 0 ∧ prevR ps k < x.r) ∨ (0 < k ∧ ∃ y, ps[k - 1]? = some y ∧ prevR ps k = y.r)) := Lib.hid (by
              have hcase : k = 0 ∨ 0 < k := by omega
              rcases hcase with rfl | h
              · exact .inl ⟨rfl, by simp only [prevR]; omega⟩
              · right
                obtain ⟨y, hy⟩ : ∃ y, ps[k - 1]? = some y := ⟨ps[k - 1]'(by rw [HP.out]; omega), List.getElem?_eq_getElem _⟩
                have := prevR_succ hy
                rw [show k - 1 + 1 = k by omega] at this
                exact ⟨h, y, hy, this⟩)
            clear h1 HEQ HIN
            rcases HROW.out with ⟨h2, h3⟩ | ⟨h2, y, hy, h3⟩
            · have HEQ3 := Lib.hid (show pairAt l ps k = freeC ps k x.c by rw [HEQ2.out, decide_eq_true h3, Bool.true_and])
              have b2 : decide (0 < k) = false := by simp [h2]
              clear h2 h3 HROW HEQ2
              go_wp2_with fail
              go_quiet (fail)
              go_wp2_with fail
              go_loopw [8] (fun i wr => Hid (∃ j : Nat, i = .int .i64 j ∧ j ≤ k ∧ (∀ (p : Nat) (y : PPair), p < j → ps[p]? = some y → y.c ≠ x.c) ∧ GrRel w rows cols (.slice eo n c) H0 wr)) (fun i _ => k - (intOf i).toNat)
              case atStart => exact Lib.hid ⟨0, rfl, Nat.zero_le _, fun p y h => absurd h (Nat.not_lt_zero p), HR2.out.drewN _⟩
              case round =>
                obtain ⟨j, rfl, hj, hfree, hrel1⟩ := hrel.out
                clear hrel
                have HR3 := Lib.hid hrel1
                have HFR := Lib.hid hfree
                clear hrel1 hfree
                by_cases hjk : j < k
                · obtain ⟨z, hz⟩ : ∃ z, ps[j]? = some z := ⟨ps[j]'(by rw [HP.out]; omega), List.getElem?_eq_getElem _⟩
                  have hkb := Keep.of_below HR3.out.below (Nat.le_refl _) (fun _ => False)
                  obtain ⟨z0, z1⟩ := pair_at (HPR.out.keep hkb (fun _ _ _ => id)) hz
                  obtain ⟨v0, v1⟩ := pair_at (HPR.out.keep hkb (fun _ _ _ => id)) HX.out
                  have HZ := Lib.hid hz
                  clear hz hkb
                  by_cases h5 : z.c = x.c
                  · have HF := Lib.hid (HBAD.out (by rw [HEQ3.out]; exact freeC_bad hjk HZ.out h5))
                    have b5 : (z.c == x.c) = true := by simp [h5]
                    clear h5
                    go_wp2_with fail
                    go_quiet (fail)
                    go_wp2_with fail
                    go_ret
                    exact ⟨by rw [HF.out]; rfl, (HR3.out.drewN _).below⟩
                  · have HA := Lib.hid (show ∀ (p : Nat) (y : PPair), p < j + 1 → ps[p]? = some y → y.c ≠ x.c from fun p y hp hy => by
                      rcases Nat.lt_succ_iff_lt_or_eq.1 hp with hp | rfl
                      · exact HFR.out p y hp hy
                      · rw [HZ.out] at hy; cases hy; exact h5)
                    have b5 : (z.c == x.c) = false := by simp [h5]
                    clear h5
                    go_wp2_with fail
                    go_quiet (fail)
                    go_wp2_with fail
                    go_roundw
                    case rel => exact Lib.hid ⟨j + 1, by go_num, by omega, HA.out, HR3.out.drewN _⟩
                    case measure => simp [intOf]; omega
                · obtain rfl : k = j := by omega
                  have HA := Lib.hid (upto_next HALL.out (by rw [HEQ3.out]; exact freeC_good HFR.out))
                  go_wp2_with fail
                  go_roundw
                  case rel => exact Lib.hid ⟨k + 1, by go_num, by omega, HA.out, HR3.out⟩
                  case measure => simp [intOf]; omega
            · obtain ⟨y0, y1⟩ := pair_at (HPR.out.keep (Keep.of_below HR2.out.below (Nat.le_refl _) (fun _ => False)) (fun _ _ _ => id)) hy
              have b2 : decide (0 < k) = true := by simp [h2]
              by_cases h4 : x.r ≤ y.r
              · have HF := Lib.hid (HBAD.out (by rw [HEQ2.out, h3, decide_eq_false (show ¬ y.r < x.r by omega)]; rfl))
                have b4 : decide (x.r ≤ y.r) = true := decide_eq_true h4
                clear h3 hy HROW HEQ2
                go_wp2_with fail
                go_quiet (fail)
                go_wp2_with fail
                go_ret
                exact ⟨by rw [HF.out]; rfl, (HR2.out.drewN _).below⟩
              · have HEQ3 := Lib.hid (show pairAt l ps k = freeC ps k x.c by rw [HEQ2.out, h3, decide_eq_true (show y.r < x.r by omega), Bool.true_and])
                have b4 : decide (x.r ≤ y.r) = false := decide_eq_false h4
                clear h3 h4 hy HROW HEQ2
                go_wp2_with fail
                go_quiet (fail)
                go_wp2_with fail
                go_loopw [8] (fun i wr => Hid (∃ j : Nat, i = .int .i64 j ∧ j ≤ k ∧ (∀ (p : Nat) (y : PPair), p < j → ps[p]? = some y → y.c ≠ x.c) ∧ GrRel w rows cols (.slice eo n c) H0 wr)) (fun i _ => k - (intOf i).toNat)
                case atStart => exact Lib.hid ⟨0, rfl, Nat.zero_le _, fun p y h => absurd h (Nat.not_lt_zero p), HR2.out.drewN _⟩
                case round =>
                  obtain ⟨j, rfl, hj, hfree, hrel1⟩ := hrel.out
                  clear hrel
                  have HR3 := Lib.hid hrel1
                  have HFR := Lib.hid hfree
                  clear hrel1 hfree
                  by_cases hjk : j < k
                  · obtain ⟨z, hz⟩ : ∃ z, ps[j]? = some z := ⟨ps[j]'(by rw [HP.out]; omega), List.getElem?_eq_getElem _⟩
                    have hkb := Keep.of_below HR3.out.below (Nat.le_refl _) (fun _ => False)
                    obtain ⟨z0, z1⟩ := pair_at (HPR.out.keep hkb (fun _ _ _ => id)) hz
                    obtain ⟨v0, v1⟩ := pair_at (HPR.out.keep hkb (fun _ _ _ => id)) HX.out
                    have HZ := Lib.hid hz
                    clear hz hkb
                    by_cases h5 : z.c = x.c
                    · have HF := Lib.hid (HBAD.out (by rw [HEQ3.out]; exact freeC_bad hjk HZ.out h5))
                      have b5 : (z.c == x.c) = true := by simp [h5]
                      clear h5
                      go_wp2_with fail
                      go_quiet (fail)
                      go_wp2_with fail
                      go_ret
                      exact ⟨by rw [HF.out]; rfl, (HR3.out.drewN _).below⟩
                    · have HA := Lib.hid (show ∀ (p : Nat) (y : PPair), p < j + 1 → ps[p]? = some y → y.c ≠ x.c from fun p y hp hy => by
                        rcases Nat.lt_succ_iff_lt_or_eq.1 hp with hp | rfl
                        · exact HFR.out p y hp hy
                        · rw [HZ.out] at hy; cases hy; exact h5)
                      have b5 : (z.c == x.c) = false := by simp [h5]
                      clear h5
                      go_wp2_with fail
                      go_quiet (fail)
                      go_wp2_with fail
                      go_roundw
                      case rel => exact Lib.hid ⟨j + 1, by go_num, by omega, HA.out, HR3.out.drewN _⟩
                      case measure => simp [intOf]; omega
                  · obtain rfl : k = j := by omega
                    have HA := Lib.hid (upto_next HALL.out (by rw [HEQ3.out]; exact freeC_good HFR.out))
                    go_wp2_with fail
                    go_roundw
                    case rel => exact Lib.hid ⟨k + 1, by go_num, by omega, HA.out, HR3.out⟩
                    case measure => simp [intOf]; omega
    · obtain rfl : q = k := by omega
      have HF := Lib.hid (show matchF l ps = true from allF_good (fun j hj => HALL.out j (by rw [HP.out] at hj; exact hj)))
      go_wp2_with fail
      go_ret
      exact ⟨by rw [HF.out]; rfl, HR1.out.below⟩
end Go.Proofs.YtcaicgipibcicaaGreat
