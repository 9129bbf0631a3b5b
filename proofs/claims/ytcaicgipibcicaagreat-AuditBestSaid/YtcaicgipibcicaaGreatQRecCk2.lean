/- The record's error, in the reference of chapter 20 and in the program. Printed by wip/genrecck.py. -/
import Derived.Test.YtcaicgipibcicaaGreatQSame2
import Derived.Test.YtcaicgipibcicaaGreatQWr
namespace Go.Proofs.YtcaicgipibcicaaGreat
set_option maxRecDepth 100000
set_option linter.unusedVariables false
set_option linter.unusedSimpArgs false
open Go.RowKit Go.Sort

set_option maxHeartbeats 16000000 in
theorem rrec_any (w : World) (v : RV) (hin : v.In w) : Calls Tryz.prog 54 #[.agg #[.int .i64 v.x.tick, .slice v.wo v.wn v.wc, .slice v.ko v.kn v.kc, .int .i64 v.x.rows, .int .i64 v.x.cols, .slice v.eo v.en v.ec, .slice v.po v.pn v.pc, .slice v.yo v.yn v.yc, .slice v.zo v.zn v.zc]] w fun e w' => e = .returned (.int .i64 (recE v.x)) ∧ Below w.heap.size w w' := by
  have HIN := Lib.hid hin
  have wb := hin.wb
  have kb := hin.kb
  have eb := hin.eb
  have pb := hin.pb
  have yb := hin.yb
  have zb := hin.zb
  clear hin
  have HW := Lib.hid (RbRel.begin w v)
  have hcase : (v.x.tick < 1 ∨ (1 ≤ v.x.tick ∧ 1099511627776 < v.x.tick) ∨ (1 ≤ v.x.tick ∧ v.x.tick ≤ 1099511627776 ∧ 64 < v.wn) ∨ (1 ≤ v.x.tick ∧ v.x.tick ≤ 1099511627776 ∧ v.wn ≤ 64 ∧ 64 < v.kn)) ∨ (1 ≤ v.x.tick ∧ v.x.tick ≤ 1099511627776 ∧ v.wn ≤ 64 ∧ v.kn ≤ 64) := by omega
  rcases hcase with h | ⟨c1, c2, c3, c4⟩
  · have HF := Lib.hid (recE_1 (x := v.x) (decide_eq_false (by rw [HIN.out.wl, HIN.out.kl]; omega)))
    rcases h with c1 | ⟨c1, c2⟩ | ⟨c1, c2, c3⟩ | ⟨c1, c2, c3, c4⟩
    all_goals as_aux_lemma =>
      go_enter Tryz.func54, Tryz.ntmps54
      go_wp2_with fail
      all_goals
        go_ret
        exact ⟨by rw [HF.out]; rfl, HW.out.below⟩
  have HS1 := Lib.hid (show sizesB v.x = true from decide_eq_true (by rw [HIN.out.wl, HIN.out.kl]; omega))
  go_enter Tryz.func54, Tryz.ntmps54
  go_wp2_with fail
  generalize w.alloc (.cells #[.int .i64 v.x.tick, .slice v.wo v.wn v.wc, .slice v.ko v.kn v.kc, .int .i64 v.x.rows, .int .i64 v.x.cols, .slice v.eo v.en v.ec, .slice v.po v.pn v.pc, .slice v.yo v.yn v.yc, .slice v.zo v.zn v.zc] 34) = W at *
  have HHE := Lib.hid (show ∃ H0, w.heap.size = H0 from ⟨_, rfl⟩)
  obtain ⟨H0, hH0⟩ := HHE.out
  rw [hH0] at HW
  rw [hH0]
  have HH := Lib.hid hH0
  clear hH0 HHE
  go_loopw [3, 4] (fun a i wr => Hid (∃ k : Nat, a = .int .i64 (prevW v.x.ws k) ∧ i = .int .i64 k ∧ k ≤ v.wn ∧ (∀ j, j < k → waitAt v.x.tick v.x.ws j = true) ∧ RbRel w v H0 wr)) (fun _ i _ => v.wn - (intOf i).toNat)
  case atStart => exact Lib.hid ⟨0, rfl, rfl, Nat.zero_le _, upto_none, HW.out⟩
  case round =>
    obtain ⟨k, rfl, rfl, hk, hall, hrel1⟩ := hrel.out
    clear hrel
    obtain ⟨g0, g1, g2, g3, g4, g5, g6, g7, g8⟩ := cells9 hrel1.g
    have hs0 : H0 < wr.heap.size := lt_of_block hrel1.g
    have HR1 := Lib.hid hrel1
    have HALL := Lib.hid hall
    clear hrel1 hall
    by_cases hlt : k < v.wn
    · obtain ⟨x, hx⟩ : ∃ x, v.x.ws[k]? = some x := ⟨v.x.ws[k]'(by rw [HIN.out.wl]; exact hlt), List.getElem?_eq_getElem _⟩
      obtain ⟨b, o, hbo, _⟩ := HIN.out.wr.place (by rw [cellsOf_length _ 18 PWait.cells_length, HIN.out.wl]; omega)
      have hrd := HIN.out.wr.keep (Keep.of_below HR1.out.below (Nat.le_refl _) (fun _ => False)) (fun _ _ _ => id)
      rw [hbo] at hrd
      rw [hbo] at g1
      have HCE := Lib.hid (wait_cells_at hrd hx)
      have HX := Lib.hid hx
      have HP := Lib.hid (prevW_succ hx)
      have HBAD := Lib.hid (fun h => recE_2 HS1.out (waitsB_bad hx h))
      have HEQ := Lib.hid (waitAt_eq (tick := v.x.tick) hx)
      clear hx hrd hbo
      generalize prevW v.x.ws k = pv at *
      have hc2 : x.number ≤ pv ∨ (pv < x.number ∧ x.since < 0) ∨ (pv < x.number ∧ 0 ≤ x.since ∧ v.x.tick < x.since) ∨ (pv < x.number ∧ 0 ≤ x.since ∧ x.since ≤ v.x.tick) := by omega
      rcases hc2 with h1 | ⟨h1, h2⟩ | ⟨h1, h2, h3⟩ | ⟨h1, h2, h3⟩
      · have HF := Lib.hid (HBAD.out (by omega))
        go_wp2_with (first | ((with_reducible refine wpList_load_elem (o := ⟨some 38, _, _, _, _, _⟩) ?_ 79 (.tmp 37) ?_ b (o + k * 18) ?_ x.cells #[.int .u8 x.r.i0, .int .u8 x.r.i1, .int .u8 x.r.i2, .int .u8 x.r.i3, .int .u8 x.r.i4, .int .u8 x.r.i5, .int .u8 x.r.i6, .int .u8 x.r.i7, .int .i16 x.r.fx, .int .i16 x.r.fy, .int .i16 x.r.tx, .int .i16 x.r.ty, .int .u8 x.r.seats, .int .u8 x.r.classes, .int .i64 x.r.base, .int .i64 x.r.ttl, .int .i64 x.since, .int .i64 x.number] ?_ _ HCE.out Tryz.underlying79 ?_ ?_ ?_); rfl; rfl; rfl; rfl; rfl; exact sz_wait) | ((with_reducible refine wpList_store_new (o := ⟨none, .store 79 (.tmp 5) (.tmp 38), _, _, _, _⟩) ?_ 79 (.tmp 5) (.tmp 38) ?_ _ #[.int .u8 x.r.i0, .int .u8 x.r.i1, .int .u8 x.r.i2, .int .u8 x.r.i3, .int .u8 x.r.i4, .int .u8 x.r.i5, .int .u8 x.r.i6, .int .u8 x.r.i7, .int .i16 x.r.fx, .int .i16 x.r.fy, .int .i16 x.r.tx, .int .i16 x.r.ty, .int .u8 x.r.seats, .int .u8 x.r.classes, .int .i64 x.r.base, .int .i64 x.r.ttl, .int .i64 x.since, .int .i64 x.number] ?_ ?_ x.cells ?_ ?_ ?_ x.cells_one ?_); rfl; rfl; rfl; rfl; rfl; exact sz_wait; rfl))
        go_ret
        exact ⟨by rw [HF.out]; rfl, (HR1.out.one _).below⟩
      · have HF := Lib.hid (HBAD.out (by omega))
        go_wp2_with (first | ((with_reducible refine wpList_load_elem (o := ⟨some 38, _, _, _, _, _⟩) ?_ 79 (.tmp 37) ?_ b (o + k * 18) ?_ x.cells #[.int .u8 x.r.i0, .int .u8 x.r.i1, .int .u8 x.r.i2, .int .u8 x.r.i3, .int .u8 x.r.i4, .int .u8 x.r.i5, .int .u8 x.r.i6, .int .u8 x.r.i7, .int .i16 x.r.fx, .int .i16 x.r.fy, .int .i16 x.r.tx, .int .i16 x.r.ty, .int .u8 x.r.seats, .int .u8 x.r.classes, .int .i64 x.r.base, .int .i64 x.r.ttl, .int .i64 x.since, .int .i64 x.number] ?_ _ HCE.out Tryz.underlying79 ?_ ?_ ?_); rfl; rfl; rfl; rfl; rfl; exact sz_wait) | ((with_reducible refine wpList_store_new (o := ⟨none, .store 79 (.tmp 5) (.tmp 38), _, _, _, _⟩) ?_ 79 (.tmp 5) (.tmp 38) ?_ _ #[.int .u8 x.r.i0, .int .u8 x.r.i1, .int .u8 x.r.i2, .int .u8 x.r.i3, .int .u8 x.r.i4, .int .u8 x.r.i5, .int .u8 x.r.i6, .int .u8 x.r.i7, .int .i16 x.r.fx, .int .i16 x.r.fy, .int .i16 x.r.tx, .int .i16 x.r.ty, .int .u8 x.r.seats, .int .u8 x.r.classes, .int .i64 x.r.base, .int .i64 x.r.ttl, .int .i64 x.since, .int .i64 x.number] ?_ ?_ x.cells ?_ ?_ ?_ x.cells_one ?_); rfl; rfl; rfl; rfl; rfl; exact sz_wait; rfl))
        go_ret
        exact ⟨by rw [HF.out]; rfl, (HR1.out.one _).below⟩
      · have HF := Lib.hid (HBAD.out (by omega))
        go_wp2_with (first | ((with_reducible refine wpList_load_elem (o := ⟨some 38, _, _, _, _, _⟩) ?_ 79 (.tmp 37) ?_ b (o + k * 18) ?_ x.cells #[.int .u8 x.r.i0, .int .u8 x.r.i1, .int .u8 x.r.i2, .int .u8 x.r.i3, .int .u8 x.r.i4, .int .u8 x.r.i5, .int .u8 x.r.i6, .int .u8 x.r.i7, .int .i16 x.r.fx, .int .i16 x.r.fy, .int .i16 x.r.tx, .int .i16 x.r.ty, .int .u8 x.r.seats, .int .u8 x.r.classes, .int .i64 x.r.base, .int .i64 x.r.ttl, .int .i64 x.since, .int .i64 x.number] ?_ _ HCE.out Tryz.underlying79 ?_ ?_ ?_); rfl; rfl; rfl; rfl; rfl; exact sz_wait) | ((with_reducible refine wpList_store_new (o := ⟨none, .store 79 (.tmp 5) (.tmp 38), _, _, _, _⟩) ?_ 79 (.tmp 5) (.tmp 38) ?_ _ #[.int .u8 x.r.i0, .int .u8 x.r.i1, .int .u8 x.r.i2, .int .u8 x.r.i3, .int .u8 x.r.i4, .int .u8 x.r.i5, .int .u8 x.r.i6, .int .u8 x.r.i7, .int .i16 x.r.fx, .int .i16 x.r.fy, .int .i16 x.r.tx, .int .i16 x.r.ty, .int .u8 x.r.seats, .int .u8 x.r.classes, .int .i64 x.r.base, .int .i64 x.r.ttl, .int .i64 x.since, .int .i64 x.number] ?_ ?_ x.cells ?_ ?_ ?_ x.cells_one ?_); rfl; rfl; rfl; rfl; rfl; exact sz_wait; rfl))
        go_ret
        exact ⟨by rw [HF.out]; rfl, (HR1.out.one _).below⟩
      · have HA := Lib.hid (upto_next HALL.out (show waitAt v.x.tick v.x.ws k = true by rw [HEQ.out]; exact decide_eq_true (by omega)))
        have HN := Lib.hid (HR1.out.one (.cells #[.int .u8 x.r.i0, .int .u8 x.r.i1, .int .u8 x.r.i2, .int .u8 x.r.i3, .int .u8 x.r.i4, .int .u8 x.r.i5, .int .u8 x.r.i6, .int .u8 x.r.i7, .int .i16 x.r.fx, .int .i16 x.r.fy, .int .i16 x.r.tx, .int .i16 x.r.ty, .int .u8 x.r.seats, .int .u8 x.r.classes, .int .i64 x.r.base, .int .i64 x.r.ttl, .int .i64 x.since, .int .i64 x.number] 79))
        go_wp2_with (first | ((with_reducible refine wpList_load_elem (o := ⟨some 38, _, _, _, _, _⟩) ?_ 79 (.tmp 37) ?_ b (o + k * 18) ?_ x.cells #[.int .u8 x.r.i0, .int .u8 x.r.i1, .int .u8 x.r.i2, .int .u8 x.r.i3, .int .u8 x.r.i4, .int .u8 x.r.i5, .int .u8 x.r.i6, .int .u8 x.r.i7, .int .i16 x.r.fx, .int .i16 x.r.fy, .int .i16 x.r.tx, .int .i16 x.r.ty, .int .u8 x.r.seats, .int .u8 x.r.classes, .int .i64 x.r.base, .int .i64 x.r.ttl, .int .i64 x.since, .int .i64 x.number] ?_ _ HCE.out Tryz.underlying79 ?_ ?_ ?_); rfl; rfl; rfl; rfl; rfl; exact sz_wait) | ((with_reducible refine wpList_store_new (o := ⟨none, .store 79 (.tmp 5) (.tmp 38), _, _, _, _⟩) ?_ 79 (.tmp 5) (.tmp 38) ?_ _ #[.int .u8 x.r.i0, .int .u8 x.r.i1, .int .u8 x.r.i2, .int .u8 x.r.i3, .int .u8 x.r.i4, .int .u8 x.r.i5, .int .u8 x.r.i6, .int .u8 x.r.i7, .int .i16 x.r.fx, .int .i16 x.r.fy, .int .i16 x.r.tx, .int .i16 x.r.ty, .int .u8 x.r.seats, .int .u8 x.r.classes, .int .i64 x.r.base, .int .i64 x.r.ttl, .int .i64 x.since, .int .i64 x.number] ?_ ?_ x.cells ?_ ?_ ?_ x.cells_one ?_); rfl; rfl; rfl; rfl; rfl; exact sz_wait; rfl))
        go_roundw
        case rel => exact Lib.hid ⟨k + 1, by rw [HP.out], by go_num, by omega, HA.out, HN.out⟩
        case measure => simp [intOf]; omega
    · obtain rfl : v.wn = k := by omega
      have HS2 := Lib.hid (show waitsB v.x = true from allF_good (fun j hj => HALL.out j (by rw [HIN.out.wl] at hj; exact hj)))
      clear HALL hlt hk
      as_aux_lemma =>
        go_wp2_with fail
        go_loopw [3, 6] (fun a i wr => Hid (∃ k : Nat, a = .int .i64 (prevD v.x.ds k) ∧ i = .int .i64 k ∧ k ≤ v.kn ∧ (∀ j, j < k → idleAt v.x.ds j = true) ∧ RbRel w v H0 wr)) (fun _ i _ => v.kn - (intOf i).toNat)
        case atStart => exact Lib.hid ⟨0, rfl, rfl, Nat.zero_le _, upto_none, HR1.out⟩
        case round =>
          clear g0 g1 g2 g3 g4 g5 g6 g7 g8 hs0
          obtain ⟨k, rfl, rfl, hk, hall, hrel1⟩ := hrel.out
          clear hrel
          obtain ⟨g0, g1, g2, g3, g4, g5, g6, g7, g8⟩ := cells9 hrel1.g
          have hs0 : H0 < wr.heap.size := lt_of_block hrel1.g
          have HR2 := Lib.hid hrel1
          have HALL := Lib.hid hall
          clear hrel1 hall
          by_cases hlt : k < v.kn
          · obtain ⟨x, hx⟩ : ∃ x, v.x.ds[k]? = some x := ⟨v.x.ds[k]'(by rw [HIN.out.kl]; exact hlt), List.getElem?_eq_getElem _⟩
            obtain ⟨b, o, hbo, _⟩ := HIN.out.kr.place (by rw [cellsOf_length _ 14 PIdle.cells_length, HIN.out.kl]; omega)
            have hrd := HIN.out.kr.keep (Keep.of_below HR2.out.below (Nat.le_refl _) (fun _ => False)) (fun _ _ _ => id)
            rw [hbo] at hrd
            rw [hbo] at g2
            obtain ⟨k0, k1, k2, k3, k4, k5, k6, k7, k8, k9, k10, k11, k12, k13⟩ := idle_at hrd hx
            have HX := Lib.hid hx
            have HP := Lib.hid (prevD_succ hx)
            have HBAD := Lib.hid (fun h => recE_3 HS1.out HS2.out (idlesB_bad hx h))
            have HEQ := Lib.hid (idleAt_eq hx)
            clear hx hrd hbo
            generalize prevD v.x.ds k = pv at *
            by_cases h1 : x.number ≤ pv
            · have HF := Lib.hid (HBAD.out (by omega))
              go_wp2_with fail
              go_ret
              exact ⟨by rw [HF.out]; rfl, HR2.out.below⟩
            · have h1' : pv < x.number := by omega
              have HA := Lib.hid (upto_next HALL.out (show idleAt v.x.ds k = true by rw [HEQ.out]; exact decide_eq_true h1'))
              have HN := HR2
              clear h1
              go_wp2_with fail
              go_roundw
              case rel => exact Lib.hid ⟨k + 1, by rw [HP.out], by go_num, by omega, HA.out, HN.out⟩
              case measure => simp [intOf]; omega
          · obtain rfl : v.kn = k := by omega
            have HS3 := Lib.hid (show idlesB v.x = true from allF_good (fun j hj => HALL.out j (by rw [HIN.out.kl] at hj; exact hj)))
            clear HALL hlt hk
            have HIW := Lib.hid (HIN.out.keep HR2.out.below)
            have HSH := Lib.hid (show shapeB v.x = (graphF v.x.rows v.x.cols v.x.es && decide (v.x.rows = v.wn) && decide (v.x.cols = v.kn)) by unfold shapeB; rw [HIN.out.wl, HIN.out.kl])
            go_wp2_with fail
            refine (right_any wr v.x.rows v.x.cols v.eo v.en v.ec v.x.es HIW.out.el HIW.out.er (by omega)).mono ?_
            rintro e w1 ⟨rfl, hb1⟩
            have HR3 := Lib.hid (HR2.out.keep hb1)
            clear hb1 HIW g0 g1 g2 g3 g4 g5 g6 g7 g8 hs0
            obtain ⟨g0, g1, g2, g3, g4, g5, g6, g7, g8⟩ := cells9 HR3.out.g
            cases hgf : graphF v.x.rows v.x.cols v.x.es with
            | false =>
              have HF := Lib.hid (recE_4 HS1.out HS2.out HS3.out (by rw [HSH.out, hgf]; rfl))
              rw [show graphB v.x.rows v.x.cols v.x.es = false by simp [graphB, graphE, hgf]]
              clear hgf
              go_wp2_with fail
              go_ret
              exact ⟨by rw [HF.out]; rfl, HR3.out.below⟩
            | true =>
              rw [show graphB v.x.rows v.x.cols v.x.es = true by simp [graphB, graphE, hgf]]
              rw [hgf] at HSH
              have HGF := Lib.hid hgf
              clear hgf
              by_cases h5 : v.x.rows = v.wn
              · by_cases h6 : v.x.cols = v.kn
                · have HS4 := Lib.hid (show shapeB v.x = true by rw [HSH.out, decide_eq_true h5, decide_eq_true h6]; rfl)
                  have b5 : (v.x.rows != (v.wn : Int)) = false := by simp [h5]
                  have b6 : (v.x.cols != (v.kn : Int)) = false := by simp [h6]
                  clear h5 h6
                  go_wp2_with fail
                  have HIW := Lib.hid (HIN.out.keep HR3.out.below)
                  as_aux_lemma =>
                    refine (rmatching_any w1 v.x.rows v.x.cols v.eo v.po v.en v.ec v.pn v.pc v.x.es v.x.ps HGF.out HIW.out.el HIW.out.er (by omega) HIW.out.pl HIW.out.pr (by omega)).mono ?_
                    rintro e w2 ⟨rfl, hb2⟩
                    have HR4 := Lib.hid (HR3.out.keep hb2)
                    clear hb2 HIW g0 g1 g2 g3 g4 g5 g6 g7 g8
                    obtain ⟨g0, g1, g2, g3, g4, g5, g6, g7, g8⟩ := cells9 HR4.out.g
                    cases hm : matchF v.x.es v.x.ps with
                    | false =>
                      have HF := Lib.hid (recE_5 HS1.out HS2.out HS3.out HS4.out hm)
                      clear hm
                      go_wp2_with fail
                      go_ret
                      exact ⟨by rw [HF.out]; rfl, HR4.out.below⟩
                    | true =>
                      have HS5 := Lib.hid hm
                      clear hm
                      as_aux_lemma =>
                        have HLB := Lib.hid (show lengthsB v.x.rows v.x.cols v.x.ys v.x.zs = (decide ((v.yn : Int) = v.x.rows) && decide ((v.zn : Int) = v.x.cols)) by unfold lengthsB; rw [HIN.out.yl, HIN.out.zl])
                        by_cases h7 : (v.yn : Int) = v.x.rows
                        · have b7 : ((v.yn : Int) != v.x.rows) = false := by simp [h7]
                          by_cases h8 : (v.zn : Int) = v.x.cols
                          · have HF := Lib.hid (recE_7 HS1.out HS2.out HS3.out HS4.out HS5.out (by rw [HLB.out, decide_eq_true h7, decide_eq_true h8]; rfl))
                            have b8 : ((v.zn : Int) != v.x.cols) = false := by simp [h8]
                            clear h7 h8
                            go_wp2_with fail
                            go_ret
                            exact ⟨by rw [HF.out]; rfl, HR4.out.below⟩
                          · have HF := Lib.hid (recE_6 HS1.out HS2.out HS3.out HS4.out HS5.out (by rw [HLB.out, decide_eq_false h8]; simp))
                            have b8 : ((v.zn : Int) != v.x.cols) = true := by simp [h8]
                            clear h7 h8
                            go_wp2_with fail
                            go_ret
                            exact ⟨by rw [HF.out]; rfl, HR4.out.below⟩
                        · have HF := Lib.hid (recE_6 HS1.out HS2.out HS3.out HS4.out HS5.out (by rw [HLB.out, decide_eq_false h7]; simp))
                          have b7 : ((v.yn : Int) != v.x.rows) = true := by simp [h7]
                          clear h7
                          go_wp2_with fail
                          go_ret
                          exact ⟨by rw [HF.out]; rfl, HR4.out.below⟩
                · have HF := Lib.hid (recE_4 HS1.out HS2.out HS3.out (by rw [HSH.out, decide_eq_false h6]; simp))
                  have b5 : (v.x.rows != (v.wn : Int)) = false := by simp [h5]
                  have b6 : (v.x.cols != (v.kn : Int)) = true := by simp [h6]
                  clear h5 h6
                  go_wp2_with fail
                  go_ret
                  exact ⟨by rw [HF.out]; rfl, HR3.out.below⟩
              · have HF := Lib.hid (recE_4 HS1.out HS2.out HS3.out (by rw [HSH.out, decide_eq_false h5]; simp))
                have b5 : (v.x.rows != (v.wn : Int)) = true := by simp [h5]
                clear h5
                go_wp2_with fail
                go_ret
                exact ⟨by rw [HF.out]; rfl, HR3.out.below⟩
end Go.Proofs.YtcaicgipibcicaaGreat

/- The record's error, in the reference of chapter 20 and in the program. Printed by wip/genrecck.py. -/
namespace Go.Proofs.YtcaicgipibcicaaGreat
set_option maxRecDepth 100000
set_option linter.unusedVariables false
set_option linter.unusedSimpArgs false
open Go.RowKit Go.Sort

set_option maxHeartbeats 16000000 in
theorem jcheck_any (w : World) (v : RV) (hin : v.In w) : Calls Tryz.prog 125 #[.agg #[.int .i64 v.x.tick, .slice v.wo v.wn v.wc, .slice v.ko v.kn v.kc, .int .i64 v.x.rows, .int .i64 v.x.cols, .slice v.eo v.en v.ec, .slice v.po v.pn v.pc, .slice v.yo v.yn v.yc, .slice v.zo v.zn v.zc]] w fun e w' => e = .returned (.int .i64 (recE v.x)) ∧ Below w.heap.size w w' := by
  have HIN := Lib.hid hin
  have wb := hin.wb
  have kb := hin.kb
  have eb := hin.eb
  have pb := hin.pb
  have yb := hin.yb
  have zb := hin.zb
  clear hin
  have HW := Lib.hid (RbRel.begin w v)
  have hcase : (v.x.tick < 1 ∨ (1 ≤ v.x.tick ∧ 1099511627776 < v.x.tick) ∨ (1 ≤ v.x.tick ∧ v.x.tick ≤ 1099511627776 ∧ 64 < v.wn) ∨ (1 ≤ v.x.tick ∧ v.x.tick ≤ 1099511627776 ∧ v.wn ≤ 64 ∧ 64 < v.kn)) ∨ (1 ≤ v.x.tick ∧ v.x.tick ≤ 1099511627776 ∧ v.wn ≤ 64 ∧ v.kn ≤ 64) := by omega
  rcases hcase with h | ⟨c1, c2, c3, c4⟩
  · have HF := Lib.hid (recE_1 (x := v.x) (decide_eq_false (by rw [HIN.out.wl, HIN.out.kl]; omega)))
    rcases h with c1 | ⟨c1, c2⟩ | ⟨c1, c2, c3⟩ | ⟨c1, c2, c3, c4⟩
    all_goals as_aux_lemma =>
      go_enter Tryz.func125, Tryz.ntmps125
      go_wp2_with fail
      all_goals
        go_ret
        exact ⟨by rw [HF.out]; rfl, HW.out.below⟩
  have HS1 := Lib.hid (show sizesB v.x = true from decide_eq_true (by rw [HIN.out.wl, HIN.out.kl]; omega))
  go_enter Tryz.func125, Tryz.ntmps125
  go_wp2_with fail
  generalize w.alloc (.cells #[.int .i64 v.x.tick, .slice v.wo v.wn v.wc, .slice v.ko v.kn v.kc, .int .i64 v.x.rows, .int .i64 v.x.cols, .slice v.eo v.en v.ec, .slice v.po v.pn v.pc, .slice v.yo v.yn v.yc, .slice v.zo v.zn v.zc] 34) = W at *
  have HHE := Lib.hid (show ∃ H0, w.heap.size = H0 from ⟨_, rfl⟩)
  obtain ⟨H0, hH0⟩ := HHE.out
  rw [hH0] at HW
  rw [hH0]
  have HH := Lib.hid hH0
  clear hH0 HHE
  obtain ⟨wo, hwo⟩ : ∃ wo, v.wo = wo := ⟨_, rfl⟩
  rw [hwo]
  have HWO := Lib.hid hwo
  clear hwo
  go_loopw [3, 32] (fun a i wr => Hid (∃ k : Nat, a = .int .i64 (prevW v.x.ws k) ∧ i = .int .i64 k ∧ k ≤ v.wn ∧ (∀ j, j < k → waitAt v.x.tick v.x.ws j = true) ∧ RbRel w v H0 wr)) (fun _ i _ => v.wn - (intOf i).toNat)
  case atStart => exact Lib.hid ⟨0, rfl, rfl, Nat.zero_le _, upto_none, HW.out⟩
  case round =>
    obtain ⟨k, rfl, rfl, hk, hall, hrel1⟩ := hrel.out
    clear hrel
    obtain ⟨g0, g1, g2, g3, g4, g5, g6, g7, g8⟩ := cells9 hrel1.g
    have hs0 : H0 < wr.heap.size := lt_of_block hrel1.g
    have HR1 := Lib.hid hrel1
    have HALL := Lib.hid hall
    clear hrel1 hall
    by_cases hlt : k < v.wn
    · obtain ⟨x, hx⟩ : ∃ x, v.x.ws[k]? = some x := ⟨v.x.ws[k]'(by rw [HIN.out.wl]; exact hlt), List.getElem?_eq_getElem _⟩
      obtain ⟨b, o, hbo, _⟩ := HIN.out.wr.place (by rw [cellsOf_length _ 18 PWait.cells_length, HIN.out.wl]; omega)
      have hrd := HIN.out.wr.keep (Keep.of_below HR1.out.below (Nat.le_refl _) (fun _ => False)) (fun _ _ _ => id)
      rw [hbo] at hrd
      obtain rfl : wo = some ⟨b, o, none⟩ := by rw [← HWO.out]; exact hbo
      have HCE := Lib.hid (wait_cells_at hrd hx)
      have HX := Lib.hid hx
      have HP := Lib.hid (prevW_succ hx)
      have HBAD := Lib.hid (fun h => recE_2 HS1.out (waitsB_bad hx h))
      have HEQ := Lib.hid (waitAt_eq (tick := v.x.tick) hx)
      clear hx hrd hbo
      generalize prevW v.x.ws k = pv at *
      have hc2 : x.number ≤ pv ∨ (pv < x.number ∧ x.since < 0) ∨ (pv < x.number ∧ 0 ≤ x.since ∧ v.x.tick < x.since) ∨ (pv < x.number ∧ 0 ≤ x.since ∧ x.since ≤ v.x.tick) := by omega
      rcases hc2 with h1 | ⟨h1, h2⟩ | ⟨h1, h2, h3⟩ | ⟨h1, h2, h3⟩
      · have HF := Lib.hid (HBAD.out (by omega))
        go_wp2_with (first | ((with_reducible refine wpList_load_elem (o := ⟨some 35, _, _, _, _, _⟩) ?_ 79 (.tmp 34) ?_ b (o + k * 18) ?_ x.cells #[.int .u8 x.r.i0, .int .u8 x.r.i1, .int .u8 x.r.i2, .int .u8 x.r.i3, .int .u8 x.r.i4, .int .u8 x.r.i5, .int .u8 x.r.i6, .int .u8 x.r.i7, .int .i16 x.r.fx, .int .i16 x.r.fy, .int .i16 x.r.tx, .int .i16 x.r.ty, .int .u8 x.r.seats, .int .u8 x.r.classes, .int .i64 x.r.base, .int .i64 x.r.ttl, .int .i64 x.since, .int .i64 x.number] ?_ _ HCE.out Tryz.underlying79 ?_ ?_ ?_); rfl; rfl; rfl; rfl; rfl; exact sz_wait) | ((with_reducible refine wpList_store_new (o := ⟨none, .store 79 (.tmp 5) (.tmp 35), _, _, _, _⟩) ?_ 79 (.tmp 5) (.tmp 35) ?_ _ #[.int .u8 x.r.i0, .int .u8 x.r.i1, .int .u8 x.r.i2, .int .u8 x.r.i3, .int .u8 x.r.i4, .int .u8 x.r.i5, .int .u8 x.r.i6, .int .u8 x.r.i7, .int .i16 x.r.fx, .int .i16 x.r.fy, .int .i16 x.r.tx, .int .i16 x.r.ty, .int .u8 x.r.seats, .int .u8 x.r.classes, .int .i64 x.r.base, .int .i64 x.r.ttl, .int .i64 x.since, .int .i64 x.number] ?_ ?_ x.cells ?_ ?_ ?_ x.cells_one ?_); rfl; rfl; rfl; rfl; rfl; exact sz_wait; rfl))
        go_ret
        exact ⟨by rw [HF.out]; rfl, (HR1.out.one _).below⟩
      · have HF := Lib.hid (HBAD.out (by omega))
        go_wp2_with (first | ((with_reducible refine wpList_load_elem (o := ⟨some 35, _, _, _, _, _⟩) ?_ 79 (.tmp 34) ?_ b (o + k * 18) ?_ x.cells #[.int .u8 x.r.i0, .int .u8 x.r.i1, .int .u8 x.r.i2, .int .u8 x.r.i3, .int .u8 x.r.i4, .int .u8 x.r.i5, .int .u8 x.r.i6, .int .u8 x.r.i7, .int .i16 x.r.fx, .int .i16 x.r.fy, .int .i16 x.r.tx, .int .i16 x.r.ty, .int .u8 x.r.seats, .int .u8 x.r.classes, .int .i64 x.r.base, .int .i64 x.r.ttl, .int .i64 x.since, .int .i64 x.number] ?_ _ HCE.out Tryz.underlying79 ?_ ?_ ?_); rfl; rfl; rfl; rfl; rfl; exact sz_wait) | ((with_reducible refine wpList_store_new (o := ⟨none, .store 79 (.tmp 5) (.tmp 35), _, _, _, _⟩) ?_ 79 (.tmp 5) (.tmp 35) ?_ _ #[.int .u8 x.r.i0, .int .u8 x.r.i1, .int .u8 x.r.i2, .int .u8 x.r.i3, .int .u8 x.r.i4, .int .u8 x.r.i5, .int .u8 x.r.i6, .int .u8 x.r.i7, .int .i16 x.r.fx, .int .i16 x.r.fy, .int .i16 x.r.tx, .int .i16 x.r.ty, .int .u8 x.r.seats, .int .u8 x.r.classes, .int .i64 x.r.base, .int .i64 x.r.ttl, .int .i64 x.since, .int .i64 x.number] ?_ ?_ x.cells ?_ ?_ ?_ x.cells_one ?_); rfl; rfl; rfl; rfl; rfl; exact sz_wait; rfl))
        go_ret
        exact ⟨by rw [HF.out]; rfl, (HR1.out.one _).below⟩
      · have HF := Lib.hid (HBAD.out (by omega))
        go_wp2_with (first | ((with_reducible refine wpList_load_elem (o := ⟨some 35, _, _, _, _, _⟩) ?_ 79 (.tmp 34) ?_ b (o + k * 18) ?_ x.cells #[.int .u8 x.r.i0, .int .u8 x.r.i1, .int .u8 x.r.i2, .int .u8 x.r.i3, .int .u8 x.r.i4, .int .u8 x.r.i5, .int .u8 x.r.i6, .int .u8 x.r.i7, .int .i16 x.r.fx, .int .i16 x.r.fy, .int .i16 x.r.tx, .int .i16 x.r.ty, .int .u8 x.r.seats, .int .u8 x.r.classes, .int .i64 x.r.base, .int .i64 x.r.ttl, .int .i64 x.since, .int .i64 x.number] ?_ _ HCE.out Tryz.underlying79 ?_ ?_ ?_); rfl; rfl; rfl; rfl; rfl; exact sz_wait) | ((with_reducible refine wpList_store_new (o := ⟨none, .store 79 (.tmp 5) (.tmp 35), _, _, _, _⟩) ?_ 79 (.tmp 5) (.tmp 35) ?_ _ #[.int .u8 x.r.i0, .int .u8 x.r.i1, .int .u8 x.r.i2, .int .u8 x.r.i3, .int .u8 x.r.i4, .int .u8 x.r.i5, .int .u8 x.r.i6, .int .u8 x.r.i7, .int .i16 x.r.fx, .int .i16 x.r.fy, .int .i16 x.r.tx, .int .i16 x.r.ty, .int .u8 x.r.seats, .int .u8 x.r.classes, .int .i64 x.r.base, .int .i64 x.r.ttl, .int .i64 x.since, .int .i64 x.number] ?_ ?_ x.cells ?_ ?_ ?_ x.cells_one ?_); rfl; rfl; rfl; rfl; rfl; exact sz_wait; rfl))
        go_ret
        exact ⟨by rw [HF.out]; rfl, (HR1.out.one _).below⟩
      · have HA := Lib.hid (upto_next HALL.out (show waitAt v.x.tick v.x.ws k = true by rw [HEQ.out]; exact decide_eq_true (by omega)))
        have HN := Lib.hid (HR1.out.one (.cells #[.int .u8 x.r.i0, .int .u8 x.r.i1, .int .u8 x.r.i2, .int .u8 x.r.i3, .int .u8 x.r.i4, .int .u8 x.r.i5, .int .u8 x.r.i6, .int .u8 x.r.i7, .int .i16 x.r.fx, .int .i16 x.r.fy, .int .i16 x.r.tx, .int .i16 x.r.ty, .int .u8 x.r.seats, .int .u8 x.r.classes, .int .i64 x.r.base, .int .i64 x.r.ttl, .int .i64 x.since, .int .i64 x.number] 79))
        go_wp2_with (first | ((with_reducible refine wpList_load_elem (o := ⟨some 35, _, _, _, _, _⟩) ?_ 79 (.tmp 34) ?_ b (o + k * 18) ?_ x.cells #[.int .u8 x.r.i0, .int .u8 x.r.i1, .int .u8 x.r.i2, .int .u8 x.r.i3, .int .u8 x.r.i4, .int .u8 x.r.i5, .int .u8 x.r.i6, .int .u8 x.r.i7, .int .i16 x.r.fx, .int .i16 x.r.fy, .int .i16 x.r.tx, .int .i16 x.r.ty, .int .u8 x.r.seats, .int .u8 x.r.classes, .int .i64 x.r.base, .int .i64 x.r.ttl, .int .i64 x.since, .int .i64 x.number] ?_ _ HCE.out Tryz.underlying79 ?_ ?_ ?_); rfl; rfl; rfl; rfl; rfl; exact sz_wait) | ((with_reducible refine wpList_store_new (o := ⟨none, .store 79 (.tmp 5) (.tmp 35), _, _, _, _⟩) ?_ 79 (.tmp 5) (.tmp 35) ?_ _ #[.int .u8 x.r.i0, .int .u8 x.r.i1, .int .u8 x.r.i2, .int .u8 x.r.i3, .int .u8 x.r.i4, .int .u8 x.r.i5, .int .u8 x.r.i6, .int .u8 x.r.i7, .int .i16 x.r.fx, .int .i16 x.r.fy, .int .i16 x.r.tx, .int .i16 x.r.ty, .int .u8 x.r.seats, .int .u8 x.r.classes, .int .i64 x.r.base, .int .i64 x.r.ttl, .int .i64 x.since, .int .i64 x.number] ?_ ?_ x.cells ?_ ?_ ?_ x.cells_one ?_); rfl; rfl; rfl; rfl; rfl; exact sz_wait; rfl))
        go_roundw
        case rel => exact Lib.hid ⟨k + 1, by rw [HP.out], by go_num, by omega, HA.out, HN.out⟩
        case measure => simp [intOf]; omega
    · obtain rfl : v.wn = k := by omega
      have HS2 := Lib.hid (show waitsB v.x = true from allF_good (fun j hj => HALL.out j (by rw [HIN.out.wl] at hj; exact hj)))
      clear HALL hlt hk
      as_aux_lemma =>
        go_wp2_with fail
        obtain ⟨ko, hko⟩ : ∃ ko, v.ko = ko := ⟨_, rfl⟩
        rw [hko]
        have HKO := Lib.hid hko
        clear hko
        go_loopw [3, 58] (fun a i wr => Hid (∃ k : Nat, a = .int .i64 (prevD v.x.ds k) ∧ i = .int .i64 k ∧ k ≤ v.kn ∧ (∀ j, j < k → idleAt v.x.ds j = true) ∧ RbRel w v H0 wr)) (fun _ i _ => v.kn - (intOf i).toNat)
        case atStart => exact Lib.hid ⟨0, rfl, rfl, Nat.zero_le _, upto_none, HR1.out⟩
        case round =>
          clear g0 g1 g2 g3 g4 g5 g6 g7 g8 hs0
          obtain ⟨k, rfl, rfl, hk, hall, hrel1⟩ := hrel.out
          clear hrel
          obtain ⟨g0, g1, g2, g3, g4, g5, g6, g7, g8⟩ := cells9 hrel1.g
          have hs0 : H0 < wr.heap.size := lt_of_block hrel1.g
          have HR2 := Lib.hid hrel1
          have HALL := Lib.hid hall
          clear hrel1 hall
          by_cases hlt : k < v.kn
          · obtain ⟨x, hx⟩ : ∃ x, v.x.ds[k]? = some x := ⟨v.x.ds[k]'(by rw [HIN.out.kl]; exact hlt), List.getElem?_eq_getElem _⟩
            obtain ⟨b, o, hbo, _⟩ := HIN.out.kr.place (by rw [cellsOf_length _ 14 PIdle.cells_length, HIN.out.kl]; omega)
            have hrd := HIN.out.kr.keep (Keep.of_below HR2.out.below (Nat.le_refl _) (fun _ => False)) (fun _ _ _ => id)
            rw [hbo] at hrd
            obtain rfl : ko = some ⟨b, o, none⟩ := by rw [← HKO.out]; exact hbo
            have HCE := Lib.hid (idle_cells_at hrd hx)
            have HX := Lib.hid hx
            have HP := Lib.hid (prevD_succ hx)
            have HBAD := Lib.hid (fun h => recE_3 HS1.out HS2.out (idlesB_bad hx h))
            have HEQ := Lib.hid (idleAt_eq hx)
            clear hx hrd hbo
            generalize prevD v.x.ds k = pv at *
            by_cases h1 : x.number ≤ pv
            · have HF := Lib.hid (HBAD.out (by omega))
              go_wp2_with (first | ((with_reducible refine wpList_load_elem (o := ⟨some 61, _, _, _, _, _⟩) ?_ 83 (.tmp 60) ?_ b (o + k * 14) ?_ x.cells #[.int .u8 x.d.i0, .int .u8 x.d.i1, .int .u8 x.d.i2, .int .u8 x.d.i3, .int .u8 x.d.i4, .int .u8 x.d.i5, .int .u8 x.d.i6, .int .u8 x.d.i7, .int .i16 x.d.ax, .int .i16 x.d.ay, .int .u8 x.d.seats, .int .u8 x.d.cls, .int .i64 x.d.radius, .int .i64 x.number] ?_ _ HCE.out Tryz.underlying83 ?_ ?_ ?_); rfl; rfl; rfl; rfl; rfl; exact sz_idle) | ((with_reducible refine wpList_store_new (o := ⟨none, .store 83 (.tmp 7) (.tmp 61), _, _, _, _⟩) ?_ 83 (.tmp 7) (.tmp 61) ?_ _ #[.int .u8 x.d.i0, .int .u8 x.d.i1, .int .u8 x.d.i2, .int .u8 x.d.i3, .int .u8 x.d.i4, .int .u8 x.d.i5, .int .u8 x.d.i6, .int .u8 x.d.i7, .int .i16 x.d.ax, .int .i16 x.d.ay, .int .u8 x.d.seats, .int .u8 x.d.cls, .int .i64 x.d.radius, .int .i64 x.number] ?_ ?_ x.cells ?_ ?_ ?_ x.cells_one ?_); rfl; rfl; rfl; rfl; rfl; exact sz_idle; rfl))
              go_ret
              exact ⟨by rw [HF.out]; rfl, (HR2.out.one _).below⟩
            · have h1' : pv < x.number := by omega
              have HA := Lib.hid (upto_next HALL.out (show idleAt v.x.ds k = true by rw [HEQ.out]; exact decide_eq_true h1'))
              have HN := Lib.hid (HR2.out.one (.cells #[.int .u8 x.d.i0, .int .u8 x.d.i1, .int .u8 x.d.i2, .int .u8 x.d.i3, .int .u8 x.d.i4, .int .u8 x.d.i5, .int .u8 x.d.i6, .int .u8 x.d.i7, .int .i16 x.d.ax, .int .i16 x.d.ay, .int .u8 x.d.seats, .int .u8 x.d.cls, .int .i64 x.d.radius, .int .i64 x.number] 83))
              clear h1
              go_wp2_with (first | ((with_reducible refine wpList_load_elem (o := ⟨some 61, _, _, _, _, _⟩) ?_ 83 (.tmp 60) ?_ b (o + k * 14) ?_ x.cells #[.int .u8 x.d.i0, .int .u8 x.d.i1, .int .u8 x.d.i2, .int .u8 x.d.i3, .int .u8 x.d.i4, .int .u8 x.d.i5, .int .u8 x.d.i6, .int .u8 x.d.i7, .int .i16 x.d.ax, .int .i16 x.d.ay, .int .u8 x.d.seats, .int .u8 x.d.cls, .int .i64 x.d.radius, .int .i64 x.number] ?_ _ HCE.out Tryz.underlying83 ?_ ?_ ?_); rfl; rfl; rfl; rfl; rfl; exact sz_idle) | ((with_reducible refine wpList_store_new (o := ⟨none, .store 83 (.tmp 7) (.tmp 61), _, _, _, _⟩) ?_ 83 (.tmp 7) (.tmp 61) ?_ _ #[.int .u8 x.d.i0, .int .u8 x.d.i1, .int .u8 x.d.i2, .int .u8 x.d.i3, .int .u8 x.d.i4, .int .u8 x.d.i5, .int .u8 x.d.i6, .int .u8 x.d.i7, .int .i16 x.d.ax, .int .i16 x.d.ay, .int .u8 x.d.seats, .int .u8 x.d.cls, .int .i64 x.d.radius, .int .i64 x.number] ?_ ?_ x.cells ?_ ?_ ?_ x.cells_one ?_); rfl; rfl; rfl; rfl; rfl; exact sz_idle; rfl))
              go_roundw
              case rel => exact Lib.hid ⟨k + 1, by rw [HP.out], by go_num, by omega, HA.out, HN.out⟩
              case measure => simp [intOf]; omega
          · obtain rfl : v.kn = k := by omega
            have HS3 := Lib.hid (show idlesB v.x = true from allF_good (fun j hj => HALL.out j (by rw [HIN.out.kl] at hj; exact hj)))
            clear HALL hlt hk
            have HIW := Lib.hid (HIN.out.keep HR2.out.below)
            have HSH := Lib.hid (show shapeB v.x = (graphF v.x.rows v.x.cols v.x.es && decide (v.x.rows = v.wn) && decide (v.x.cols = v.kn)) by unfold shapeB; rw [HIN.out.wl, HIN.out.kl])
            go_wp2_with fail
            refine (gcheck_any wr v.x.rows v.x.cols v.eo v.en v.ec v.x.es HIW.out.el HIW.out.er (by omega)).mono ?_
            rintro e w1 ⟨rfl, hb1⟩
            have HR3 := Lib.hid (HR2.out.keep hb1)
            clear hb1 HIW g0 g1 g2 g3 g4 g5 g6 g7 g8 hs0
            obtain ⟨g0, g1, g2, g3, g4, g5, g6, g7, g8⟩ := cells9 HR3.out.g
            cases hgf : graphF v.x.rows v.x.cols v.x.es with
            | false =>
              have HF := Lib.hid (recE_4 HS1.out HS2.out HS3.out (by rw [HSH.out, hgf]; rfl))
              rw [show graphE v.x.rows v.x.cols v.x.es = 170 by simp [graphE, hgf]]
              clear hgf
              go_wp2_with fail
              go_ret
              exact ⟨by rw [HF.out]; rfl, HR3.out.below⟩
            | true =>
              rw [show graphE v.x.rows v.x.cols v.x.es = 0 by simp [graphE, hgf]]
              rw [hgf] at HSH
              have HGF := Lib.hid hgf
              clear hgf
              by_cases h5 : v.x.rows = v.wn
              · by_cases h6 : v.x.cols = v.kn
                · have HS4 := Lib.hid (show shapeB v.x = true by rw [HSH.out, decide_eq_true h5, decide_eq_true h6]; rfl)
                  have b5 : (v.x.rows != (v.wn : Int)) = false := by simp [h5]
                  have b6 : (v.x.cols != (v.kn : Int)) = false := by simp [h6]
                  clear h5 h6
                  go_wp2_with fail
                  have HIW := Lib.hid (HIN.out.keep HR3.out.below)
                  as_aux_lemma =>
                    refine (certpairs_any w1 v.x.rows v.x.cols v.eo v.po v.en v.ec v.pn v.pc v.x.es v.x.ps HIW.out.el HIW.out.er (by omega) HIW.out.pl HIW.out.pr (by omega)).mono ?_
                    rintro e w2 ⟨rfl, hb2⟩
                    have HR4 := Lib.hid (HR3.out.keep hb2)
                    clear hb2 HIW g0 g1 g2 g3 g4 g5 g6 g7 g8
                    obtain ⟨g0, g1, g2, g3, g4, g5, g6, g7, g8⟩ := cells9 HR4.out.g
                    rw [pairsE_match HGF.out]
                    cases hm : matchF v.x.es v.x.ps with
                    | false =>
                      have HF := Lib.hid (recE_5 HS1.out HS2.out HS3.out HS4.out hm)
                      rw [matchE_no hm]
                      clear hm
                      go_wp2_with fail
                      go_ret
                      exact ⟨by rw [HF.out]; rfl, HR4.out.below⟩
                    | true =>
                      have HS5 := Lib.hid hm
                      rw [matchE_yes hm]
                      clear hm
                      as_aux_lemma =>
                        have HLB := Lib.hid (show lengthsB v.x.rows v.x.cols v.x.ys v.x.zs = (decide ((v.yn : Int) = v.x.rows) && decide ((v.zn : Int) = v.x.cols)) by unfold lengthsB; rw [HIN.out.yl, HIN.out.zl])
                        by_cases h7 : (v.yn : Int) = v.x.rows
                        · have b7 : ((v.yn : Int) != v.x.rows) = false := by simp [h7]
                          by_cases h8 : (v.zn : Int) = v.x.cols
                          · have HF := Lib.hid (recE_7 HS1.out HS2.out HS3.out HS4.out HS5.out (by rw [HLB.out, decide_eq_true h7, decide_eq_true h8]; rfl))
                            have b8 : ((v.zn : Int) != v.x.cols) = false := by simp [h8]
                            clear h7 h8
                            go_wp2_with fail
                            go_ret
                            exact ⟨by rw [HF.out]; rfl, HR4.out.below⟩
                          · have HF := Lib.hid (recE_6 HS1.out HS2.out HS3.out HS4.out HS5.out (by rw [HLB.out, decide_eq_false h8]; simp))
                            have b8 : ((v.zn : Int) != v.x.cols) = true := by simp [h8]
                            clear h7 h8
                            go_wp2_with fail
                            go_ret
                            exact ⟨by rw [HF.out]; rfl, HR4.out.below⟩
                        · have HF := Lib.hid (recE_6 HS1.out HS2.out HS3.out HS4.out HS5.out (by rw [HLB.out, decide_eq_false h7]; simp))
                          have b7 : ((v.yn : Int) != v.x.rows) = true := by simp [h7]
                          clear h7
                          go_wp2_with fail
                          go_ret
                          exact ⟨by rw [HF.out]; rfl, HR4.out.below⟩
                · have HF := Lib.hid (recE_4 HS1.out HS2.out HS3.out (by rw [HSH.out, decide_eq_false h6]; simp))
                  have b5 : (v.x.rows != (v.wn : Int)) = false := by simp [h5]
                  have b6 : (v.x.cols != (v.kn : Int)) = true := by simp [h6]
                  clear h5 h6
                  go_wp2_with fail
                  go_ret
                  exact ⟨by rw [HF.out]; rfl, HR3.out.below⟩
              · have HF := Lib.hid (recE_4 HS1.out HS2.out HS3.out (by rw [HSH.out, decide_eq_false h5]; simp))
                have b5 : (v.x.rows != (v.wn : Int)) = true := by simp [h5]
                clear h5
                go_wp2_with fail
                go_ret
                exact ⟨by rw [HF.out]; rfl, HR3.out.below⟩
end Go.Proofs.YtcaicgipibcicaaGreat
