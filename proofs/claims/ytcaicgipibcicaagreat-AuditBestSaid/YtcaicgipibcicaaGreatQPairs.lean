/- The lists of a record, in the program. Printed by wip/genalists.py. -/
import Derived.Test.YtcaicgipibcicaaGreatQMapK
import Derived.Test.YtcaicgipibcicaaGreatQRFit3
import Derived.Test.YtcaicgipibcicaaGreatQCertF
namespace Go.Proofs.YtcaicgipibcicaaGreat
set_option maxRecDepth 100000
set_option linter.unusedVariables false
set_option linter.unusedSimpArgs false
open Go.RowKit Go.Sort

/-- audit.lists' answer. -/
def listsN (c : PConf) (x : PRec) : Int := if listsF c x then 0 else 1
theorem listsN_no {c : PConf} {x : PRec} (h : listsF c x = false) : listsN c x = 1 := by unfold listsN; rw [h]; rfl
theorem listsN_yes {c : PConf} {x : PRec} (h : listsF c x = true) : listsN c x = 0 := by unfold listsN; rw [h]; rfl
theorem key_req {r : PReq} (h : r.Ok) : keyOf Tryz.prog 72 (.agg #[.int .u8 r.i0, .int .u8 r.i1, .int .u8 r.i2, .int .u8 r.i3, .int .u8 r.i4, .int .u8 r.i5, .int .u8 r.i6, .int .u8 r.i7]) = some (kidOf (idR r)) := by
  obtain ⟨h0, h1, h2, h3, h4, h5, h6, h7⟩ := h.id
  exact keyOf_id h0 h1 h2 h3 h4 h5 h6 h7
theorem key_drv {r : PDrv} (h : r.Ok) : keyOf Tryz.prog 72 (.agg #[.int .u8 r.i0, .int .u8 r.i1, .int .u8 r.i2, .int .u8 r.i3, .int .u8 r.i4, .int .u8 r.i5, .int .u8 r.i6, .int .u8 r.i7]) = some (kidOf (idD r)) := by
  obtain ⟨h0, h1, h2, h3, h4, h5, h6, h7⟩ := h.id
  exact keyOf_id h0 h1 h2 h3 h4 h5 h6 h7
theorem keysW {x : PRec} (h : x.Ok) : KeyIds (idsW x) := by
  intro a ha
  obtain ⟨y, hy, rfl⟩ := List.mem_map.1 ha
  exact ⟨_, key_req (h.ws y hy).r⟩
theorem keysD {x : PRec} (h : x.Ok) : KeyIds (idsD x) := by
  intro a ha
  obtain ⟨y, hy, rfl⟩ := List.mem_map.1 ha
  exact ⟨_, key_drv (h.ds y hy).d⟩
theorem idle_ids {w : World} {H : Nat} {x : PIdle} {t : TypeId} (h : w.heap[H]? = some (.cells #[.int .u8 x.d.i0, .int .u8 x.d.i1, .int .u8 x.d.i2, .int .u8 x.d.i3, .int .u8 x.d.i4, .int .u8 x.d.i5, .int .u8 x.d.i6, .int .u8 x.d.i7, .int .i16 x.d.ax, .int .i16 x.d.ay, .int .u8 x.d.seats, .int .u8 x.d.cls, .int .i64 x.d.radius, .int .i64 x.number] t (0, 0))) : w.cell? ⟨H, 0, none⟩ = some (.int .u8 x.d.i0) ∧ w.cell? ⟨H, 1, none⟩ = some (.int .u8 x.d.i1) ∧ w.cell? ⟨H, 2, none⟩ = some (.int .u8 x.d.i2) ∧ w.cell? ⟨H, 3, none⟩ = some (.int .u8 x.d.i3) ∧ w.cell? ⟨H, 4, none⟩ = some (.int .u8 x.d.i4) ∧ w.cell? ⟨H, 5, none⟩ = some (.int .u8 x.d.i5) ∧ w.cell? ⟨H, 6, none⟩ = some (.int .u8 x.d.i6) ∧ w.cell? ⟨H, 7, none⟩ = some (.int .u8 x.d.i7)  := by
  refine ⟨?_, ?_, ?_, ?_, ?_, ?_, ?_, ?_⟩ <;> rw [cell_of_row w H _ _ t (0, 0) h] <;> rfl

set_option maxHeartbeats 16000000 in
theorem alists_any (w : World) (c : PConf) (v : RV) (hin : v.In w) (hrec : recE v.x = 0) : Calls Tryz.prog 47 #[.agg #[.int .i64 c.q, .int .i64 c.d, .int .i64 c.w, .int .i64 c.ttl, .int .i64 c.b], .agg #[.int .i64 v.x.tick, .slice v.wo v.wn v.wc, .slice v.ko v.kn v.kc, .int .i64 v.x.rows, .int .i64 v.x.cols, .slice v.eo v.en v.ec, .slice v.po v.pn v.pc, .slice v.yo v.yn v.yc, .slice v.zo v.zn v.zc]] w fun e w' => e = .returned (.int .i64 (listsN c v.x)) ∧ Below w.heap.size w w' := by
  have HIN := Lib.hid hin
  obtain ⟨sz1, sz2⟩ := rec_sizes hrec
  rw [hin.wl] at sz1
  rw [hin.kl] at sz2
  have HREC := Lib.hid hrec
  clear hin hrec
  have HW := Lib.hid (CrRel.begin w c v)
  have hmm := @run_makeMap Tryz.prog
  by_cases a1 : c.q < v.wn
  · have HF := Lib.hid (listsN_no (lists_1 (c := c) (x := v.x) (by rw [HIN.out.wl]; omega)))
    go_enter Tryz.func47, Tryz.ntmps47
    go_wp2_with fail
    go_ret
    exact ⟨by rw [HF.out]; rfl, HW.out.below⟩
  by_cases a2 : c.d < v.kn
  · have HF := Lib.hid (listsN_no (lists_1 (c := c) (x := v.x) (by rw [HIN.out.kl]; omega)))
    go_enter Tryz.func47, Tryz.ntmps47
    go_wp2_with fail
    go_ret
    exact ⟨by rw [HF.out]; rfl, HW.out.below⟩
  have HS1 := Lib.hid (show (v.x.ws.length : Int) ≤ c.q ∧ (v.x.ds.length : Int) ≤ c.d by rw [HIN.out.wl, HIN.out.kl]; omega)
  go_enter Tryz.func47, Tryz.ntmps47
  go_upto_region 3 with fail
  generalize (w.alloc (.cells #[.int .i64 c.q, .int .i64 c.d, .int .i64 c.w, .int .i64 c.ttl, .int .i64 c.b] 23)).alloc (.cells #[.int .i64 v.x.tick, .slice v.wo v.wn v.wc, .slice v.ko v.kn v.kc, .int .i64 v.x.rows, .int .i64 v.x.cols, .slice v.eo v.en v.ec, .slice v.po v.pn v.pc, .slice v.yo v.yn v.yc, .slice v.zo v.zn v.zc] 34) = W at *
  generalize w.heap.size + 1 = H1 at *
  have HHE := Lib.hid (show ∃ H0, w.heap.size = H0 from ⟨_, rfl⟩)
  obtain ⟨H0, hH0⟩ := HHE.out
  rw [hH0] at HW
  rw [hH0]
  have HH := Lib.hid hH0
  clear hH0 HHE
  obtain ⟨g0, g1, g2, g3, g4, g5, g6, g7, g8⟩ := cells9 HW.out.h
  have HM := Lib.hid (LmRel.begin HW.out)
  go_upto_region 4 with fail
  generalize (W.alloc (.map #[] 0)).alloc (.map #[] 0) = WM at *
  generalize W.heap.size + 1 = M2 at *
  generalize W.heap.size = M1 at *
  clear HW g0 g1 g2 g3 g4 g5 g6 g7 g8
  obtain ⟨g0, g1, g2, g3, g4, g5, g6, g7, g8⟩ := cells9 HM.out.cr.h
  go_wp2_with fail
  go_loopw [30] (fun i wr => Hid (∃ k : Nat, i = .int .i64 k ∧ k ≤ v.wn ∧ (∀ j, j < k → askAt c v.x.tick v.x.ws j = true) ∧ LmRel w c v H0 H1 M1 M2 k 0 (setI ((idsW v.x).take k)) (setI []) wr)) (fun i _ => v.wn - (intOf i).toNat)
  case atStart => exact Lib.hid ⟨0, rfl, Nat.zero_le _, upto_none, HM.out⟩
  case round =>
    clear HM g0 g1 g2 g3 g4 g5 g6 g7 g8
    obtain ⟨k, rfl, hk, hall, hrel1⟩ := hrel.out
    clear hrel
    have HR1 := Lib.hid hrel1
    have HALL := Lib.hid hall
    clear hrel1 hall
    obtain ⟨g0, g1, g2, g3, g4, g5, g6, g7, g8⟩ := cells9 HR1.out.cr.h
    by_cases hlt : k < v.wn
    · obtain ⟨x, hx⟩ : ∃ x, v.x.ws[k]? = some x := ⟨v.x.ws[k]'(by rw [HIN.out.wl]; exact hlt), List.getElem?_eq_getElem _⟩
      obtain ⟨b, o, hbo, _⟩ := HIN.out.wr.place (by rw [cellsOf_length _ 18 PWait.cells_length, HIN.out.wl]; omega)
      have hrd := HIN.out.wr.keep (Keep.of_below HR1.out.cr.below (Nat.le_refl _) (fun _ => False)) (fun _ _ _ => id)
      rw [hbo] at hrd
      rw [hbo]
      have HCE := Lib.hid (wait_cells_at hrd hx)
      have HX := Lib.hid hx
      have HXO := Lib.hid (HIN.out.ok.ws x (List.mem_of_getElem? hx))
      have HBD := Lib.hid (wait_bounds HREC.out hx)
      have HEQ := Lib.hid (askAt_eq (c := c) (tick := v.x.tick) hx)
      have HBOX := Lib.hid (heap_alloc_new wr (.cells #[.int .u8 x.r.i0, .int .u8 x.r.i1, .int .u8 x.r.i2, .int .u8 x.r.i3, .int .u8 x.r.i4, .int .u8 x.r.i5, .int .u8 x.r.i6, .int .u8 x.r.i7, .int .i16 x.r.fx, .int .i16 x.r.fy, .int .i16 x.r.tx, .int .i16 x.r.ty, .int .u8 x.r.seats, .int .u8 x.r.classes, .int .i64 x.r.base, .int .i64 x.r.ttl, .int .i64 x.since, .int .i64 x.number] 79))
      have HR2 := Lib.hid (HR1.out.one (.cells #[.int .u8 x.r.i0, .int .u8 x.r.i1, .int .u8 x.r.i2, .int .u8 x.r.i3, .int .u8 x.r.i4, .int .u8 x.r.i5, .int .u8 x.r.i6, .int .u8 x.r.i7, .int .i16 x.r.fx, .int .i16 x.r.fy, .int .i16 x.r.tx, .int .i16 x.r.ty, .int .u8 x.r.seats, .int .u8 x.r.classes, .int .i64 x.r.base, .int .i64 x.r.ttl, .int .i64 x.since, .int .i64 x.number] 79))
      have HBO := Lib.hid hbo
      clear hx hrd hbo
      go_wp2_with (first | ((with_reducible refine wpList_load_elem (o := ⟨some 33, _, _, _, _, _⟩) ?_ 79 (.tmp 32) ?_ b (o + k * 18) ?_ x.cells #[.int .u8 x.r.i0, .int .u8 x.r.i1, .int .u8 x.r.i2, .int .u8 x.r.i3, .int .u8 x.r.i4, .int .u8 x.r.i5, .int .u8 x.r.i6, .int .u8 x.r.i7, .int .i16 x.r.fx, .int .i16 x.r.fy, .int .i16 x.r.tx, .int .i16 x.r.ty, .int .u8 x.r.seats, .int .u8 x.r.classes, .int .i64 x.r.base, .int .i64 x.r.ttl, .int .i64 x.since, .int .i64 x.number] ?_ _ HCE.out Tryz.underlying79 ?_ ?_ ?_); rfl; rfl; rfl; rfl; rfl; exact sz_wait) | ((with_reducible refine wpList_store_new (o := ⟨none, .store 79 (.tmp 8) (.tmp 33), _, _, _, _⟩) ?_ 79 (.tmp 8) (.tmp 33) ?_ _ #[.int .u8 x.r.i0, .int .u8 x.r.i1, .int .u8 x.r.i2, .int .u8 x.r.i3, .int .u8 x.r.i4, .int .u8 x.r.i5, .int .u8 x.r.i6, .int .u8 x.r.i7, .int .i16 x.r.fx, .int .i16 x.r.fy, .int .i16 x.r.tx, .int .i16 x.r.ty, .int .u8 x.r.seats, .int .u8 x.r.classes, .int .i64 x.r.base, .int .i64 x.r.ttl, .int .i64 x.since, .int .i64 x.number] ?_ ?_ x.cells ?_ ?_ ?_ x.cells_one ?_); rfl; rfl; rfl; rfl; rfl; exact sz_wait; rfl) | ((with_reducible refine wpList_load_elem (o := ⟨some 34, _, _, _, _, _⟩) ?_ 23 (.tmp 2) ?_ H0 (0) ?_ c.cells #[.int .i64 c.q, .int .i64 c.d, .int .i64 c.w, .int .i64 c.ttl, .int .i64 c.b] ?_ _ (conf_whole HR2.out.cr.g) Tryz.underlying23 ?_ ?_ ?_); rfl; rfl; rfl; rfl; rfl; exact sz_conf) | ((with_reducible refine wpList_load_elem (o := ⟨some 36, _, _, _, _, _⟩) ?_ 77 (.tmp 35) ?_ wr.heap.size (0) ?_ x.r.cells #[.int .u8 x.r.i0, .int .u8 x.r.i1, .int .u8 x.r.i2, .int .u8 x.r.i3, .int .u8 x.r.i4, .int .u8 x.r.i5, .int .u8 x.r.i6, .int .u8 x.r.i7, .int .i16 x.r.fx, .int .i16 x.r.fy, .int .i16 x.r.tx, .int .i16 x.r.ty, .int .u8 x.r.seats, .int .u8 x.r.classes, .int .i64 x.r.base, .int .i64 x.r.ttl] ?_ _ (wait_head HBOX.out) Tryz.underlying77 ?_ ?_ ?_); rfl; rfl; rfl; rfl; rfl; exact sz_req))
      refine (check_any (wr.alloc (.cells #[.int .u8 x.r.i0, .int .u8 x.r.i1, .int .u8 x.r.i2, .int .u8 x.r.i3, .int .u8 x.r.i4, .int .u8 x.r.i5, .int .u8 x.r.i6, .int .u8 x.r.i7, .int .i16 x.r.fx, .int .i16 x.r.fy, .int .i16 x.r.tx, .int .i16 x.r.ty, .int .u8 x.r.seats, .int .u8 x.r.classes, .int .i64 x.r.base, .int .i64 x.r.ttl, .int .i64 x.since, .int .i64 x.number] 79)) c x.r).mono ?_
      rintro e w1 ⟨rfl, hb1⟩
      have HR3 := Lib.hid (HR2.out.keep hb1)
      have HBX := Lib.hid ((Keep.of_below hb1 (Nat.le_refl _) (fun _ => False)).old HBOX.out id)
      clear hb1 HR2 HBOX HR1 HCE g0 g1 g2 g3 g4 g5 g6 g7 g8
      generalize wr.heap.size = H2 at *
      obtain ⟨E, hE⟩ : ∃ E, checkE c x.r = E := ⟨_, rfl⟩
      rw [hE]
      have HEE := Lib.hid hE
      clear hE
      obtain ⟨g0, g1, g2, g3, g4, g5, g6, g7, g8⟩ := cells9 HR3.out.cr.h
      obtain ⟨k15, k16⟩ := wait_cells HBX.out
      by_cases h0 : E = 0
      · have HCB := Lib.hid (check_bounds (HEE.out.trans h0))
        obtain ⟨m1, m2, m3, m4⟩ := HBD.out
        obtain ⟨n1, n2, n3, n4, n5, n6, n7⟩ := HCB.out
        have e1 : (E != 0) = false := by simp [h0]
        have e2 : (E == 0) = true := by simp [h0]
        by_cases h1 : x.since + x.r.ttl < v.x.tick
        · have HF := Lib.hid (listsN_no (lists_2 (c := c) (allF_bad (List.getElem?_eq_some_iff.1 HX.out).1 (by rw [HEQ.out, decide_eq_false (show ¬ v.x.tick ≤ x.since + x.r.ttl by omega)]; simp))))
          clear h0
          go_wp2_with fail
          go_ret
          exact ⟨by rw [HF.out]; rfl, HR3.out.cr.below⟩
        · have HA := Lib.hid (upto_next HALL.out (show askAt c v.x.tick v.x.ws k = true by rw [HEQ.out, HEE.out, h0, decide_eq_true (show v.x.tick ≤ x.since + x.r.ttl by omega)]; rfl))
          have HSN := Lib.hid (setI_next (idsW_at HX.out))
          obtain ⟨x0, x1, x2, x3, x4, x5, x6, x7⟩ := wait_ids HBX.out
          clear h0 HEQ HALL
          go_wp2_with (first | ((with_reducible refine wpList_mapUpdate_own _ (o := ⟨none, .mapUpdate 159 (.tmp 50) (.tmp 53) (.tmp 54), _, _, _, _⟩) ?_ (.tmp 50) (.tmp 53) (.tmp 54) 159 ?_ 72 160 idKeyed Tryz.underlying159 unitElem M1 k (setI ((idsW v.x).take k)) ?_ HR3.out.m1 ?_ (.agg #[.int .u8 x.r.i0, .int .u8 x.r.i1, .int .u8 x.r.i2, .int .u8 x.r.i3, .int .u8 x.r.i4, .int .u8 x.r.i5, .int .u8 x.r.i6, .int .u8 x.r.i7]) (.agg #[]) (kidOf (idR x.r)) ?_ ?_ (key_req HXO.out.r) (.agg []) [] unitElem_mk ?_); rfl; rfl; rfl; (unfold maxLen; omega); rfl; rfl; intro w2 hown2 hgrow2))
          have HR4 := Lib.hid (HR3.out.put1 hown2 hgrow2)
          rw [← HSN.out] at HR4
          clear hown2 hgrow2
          go_wp2_with fail
          go_roundw
          case rel => exact Lib.hid ⟨k + 1, by go_num, by omega, HA.out, HR4.out⟩
          case measure => simp [intOf]; omega
      · have HF := Lib.hid (listsN_no (lists_2 (c := c) (allF_bad (List.getElem?_eq_some_iff.1 HX.out).1 (by rw [HEQ.out, HEE.out, decide_eq_false h0]; rfl))))
        have e1 : (E != 0) = true := by simp [h0]
        have e2 : (E == 0) = false := by simp [h0]
        clear h0
        go_wp2_with fail
        go_ret
        exact ⟨by rw [HF.out]; rfl, HR3.out.cr.below⟩
    · obtain rfl : v.wn = k := by omega
      have HS2 := Lib.hid (show allF v.x.ws.length (askAt c v.x.tick v.x.ws) = true from allF_good (fun j hj => HALL.out j (by rw [HIN.out.wl] at hj; exact hj)))
      have HSW := Lib.hid (show (idsW v.x).take v.wn = idsW v.x from List.take_of_length_le (by rw [idsW, List.length_map, HIN.out.wl]; exact Nat.le_refl _))
      rw [HSW.out] at HR1
      clear HALL hlt hk
      as_aux_lemma =>
        go_wp2_with fail
        go_loopw [59] (fun i wr => Hid (∃ k : Nat, i = .int .i64 k ∧ k ≤ v.kn ∧ (∀ j, j < k → mayAt v.x.ds j = true) ∧ LmRel w c v H0 H1 M1 M2 v.wn k (setI (idsW v.x)) (setI ((idsD v.x).take k)) wr)) (fun i _ => v.kn - (intOf i).toNat)
        case atStart => exact Lib.hid ⟨0, rfl, Nat.zero_le _, upto_none, HR1.out⟩
        case round =>
          clear HR1 g0 g1 g2 g3 g4 g5 g6 g7 g8
          obtain ⟨k, rfl, hk, hall, hrel1⟩ := hrel.out
          clear hrel
          have HR1 := Lib.hid hrel1
          have HALL := Lib.hid hall
          clear hrel1 hall
          obtain ⟨g0, g1, g2, g3, g4, g5, g6, g7, g8⟩ := cells9 HR1.out.cr.h
          by_cases hlt : k < v.kn
          · obtain ⟨x, hx⟩ : ∃ x, v.x.ds[k]? = some x := ⟨v.x.ds[k]'(by rw [HIN.out.kl]; exact hlt), List.getElem?_eq_getElem _⟩
            obtain ⟨b, o, hbo, _⟩ := HIN.out.kr.place (by rw [cellsOf_length _ 14 PIdle.cells_length, HIN.out.kl]; omega)
            have hrd := HIN.out.kr.keep (Keep.of_below HR1.out.cr.below (Nat.le_refl _) (fun _ => False)) (fun _ _ _ => id)
            rw [hbo] at hrd
            rw [hbo]
            have HCE := Lib.hid (idle_cells_at hrd hx)
            have HX := Lib.hid hx
            have HXO := Lib.hid (HIN.out.ok.ds x (List.mem_of_getElem? hx))
            have HEQ := Lib.hid (mayAt_eq hx)
            have HBOX := Lib.hid (heap_alloc_new wr (.cells #[.int .u8 x.d.i0, .int .u8 x.d.i1, .int .u8 x.d.i2, .int .u8 x.d.i3, .int .u8 x.d.i4, .int .u8 x.d.i5, .int .u8 x.d.i6, .int .u8 x.d.i7, .int .i16 x.d.ax, .int .i16 x.d.ay, .int .u8 x.d.seats, .int .u8 x.d.cls, .int .i64 x.d.radius, .int .i64 x.number] 83))
            have HR2 := Lib.hid (HR1.out.one (.cells #[.int .u8 x.d.i0, .int .u8 x.d.i1, .int .u8 x.d.i2, .int .u8 x.d.i3, .int .u8 x.d.i4, .int .u8 x.d.i5, .int .u8 x.d.i6, .int .u8 x.d.i7, .int .i16 x.d.ax, .int .i16 x.d.ay, .int .u8 x.d.seats, .int .u8 x.d.cls, .int .i64 x.d.radius, .int .i64 x.number] 83))
            clear hx hrd hbo
            go_wp2_with (first | ((with_reducible refine wpList_load_elem (o := ⟨some 62, _, _, _, _, _⟩) ?_ 83 (.tmp 61) ?_ b (o + k * 14) ?_ x.cells #[.int .u8 x.d.i0, .int .u8 x.d.i1, .int .u8 x.d.i2, .int .u8 x.d.i3, .int .u8 x.d.i4, .int .u8 x.d.i5, .int .u8 x.d.i6, .int .u8 x.d.i7, .int .i16 x.d.ax, .int .i16 x.d.ay, .int .u8 x.d.seats, .int .u8 x.d.cls, .int .i64 x.d.radius, .int .i64 x.number] ?_ _ HCE.out Tryz.underlying83 ?_ ?_ ?_); rfl; rfl; rfl; rfl; rfl; exact sz_idle) | ((with_reducible refine wpList_store_new (o := ⟨none, .store 83 (.tmp 10) (.tmp 62), _, _, _, _⟩) ?_ 83 (.tmp 10) (.tmp 62) ?_ _ #[.int .u8 x.d.i0, .int .u8 x.d.i1, .int .u8 x.d.i2, .int .u8 x.d.i3, .int .u8 x.d.i4, .int .u8 x.d.i5, .int .u8 x.d.i6, .int .u8 x.d.i7, .int .i16 x.d.ax, .int .i16 x.d.ay, .int .u8 x.d.seats, .int .u8 x.d.cls, .int .i64 x.d.radius, .int .i64 x.number] ?_ ?_ x.cells ?_ ?_ ?_ x.cells_one ?_); rfl; rfl; rfl; rfl; rfl; exact sz_idle; rfl) | ((with_reducible refine wpList_load_elem (o := ⟨some 64, _, _, _, _, _⟩) ?_ 81 (.tmp 63) ?_ wr.heap.size (0) ?_ x.d.cells #[.int .u8 x.d.i0, .int .u8 x.d.i1, .int .u8 x.d.i2, .int .u8 x.d.i3, .int .u8 x.d.i4, .int .u8 x.d.i5, .int .u8 x.d.i6, .int .u8 x.d.i7, .int .i16 x.d.ax, .int .i16 x.d.ay, .int .u8 x.d.seats, .int .u8 x.d.cls, .int .i64 x.d.radius] ?_ _ (idle_head HBOX.out) Tryz.underlying81 ?_ ?_ ?_); rfl; rfl; rfl; rfl; rfl; exact sz_drv))
            refine (driver_any (wr.alloc (.cells #[.int .u8 x.d.i0, .int .u8 x.d.i1, .int .u8 x.d.i2, .int .u8 x.d.i3, .int .u8 x.d.i4, .int .u8 x.d.i5, .int .u8 x.d.i6, .int .u8 x.d.i7, .int .i16 x.d.ax, .int .i16 x.d.ay, .int .u8 x.d.seats, .int .u8 x.d.cls, .int .i64 x.d.radius, .int .i64 x.number] 83)) x.d).mono ?_
            rintro e w1 ⟨rfl, hb1⟩
            have HR3 := Lib.hid (HR2.out.keep hb1)
            have HBX := Lib.hid ((Keep.of_below hb1 (Nat.le_refl _) (fun _ => False)).old HBOX.out id)
            clear hb1 HR2 HBOX HR1 HCE g0 g1 g2 g3 g4 g5 g6 g7 g8
            generalize wr.heap.size = H2 at *
            obtain ⟨E, hE⟩ : ∃ E, driverE x.d = E := ⟨_, rfl⟩
            rw [hE]
            have HEE := Lib.hid hE
            clear hE
            by_cases h0 : E = 0
            · have e1 : (E != 0) = false := by simp [h0]
              have e2 : (E == 0) = true := by simp [h0]
              have HA := Lib.hid (upto_next HALL.out (show mayAt v.x.ds k = true by rw [HEQ.out, HEE.out, h0]; rfl))
              have HSN := Lib.hid (setI_next (idsD_at HX.out))
              obtain ⟨x0, x1, x2, x3, x4, x5, x6, x7⟩ := idle_ids HBX.out
              clear h0 HEQ HALL
              go_wp2_with (first | ((with_reducible refine wpList_mapUpdate_own _ (o := ⟨none, .mapUpdate 159 (.tmp 67) (.tmp 70) (.tmp 71), _, _, _, _⟩) ?_ (.tmp 67) (.tmp 70) (.tmp 71) 159 ?_ 72 160 idKeyed Tryz.underlying159 unitElem M2 k (setI ((idsD v.x).take k)) ?_ HR3.out.m2 ?_ (.agg #[.int .u8 x.d.i0, .int .u8 x.d.i1, .int .u8 x.d.i2, .int .u8 x.d.i3, .int .u8 x.d.i4, .int .u8 x.d.i5, .int .u8 x.d.i6, .int .u8 x.d.i7]) (.agg #[]) (kidOf (idD x.d)) ?_ ?_ (key_drv HXO.out.d) (.agg []) [] unitElem_mk ?_); rfl; rfl; rfl; (unfold maxLen; omega); rfl; rfl; intro w2 hown2 hgrow2))
              have HR4 := Lib.hid (HR3.out.put2 hown2 hgrow2)
              rw [← HSN.out] at HR4
              clear hown2 hgrow2
              go_wp2_with fail
              go_roundw
              case rel => exact Lib.hid ⟨k + 1, by go_num, by omega, HA.out, HR4.out⟩
              case measure => simp [intOf]; omega
            · have HF := Lib.hid (listsN_no (lists_3 (c := c) (allF_bad (List.getElem?_eq_some_iff.1 HX.out).1 (by rw [HEQ.out, HEE.out]; exact decide_eq_false h0))))
              have e1 : (E != 0) = true := by simp [h0]
              have e2 : (E == 0) = false := by simp [h0]
              clear h0
              go_wp2_with fail
              go_ret
              exact ⟨by rw [HF.out]; rfl, HR3.out.cr.below⟩
          · obtain rfl : v.kn = k := by omega
            have HS3 := Lib.hid (show allF v.x.ds.length (mayAt v.x.ds) = true from allF_good (fun j hj => HALL.out j (by rw [HIN.out.kl] at hj; exact hj)))
            have HSW := Lib.hid (show (idsD v.x).take v.kn = idsD v.x from List.take_of_length_le (by rw [idsD, List.length_map, HIN.out.kl]; exact Nat.le_refl _))
            rw [HSW.out] at HR1
            have hl1 := fun ty => HR1.out.m1.len Tryz.underlying159 ty
            have hl2 := fun ty => HR1.out.m2.len Tryz.underlying159 ty
            have HO1 := Lib.hid (set_once (keysW HIN.out.ok) (n := v.wn) (by rw [idsW, List.length_map, HIN.out.wl]))
            have HO2 := Lib.hid (set_once (keysD HIN.out.ok) (n := v.kn) (by rw [idsD, List.length_map, HIN.out.kl]))
            clear HALL hlt hk
            generalize Maps.size (setI (idsW v.x)) = s1 at *
            generalize Maps.size (setI (idsD v.x)) = s2 at *
            as_aux_lemma =>
              rcases HO1.out with ⟨q1, o1⟩ | ⟨q1, o1⟩
              · have e1 : ((s1 : Int) != (v.wn : Int)) = false := by simp [q1]
                rcases HO2.out with ⟨q2, o2⟩ | ⟨q2, o2⟩
                · have HF := Lib.hid (listsN_yes (lists_6 HS1.out HS2.out HS3.out o1 o2))
                  have e2 : ((s2 : Int) != (v.kn : Int)) = false := by simp [q2]
                  clear q1 q2
                  go_wp2_with fail
                  go_ret
                  exact ⟨by rw [HF.out]; rfl, HR1.out.cr.below⟩
                · have HF := Lib.hid (listsN_no (lists_5 (c := c) o2))
                  have e2 : ((s2 : Int) != (v.kn : Int)) = true := by simp; omega
                  clear q1 q2
                  go_wp2_with fail
                  go_ret
                  exact ⟨by rw [HF.out]; rfl, HR1.out.cr.below⟩
              · have HF := Lib.hid (listsN_no (lists_4 (c := c) o1))
                have e1 : ((s1 : Int) != (v.wn : Int)) = true := by simp; omega
                clear q1
                go_wp2_with fail
                all_goals
                  go_ret
                  exact ⟨by rw [HF.out]; rfl, HR1.out.cr.below⟩
end Go.Proofs.YtcaicgipibcicaaGreat

/- Chapter 13: all pairs that fit, in the program. -/
namespace Go.Proofs.YtcaicgipibcicaaGreat
set_option maxRecDepth 100000
set_option linter.unusedVariables false
set_option linter.unusedSimpArgs false
open Go.RowKit Go.Sort

set_option maxHeartbeats 4000000 in
theorem pairs_any (w : World) (ao bo : Option Addr) (n m c c' : Nat) (ws : List PWait) (ds : List PIdle) (hn : ws.length = n) (hm : ds.length = m) (hw : RdC w ao (cellsOf PWait.cells ws)) (hd : RdC w bo (cellsOf PIdle.cells ds))
    (how : ∀ x ∈ ws, x.Ok) (hod : ∀ x ∈ ds, x.Ok) (hn' : n ≤ 1048576) (hm' : m ≤ 1048576) :
    Calls Tryz.prog 130 #[.slice ao n c, .slice bo m c'] w fun e w' => ∃ v, e = .returned v ∧ Grown w PPair.cells 2 (pairsF ws ds) v w' := by
  have HN := Lib.hid hn
  have HM := Lib.hid hm
  have HW := Lib.hid hw
  have HD := Lib.hid hd
  have HOW := Lib.hid how
  have HOD := Lib.hid hod
  clear hn hm hw hd how hod
  go_enter Tryz.func130, Tryz.ntmps130
  go_wp2_with fail
  have hst := Lib.hid (show Grown w PPair.cells 2 (pairsAt ws ds 0 0) (.slice none 0 0) w from Grown.begin _ _ _)
  obtain ⟨i5, hi, hz0, hz1, hz2⟩ := infos info_pair
  go_loopw [5, 10] (fun a i wr => Hid (∃ p : Nat, i = .int .i64 p ∧ p ≤ n ∧ Grown w PPair.cells 2 (pairsAt ws ds p 0) a wr)) (fun _ i _ => n - (intOf i).toNat)
  case atStart => exact Lib.hid ⟨0, rfl, Nat.zero_le _, hst.out⟩
  case round =>
    obtain ⟨p, rfl, hp, hrel1⟩ := hrel.out
    clear hrel
    have HR := Lib.hid hrel1
    clear hrel1
    by_cases hlt : p < n
    · obtain ⟨x, hx⟩ : ∃ x, ws[p]? = some x := ⟨ws[p]'(by rw [HN.out]; exact hlt), List.getElem?_eq_getElem _⟩
      obtain ⟨b, o, rfl, _⟩ := HW.out.place (by rw [cellsOf_length _ 18 PWait.cells_length, HN.out]; omega)
      have HX := Lib.hid hx
      have HXO := Lib.hid (HOW.out x (List.mem_of_getElem? hx))
      clear hx
      go_wp2_with fail
      go_loopw [5, 15] (fun a i wr => Hid (∃ q : Nat, i = .int .i64 q ∧ q ≤ m ∧ Grown w PPair.cells 2 (pairsAt ws ds p q) a wr)) (fun _ i _ => m - (intOf i).toNat)
      case atStart => exact Lib.hid ⟨0, rfl, Nat.zero_le _, HR.out⟩
      case round =>
        obtain ⟨q, rfl, hq, hrel1⟩ := hrel.out
        clear hrel
        have HR1 := Lib.hid hrel1
        clear hrel1
        by_cases hqm : q < m
        · obtain ⟨y, hy⟩ : ∃ y, ds[q]? = some y := ⟨ds[q]'(by rw [HM.out]; exact hqm), List.getElem?_eq_getElem _⟩
          obtain ⟨b', o', rfl, _⟩ := HD.out.place (by rw [cellsOf_length _ 14 PIdle.cells_length, HM.out]; omega)
          have HY := Lib.hid hy
          have HYO := Lib.hid (HOD.out y (List.mem_of_getElem? hy))
          clear hy
          go_wp2_with fail
          have cQ : ∀ dd os, Calls Tryz.prog 28 #[.agg #[.int .u8 x.r.i0, .int .u8 x.r.i1, .int .u8 x.r.i2, .int .u8 x.r.i3, .int .u8 x.r.i4, .int .u8 x.r.i5, .int .u8 x.r.i6, .int .u8 x.r.i7, .int .i16 x.r.fx, .int .i16 x.r.fy, .int .i16 x.r.tx, .int .i16 x.r.ty, .int .u8 x.r.seats, .int .u8 x.r.classes, .int .i64 x.r.base, .int .i64 x.r.ttl], .agg #[.int .u8 y.d.i0, .int .u8 y.d.i1, .int .u8 y.d.i2, .int .u8 y.d.i3, .int .u8 y.d.i4, .int .u8 y.d.i5, .int .u8 y.d.i6, .int .u8 y.d.i7, .int .i16 y.d.ax, .int .i16 y.d.ay, .int .u8 y.d.seats, .int .u8 y.d.cls, .int .i64 y.d.radius]] (grow (redrawn wr dd) os) fun e w'' => e = .returned (.bool (fitsF x.r y.d)) ∧ ∃ p : Regrown, w'' = grow (redrawn wr p.d) p.os := fun dd os => Calls.regrown_of (fits_any _ _ _ HXO.out.r HYO.out.d)
          obtain ⟨k0, k1, k2, k3, k4, k5, k6, k7, k8, k9, k10, k11, k12, k13, k14, k15, k16, k17⟩ := wait_re (HW.out.below HR1.out.below) HX.out
          obtain ⟨j0, j1, j2, j3, j4, j5, j6, j7, j8, j9, j10, j11, j12, j13⟩ := idle_re (HD.out.below HR1.out.below) HY.out
          have HF := Lib.hid (fitAt_eq HX.out HY.out)
          refine wp_region_quiet_below (by kernel_rfl) (by kernel_rfl) ?_
          repeat (go_big_quiet_step (exact cQ _ _))
          refine wpQuiet_nil ?_
          intro _ hw'
          obtain ⟨⟨dq, osq⟩, hw''⟩ := hw'
          subst hw''
          clear cQ k0 k1 k2 k3 k4 k5 k6 k7 k8 k9 k10 k11 k12 k13 k14 k15 k16 k17 j0 j1 j2 j3 j4 j5 j6 j7 j8 j9 j10 j11 j12 j13
          have HBX := Lib.hid (below_regrown wr dq osq)
          generalize grow (redrawn wr dq) osq = WX at *
          cases hfit : fitsF x.r y.d with
          | true =>
            rw [hfit] at HF
            have hlen := pairsAt_len ws ds p q
            have hsmall : (pairsAt ws ds p q).length + 1 ≤ 1099512676353 := by
              have h1 : p * ds.length ≤ 1048576 * 1048576 := Nat.mul_le_mul (by omega) (by rw [HM.out]; exact hm')
              omega
            clear hlen
            have HG := Lib.hid (HR1.out.next HBX.out)
            go_wp2_with (at_builtin; refine wpList_append_two rfl (.tmp 29) (.tmp 33) 29 29 rfl 69 i5 zeroPair 2 16 Tryz.underlying29 hi hz0 hz1 hz2 rfl u5 (pairsAt ws ds p q).length _ rfl (HG.out.own.keep (Keep.alloc (fun _ => False) _ _) (fun _ _ => id)) (.slice (some ⟨WX.heap.size, 0, none⟩) 1 1) 1 (PPair.cells ⟨p, q⟩) rfl (Src.lit Tryz.underlying29 2 _ rfl (PPair.cells_one _) _ _ rfl) (by omega) (by unfold maxLen; omega) (by omega) ?_)
            intro g cap w2 ho2 hc2
            have hrel2 := Lib.hid (show Grown w PPair.cells 2 (pairsAt ws ds p (q + 1)) (.slice (some ⟨g, 0, none⟩) ((pairsAt ws ds p q).length + 1) cap) w2 from by
              rw [pairsAt_yes HF.out]
              exact HG.out.app (Keep.alloc (fun _ => False) _ _) ho2 hc2)
            clear ho2 hc2
            generalize (pairsAt ws ds p q).length = N at *
            go_wp2_with fail
            go_roundw
            case rel => exact Lib.hid ⟨q + 1, by go_num, by omega, hrel2.out⟩
            case measure => simp [intOf]; omega
          | false =>
            rw [hfit] at HF
            have hrel2 := Lib.hid (show Grown w PPair.cells 2 (pairsAt ws ds p (q + 1)) u5 WX from by
              rw [pairsAt_no HF.out]
              exact HR1.out.next HBX.out)
            go_wp2_with fail
            go_roundw
            case rel => exact Lib.hid ⟨q + 1, by go_num, by omega, hrel2.out⟩
            case measure => simp [intOf]; omega
        · obtain rfl : m = q := by omega
          go_wp2_with fail
          go_roundw
          case rel => exact Lib.hid ⟨p + 1, by go_num, by omega, by rw [pairsAt_next, HM.out]; exact HR1.out⟩
          case measure => simp [intOf]; omega
    · obtain rfl : n = p := by omega
      go_wp2_with fail
      go_ret
      refine ⟨_, rfl, ?_⟩
      rw [← pairsAt_all, HN.out]
      exact HR.out
end Go.Proofs.YtcaicgipibcicaaGreat
