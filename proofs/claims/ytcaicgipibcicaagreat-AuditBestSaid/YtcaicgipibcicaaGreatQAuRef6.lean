/- The reference's auditor sees a record: the walk. -/
import Derived.Test.YtcaicgipibcicaaGreatQAuRef5
namespace Go.Proofs.YtcaicgipibcicaaGreat
set_option maxRecDepth 100000
set_option linter.unusedVariables false
set_option linter.unusedSimpArgs false
open Go.RowKit Go.Sort

/-- A record in a box. -/
structure SxRel (w : World) (v : RV) (H : Nat) (wr : World) : Prop where
  g : wr.heap[H]? = some (.cells #[.int .i64 v.x.tick, .slice v.wo v.wn v.wc, .slice v.ko v.kn v.kc, .int .i64 v.x.rows, .int .i64 v.x.cols, .slice v.eo v.en v.ec, .slice v.po v.pn v.pc, .slice v.yo v.yn v.yc, .slice v.zo v.zn v.zc] 34 (0, 0))
  below : Below w.heap.size w wr
theorem SxRel.begin (w : World) (v : RV) : SxRel w v w.heap.size (w.alloc (.cells #[.int .i64 v.x.tick, .slice v.wo v.wn v.wc, .slice v.ko v.kn v.kc, .int .i64 v.x.rows, .int .i64 v.x.cols, .slice v.eo v.en v.ec, .slice v.po v.pn v.pc, .slice v.yo v.yn v.yc, .slice v.zo v.zn v.zc] 34)) := ⟨heap_alloc_new w _, (Below.refl w.heap.size w).alloc (Nat.le_refl _) _⟩
theorem SxRel.next {w : World} {v : RV} {H : Nat} {wr w' : World} (h : SxRel w v H wr) (hb : Below wr.heap.size wr w') : SxRel w v H w' :=
  ⟨(Keep.of_below hb (Nat.le_refl _) (fun _ => False)).old h.g id, Below.next h.below hb⟩
theorem SxRel.drew {w : World} {v : RV} {H : Nat} {wr : World} (h : SxRel w v H wr) : SxRel w v H wr.drew := h.next (Below.refl _ _).drew
theorem SxRel.drewN {w : World} {v : RV} {H : Nat} {wr : World} (h : SxRel w v H wr) (n : Nat) : SxRel w v H (wr.drewN n) := h.next (below_drewN (Below.refl _ _) n)

theorem RefOwn.at' {N : Nat} {c : PConf} {ts : List RV} {R : Nat} {sv : Value} {lo : Option Addr} {tn tc : Nat} {w : World} (h : RefOwn N c ts R sv tn w) (hs : sv = .slice lo tn tc) : RefAt c ts R lo tn tc w := by
  subst hs
  exact h.at
theorem RV.cells_one (v : RV) : ∀ u ∈ v.cells, u.oneCell' = true := by
  intro u hu
  simp only [RV.cells, List.mem_cons, List.not_mem_nil, or_false] at hu
  rcases hu with rfl | rfl | rfl | rfl | rfl | rfl | rfl | rfl | rfl <;> rfl
/-- What is there once it has been taken. -/
theorem RefOwn.saw {N : Nat} {c : PConf} {ts : List RV} {R : Nat} {sv sv' : Value} {tn : Nat} {v : RV} {w w5 : World} (h : RefOwn N c ts R sv tn w) (hin : v.In w) (hlow : v.Low N) (hN : N ≤ w.heap.size)
    (hk : Keep (fun k => sv.ownBlock = some k) w w5) (ho : Own w5 9 sv' (tn + 1) (cellsOf RV.cells ts ++ v.cells)) (hb : sv'.ownBlock = sv.ownBlock ∨ ∃ g, sv'.ownBlock = some g ∧ w.heap.size ≤ g) :
    RefOwn N c (ts ++ [v]) R sv' (tn + 1) (w5.setCell ⟨R, 5, none⟩ sv') ∧ Keep (fun k => k = R ∨ sv.ownBlock = some k) w (w5.setCell ⟨R, 5, none⟩ sv') := by
  have hR := lt_of_block h.box
  have hbox := hk.old h.box (fun e => (h.oN R e).2 rfl)
  have hown : ∀ g, sv'.ownBlock = some g → N ≤ g ∧ g ≠ R := by
    intro g hg
    rcases hb with hb | ⟨g', hg', hge⟩
    · rw [hb] at hg
      exact h.oN g hg
    · rw [hg'] at hg
      cases hg
      exact ⟨by omega, by omega⟩
  have hkeep : Keep (fun k => k = R ∨ sv.ownBlock = some k) w (w5.setCell ⟨R, 5, none⟩ sv') := hk.trans (keep1 w5 R 5 sv') (fun _ _ h => .inr h) (fun _ _ h => .inl h)
  have hlows : ∀ u ∈ ts ++ [v], u.Low N := by
    intro u hu
    rcases List.mem_append.1 hu with hu | hu
    · exact h.low u hu
    · cases List.mem_singleton.1 hu; exact hlow
  have hins : ∀ u ∈ ts ++ [v], u.In w := by
    intro u hu
    rcases List.mem_append.1 hu with hu | hu
    · exact h.ins u hu
    · cases List.mem_singleton.1 hu; exact hin
  refine ⟨⟨row_set hbox 5 sv', by simp [h.len], ?_, fun u hu => (hins u hu).above (hlows u hu) hkeep (fun k hX => ?_), hlows, h.rN, hown⟩, hkeep⟩
  · rw [show cellsOf RV.cells (ts ++ [v]) = cellsOf RV.cells ts ++ v.cells by simp [cellsOf]]
    exact ho.keep (keep1 w5 R 5 sv') (fun g hg e => (hown g hg).2 e)
  · rcases hX with rfl | hX
    · exact h.rN
    · exact (h.oN k hX).1

set_option maxHeartbeats 16000000 in
theorem rsee_any (N : Nat) (w : World) (c : PConf) (ts : List RV) (R : Nat) (sv : Value) (tn : Nat) (v : RV) (h : RefOwn N c ts R sv tn w) (hin : v.In w) (hlow : v.Low N) (hN : N ≤ w.heap.size) (hc : configF c = true) (hts : ∀ u ∈ ts, recE u.x = 0) (hn : tn ≤ 2000000) :
    Calls Tryz.prog 21 #[.pointer (some ⟨R, 0, none⟩), .agg #[.int .i64 v.x.tick, .slice v.wo v.wn v.wc, .slice v.ko v.kn v.kc, .int .i64 v.x.rows, .int .i64 v.x.cols, .slice v.eo v.en v.ec, .slice v.po v.pn v.pc, .slice v.yo v.yn v.yc, .slice v.zo v.zn v.zc]] w (RSeePost N w c ts R sv v) := by
  obtain ⟨lo, tc, hsv⟩ := h.own.sl
  have HSV := Lib.hid hsv
  have HO := Lib.hid h
  have HIN := Lib.hid hin
  have HLOW := Lib.hid hlow
  have HCF := Lib.hid hc
  have HTS := Lib.hid hts
  have HNN := Lib.hid hN
  have HS := Lib.hid (SxRel.begin w v)
  clear h hin hlow hc hts hN hsv
  go_enter Tryz.func21, Tryz.ntmps21
  go_upto_region 1 with fail
  generalize w.alloc (.cells #[.int .i64 v.x.tick, .slice v.wo v.wn v.wc, .slice v.ko v.kn v.kc, .int .i64 v.x.rows, .int .i64 v.x.cols, .slice v.eo v.en v.ec, .slice v.po v.pn v.pc, .slice v.yo v.yn v.yc, .slice v.zo v.zn v.zc] 34) = W at *
  obtain ⟨H, hH⟩ : ∃ H, w.heap.size = H := ⟨_, rfl⟩
  have HH := Lib.hid hH
  rw [hH] at HS ⊢
  clear hH
  obtain ⟨g0, g1, g2, g3, g4, g5, g6, g7, g8⟩ := cells9 HS.out.g
  obtain ⟨r0, r1, r2, r3, r4, r5⟩ := cells6 (HO.out.below HS.out.below).box
  go_still_tail 5, (by kernel_rfl)
  change wpList _ _ _ _ _ W.drew
  have HD := Lib.hid HS.out.drew
  go_wp2_with fail
  clear g0 g1 g2 g3 g4 g5 g6 g7 g8 r0 r1 r2 r3 r4 r5
  refine (raudit_any W.drew c v (HIN.out.below HD.out.below)).mono ?_
  rintro e w2 ⟨rfl, hb2⟩
  have HR := Lib.hid (HD.out.next hb2)
  clear hb2
  by_cases h0 : auditE c v.x = 0
  case neg =>
    have HF := Lib.hid (rsee_1 (ts := ts) h0)
    have hne : (auditE c v.x != 0) = true := by simp [h0]
    clear h0
    go_wp2_with fail
    go_ret
    exact .same HO.out HF.out HR.out.below
  have H0 := Lib.hid h0
  rw [h0]
  clear h0
  have HREC := Lib.hid (auditE_rec HCF.out H0.out)
  have HTK := Lib.hid (rec_tick HREC.out)
  have hwn : v.wn ≤ 64 := by rw [← HIN.out.wl]; exact HTK.out.2.2.1
  obtain ⟨g0, g1, g2, g3, g4, g5, g6, g7, g8⟩ := cells9 HR.out.g
  have HO2 := Lib.hid (HO.out.below HR.out.below)
  obtain ⟨r0, r1, r2, r3, r4, r5⟩ := cells6 HO2.out.box
  rw [HSV.out] at r5
  have HT := Lib.hid (show 0 ≤ lastT ts ∧ lastT ts ≤ 1099511627776 from by
    unfold lastT
    cases hl : ts.getLast? with
    | none => exact ⟨by decide, by decide⟩
    | some u =>
      have h1 := rec_tick (HTS.out u (List.mem_of_getLast? hl))
      exact ⟨show 0 ≤ u.x.tick from by have := h1.1; omega, h1.2.1⟩)
  have ht1 := HTK.out.1
  have ht2 := HTK.out.2.1
  rcases tn with _ | m
  case' zero =>
    have HLT := Lib.hid (show lastT ts = 0 from by rw [List.eq_nil_of_length_eq_zero HO2.out.len]; rfl)
    by_cases hq : v.x.tick = c.w
    case neg =>
      have HF := Lib.hid (rsee_2 H0.out (show v.x.tick - lastT ts ≠ c.w from by rw [HLT.out]; omega))
      have b1 : (v.x.tick != c.w) = true := by simp [hq]
      clear hq
      go_upto_region 7 with fail
      have wt : IntKind.i64.wrap v.x.tick = v.x.tick := by rw [IntKind.wrap_i64]; omega
      go_quiet (fail)
      go_wp2_with fail
      go_ret
      exact .same HO.out HF.out (HR.out.drewN _).below
    have HQ := Lib.hid (show v.x.tick - lastT ts = c.w from by rw [HLT.out]; omega)
    have b1 : (v.x.tick != c.w) = false := by simp [hq]
    clear hq
    go_upto_region 7 with fail
    have wt : IntKind.i64.wrap v.x.tick = v.x.tick := by rw [IntKind.wrap_i64]; omega
    go_quiet (fail)
    go_wp2_with fail
    have HX0 := Lib.hid (HR.out.drewN nq)
    clear g0 g1 g2 g3 g4 g5 g6 g7 g8 r0 r1 r2 r3 r4 r5 b1 wt HR HO2 HLT
    generalize w2.drewN nq = w3 at *
  case' succ =>
    obtain ⟨u, hu⟩ : ∃ u, ts[m]? = some u := ⟨ts[m]'(by rw [HO2.out.len]; omega), List.getElem?_eq_getElem _⟩
    have HLT := Lib.hid (lastT_at HO2.out.len hu)
    have HT2 := Lib.hid (show 0 ≤ u.x.tick ∧ u.x.tick ≤ 1099511627776 from by rw [← HLT.out]; exact HT.out)
    have hrt := (HO2.out.at' HSV.out).rd
    obtain ⟨b, o, rfl, _⟩ := hrt.place (by rw [cellsOf_length _ 9 RV.cells_length, HO2.out.len]; omega)
    have hc0 : w2.cell? ⟨b, o + m * 9, none⟩ = some (.int .i64 u.x.tick) := rdc_cell RV.cells_length hrt hu 0 _ rfl
    clear hu hrt
    generalize u.x.tick = T at *
    have hT1 := HT2.out.1
    have hT2 := HT2.out.2
    have wm : IntKind.i64.wrap (m : Int) = (m : Int) := by rw [IntKind.wrap_i64]; omega
    have wm0 : (0 : Int) ≤ (m : Int) := by omega
    have wm1 : (m : Int) < (m : Int) + 1 := by omega
    have wm2 : (0 : Int) < (m : Int) + 1 := by omega
    go_upto_region 6 with fail
    go_quiet (fail)
    rename Nat => nr
    go_upto_region 7 with fail
    have wt : IntKind.i64.wrap (v.x.tick - T) = v.x.tick - T := by rw [IntKind.wrap_i64]; omega
    by_cases hq : v.x.tick - T = c.w
    case neg =>
      have HF := Lib.hid (rsee_2 H0.out (show v.x.tick - lastT ts ≠ c.w from by rw [HLT.out]; exact hq))
      have b1 : (v.x.tick - T != c.w) = true := by simp [hq]
      clear hq
      go_quiet (fail)
      go_wp2_with fail
      go_ret
      exact .same HO.out HF.out ((HR.out.drewN _).drewN _).below
    have HQ := Lib.hid (show v.x.tick - lastT ts = c.w from by rw [HLT.out]; exact hq)
    have b1 : (v.x.tick - T != c.w) = false := by simp [hq]
    clear hq
    go_quiet (fail)
    go_wp2_with fail
    have HX0 := Lib.hid ((HR.out.drewN nr).drewN nq)
    clear g0 g1 g2 g3 g4 g5 g6 g7 g8 r0 r1 r2 r3 r4 r5 b1 wt HR HO2 HLT hc0 wm wm0 wm1 wm2 hT1 hT2 HT2
    generalize (w2.drewN nr).drewN nq = w3 at *
  all_goals
    go_loopw [7] (fun i wr => Hid (∃ j : Nat, i = .int .i64 j ∧ j ≤ v.wn ∧ (∀ q : Nat, q < j → againAt ts v.x q = true) ∧ SxRel w v H wr)) (fun i _ => v.wn - (intOf i).toNat)
    case atStart => exact Lib.hid ⟨0, rfl, Nat.zero_le _, fun q h => absurd h (Nat.not_lt_zero q), HX0.out⟩
    case round =>
      clear HX0
      obtain ⟨j, rfl, hj, hall, hrl⟩ := hrel.out
      clear hrel
      have HALL := Lib.hid hall
      have HX := Lib.hid hrl
      clear hall hrl
      have HRJ := Lib.hid (HO.out.below HX.out.below)
      obtain ⟨g0, g1, g2, g3, g4, g5, g6, g7, g8⟩ := cells9 HX.out.g
      by_cases hlt : j < v.wn
      · obtain ⟨y, hy⟩ : ∃ y, v.x.ws[j]? = some y := ⟨v.x.ws[j]'(by rw [HIN.out.wl]; exact hlt), List.getElem?_eq_getElem _⟩
        have hrd := (HIN.out.below HX.out.below).wr
        obtain ⟨b2, o2, hbo, _⟩ := hrd.place (by rw [cellsOf_length _ 18 PWait.cells_length, HIN.out.wl]; omega)
        rw [hbo] at hrd
        have k1 := cell_regrown g1
        rw [hbo] at g1
        have HCR := Lib.hid (fun (w' : World) (hw' : ∃ p : Regrown, w' = grow (redrawn wr p.d) p.os) (i : Nat) (q : Value) (hq : y.cells[i]? = some q) => show w'.cell? ⟨b2, o2 + j * 18 + i, none⟩ = some q from by
          obtain ⟨p, rfl⟩ := hw'
          exact cell_regrown (rdc_cell PWait.cells_length hrd hy i q hq) _ _)
        have HY := Lib.hid hy
        clear hy hrd
        obtain ⟨YV, hYV⟩ : ∃ YV, y.cells.toArray = YV := ⟨_, rfl⟩
        have HYV := Lib.hid hYV
        clear hYV
        have k0 := cell_regrown g0
        have k2 := cell_regrown g2
        have k3 := cell_regrown g3
        have k4 := cell_regrown g4
        have k5 := cell_regrown g5
        have k6 := cell_regrown g6
        have k7 := cell_regrown g7
        have k8 := cell_regrown g8
        have hcs : v.wo = some ⟨b2, o2, none⟩ := hbo
        clear hbo
        have cQ : ∀ dd os, Calls Tryz.prog 64 #[.pointer (some ⟨R, 0, none⟩), .agg #[.int .i64 v.x.tick, .slice v.wo v.wn v.wc, .slice v.ko v.kn v.kc, .int .i64 v.x.rows, .int .i64 v.x.cols, .slice v.eo v.en v.ec, .slice v.po v.pn v.pc, .slice v.yo v.yn v.yc, .slice v.zo v.zn v.zc], .agg YV] (grow (redrawn wr dd) os) fun e w'' => e = .returned (.bool (againF ts v.x y)) ∧ ∃ p : Regrown, w'' = grow (redrawn wr p.d) p.os := fun dd os => Calls.regrown_of (again_any _ c ts R _ _ tc v y YV HYV.out ((HRJ.out.below (below_regrown wr dd os)).at' HSV.out) (by omega))
        simp only [hcs] at cQ
        rw [hcs] at k1
        clear hcs
        go_wp2_with fail
        refine wp_region_quiet_below (by kernel_rfl) (by kernel_rfl) ?_
        iterate 6 (go_big_quiet_step (fail))
        go_big_quiet_want
        with_reducible refine quiet_load_in (o := ⟨some 60, _, _, _, _, _⟩) 79 (.tmp 59) ?_ b2 (o2 + j * 18) ?_ y.cells YV HYV.out _ HCR.out Tryz.underlying79 ?_ ?_ ?_
        · rfl
        · rfl
        · rfl
        · exact sz_wait
        go_big_quiet_on
        simp only [Act.put, List.setIfInBounds_toArray, List.set_cons_zero, List.set_cons_succ]
        go_big_quiet_step (exact cQ _ _)
        iterate 1 (go_big_quiet_step (fail))
        refine wpQuiet_nil ?_
        rintro _ ⟨⟨dq, osq⟩, rfl⟩
        have HX2 := Lib.hid (HX.out.next (below_regrown wr dq osq))
        clear k0 k1 k2 k3 k4 k5 k6 k7 k8 cQ g0 g1 g2 g3 g4 g5 g6 g7 g8 HCR
        generalize grow (redrawn wr dq) osq = WX at *
        cases hag : againF ts v.x y with
        | true =>
          have HF := Lib.hid (rsee_3 H0.out HQ.out (allF_bad (by rw [HIN.out.wl]; exact hlt) (by rw [againAt_eq HY.out, hag]; rfl)))
          clear hag
          go_wp2_with fail
          go_ret
          exact .same HO.out HF.out HX2.out.below
        | false =>
          have HN := Lib.hid (fun (q : Nat) (hq : q < j + 1) => show againAt ts v.x q = true from by
            rcases Nat.lt_succ_iff_lt_or_eq.1 hq with h | h
            · exact HALL.out q h
            · rw [h, againAt_eq HY.out, hag]; rfl)
          clear hag
          go_wp2_with fail
          go_roundw
          case rel => exact Lib.hid ⟨j + 1, by go_num, by omega, HN.out, HX2.out⟩
          case measure => simp [intOf]; omega
      · obtain rfl : v.wn = j := by omega
        have HF := Lib.hid (rsee_4 H0.out HQ.out (allF_good (fun q hq => HALL.out q (by rw [HIN.out.wl] at hq; exact hq))))
        clear HALL
        go_wp2_with fail
        obtain ⟨i5, hi, hz0, hz1, hz2⟩ := infos_rec
        obtain ⟨r0, r1, r2, r3, r4, r5⟩ := cells6 HRJ.out.box
        have HSK := Lib.hid (fun (w' : World) (k : Keep (fun k => sv.ownBlock = some k) wr w') => show w'.cell? ⟨R, 5, none⟩ = some sv ∧ w'.heap[H]? = some (.cells #[.int .i64 v.x.tick, .slice v.wo v.wn v.wc, .slice v.ko v.kn v.kc, .int .i64 v.x.rows, .int .i64 v.x.cols, .slice v.eo v.en v.ec, .slice v.po v.pn v.pc, .slice v.yo v.yn v.yc, .slice v.zo v.zn v.zc] 34 (0, 0)) from ⟨k.cell r5 (fun e => (HRJ.out.oN R e).2 rfl), k.old HX.out.g (fun e => absurd (HO.out.own.lt H e) (by rw [HH.out]; exact Nat.lt_irrefl _))⟩)
        clear g0 g1 g2 g3 g4 g5 g6 g7 g8 r0 r1 r2 r3 r4 r5
        refine wp_region_keeps 6 2 (fun w' => w'.cell? ⟨R, 5, none⟩ = some sv ∧ w'.heap[H]? = some (.cells #[.int .i64 v.x.tick, .slice v.wo v.wn v.wc, .slice v.ko v.kn v.kc, .int .i64 v.x.rows, .int .i64 v.x.cols, .slice v.eo v.en v.ec, .slice v.po v.pn v.pc, .slice v.yo v.yn v.yc, .slice v.zo v.zn v.zc] 34 (0, 0))) (by kernel_rfl) (by kernel_rfl) (fun _ _ _ _ _ h => h) (HSK.out _ (Keep.drew _ _)) ?_
        simp only [List.take_succ_cons, List.take_zero, List.drop_succ_cons, List.drop_zero]
        iterate 6 (
          refine wpReads_cons (v := ?_) (Or.inl ⟨by rfl, ?_⟩) ?_
          rotate_left
          · intro w' hSw
            have hSx := hSw.1
            obtain ⟨s0, s1, s2, s3, s4, s5, s6, s7, s8⟩ := cells9 hSw.2
            clear hSw
            try dsimp only at hSx
            go_simp
            try with_reducible rfl
          try simp only [Act.put, List.setIfInBounds_toArray, List.set_cons_zero, List.set_cons_succ])
        refine wpReads_nil ?_
        simp only [wpKeeps]
        refine wpOp_here rfl (fun K hK => ?_)
        go_simp
        refine hK _ _ ⟨HSK.out _ (Keep.of_below (((Below.refl wr.heap.size wr).alloc (Nat.le_refl _) _).drew) (Nat.le_refl _) _), ?_⟩
        clear hK K
        refine wpOp_here rfl (fun K hK => ?_)
        refine step_append_own rfl (.tmp 67) (.tmp 69) 43 43 rfl 34 i5 zeroRec 9 168 Tryz.underlying43 hi hz0 hz1 hz2 rfl sv _ (cellsOf RV.cells ts) (by simp [Act.eval]) (HRJ.out.own.keep (Keep.of_below (((Below.refl wr.heap.size wr).alloc (Nat.le_refl _) _).drew) (Nat.le_refl _) (fun _ => False)) (fun _ _ => id)) (.slice (some ⟨wr.heap.size, 0, none⟩) 1 1) 1 v.cells (by simp [Act.eval]) (Src.litDrew Tryz.underlying43 9 _ rfl (RV.cells_one v) _ _ (by first | rfl | simp [RV.cells])) (by unfold maxLen; omega) (by omega) ?_
        intro ao2 q2 w5 ho2 hk2 hb2
        have HKW := Lib.hid (show Keep (fun k => sv.ownBlock = some k) wr w5 from (Keep.of_below (((Below.refl wr.heap.size wr).alloc (Nat.le_refl _) (.cells #[.int .i64 v.x.tick, .slice v.wo v.wn v.wc, .slice v.ko v.kn v.kc, .int .i64 v.x.rows, .int .i64 v.x.cols, .slice v.eo v.en v.ec, .slice v.po v.pn v.pc, .slice v.yo v.yn v.yc, .slice v.zo v.zn v.zc] 34)).drew) (Nat.le_refl _) (fun _ => False)).trans hk2 (fun _ _ h => h.elim) (fun _ _ h => h))
        refine hK _ _ ⟨HSK.out _ HKW.out, ?_⟩
        clear hK K
        have hwz := HX.out.below.size
        have HEND := Lib.hid (HO.out.saw HIN.out HLOW.out HNN.out ((Keep.of_below HX.out.below (Nat.le_refl _) (fun _ => False)).trans HKW.out (fun _ _ h => h.elim) (fun _ _ h => h)) ho2 (hb2.imp id (fun ⟨g, h1, h2⟩ => ⟨g, h1, Nat.le_trans hwz (Nat.le_trans (by simp) h2)⟩)))
        have HNB := Lib.hid (hb2.imp id (fun ⟨g, h1, h2⟩ => ⟨g, h1, Nat.le_trans hwz (Nat.le_trans (by simp) h2)⟩) : (_ ∨ ∃ g, _ = some g ∧ w.heap.size ≤ g))
        have hbox := HKW.out.old HRJ.out.box (fun e => (HRJ.out.oN R e).2 rfl)
        clear ho2 hk2 hb2
        obtain ⟨z0, z1, z2, z3, z4, z5⟩ := cells6 hbox
        have zf := fun j => frozen_of_row w5 R j _ _ hbox
        clear hbox
        go_wp2_with fail
        go_ret
        exact ⟨by rw [HF.out]; rfl, _, _, by rw [HF.out]; exact HEND.out.1, HEND.out.2, HNB.out⟩
end Go.Proofs.YtcaicgipibcicaaGreat
