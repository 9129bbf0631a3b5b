/- AuditBest: the walk. -/
import Derived.Test.YtcaicgipibcicaaGreatQBestF
import Derived.Test.YtcaicgipibcicaaGreatQTwinRec2
import Derived.Test.YtcaicgipibcicaaGreatQLives
import Derived.Test.YtcaicgipibcicaaGreatQAuRef5
import Derived.Deep.RegionHeld3
namespace Go.Proofs.YtcaicgipibcicaaGreat
set_option maxRecDepth 100000
set_option linter.unusedVariables false
set_option linter.unusedSimpArgs false
open Go.RowKit Go.Sort

theorem beyond_two (w : World) (g n m : Nat) (h0 : w.cell? ⟨g, 0, none⟩ = some (.int .i64 n)) (h1 : w.cell? ⟨g, 1, none⟩ = some (.int .i64 m)) (hn : n ≤ 9007199254740992) (hm : m ≤ 9007199254740992) :
    Calls Tryz.prog 10 #[.slice (some ⟨g, 0, none⟩) 2 2] w fun e w' => e = .returned (.bool (decide (1048576 < n + m))) ∧ w' = w := by
  by_cases h : 1048576 < n
  · rw [decide_eq_true (show 1048576 < n + m by omega)]
    have c1 : decide ((1048576 : Int) < (n : Int)) = true := decide_eq_true (by omega)
    go_enter Tryz.func10, Tryz.ntmps10
    go_wp2_with fail
    refine wp_loop_rounds 3 ?_
    rw [rounds_succ]
    go_wp2_with fail
    go_ret
    exact ⟨rfl, rfl⟩
  · have c1 : decide ((1048576 : Int) < (n : Int)) = false := decide_eq_false (by omega)
    by_cases h2 : 1048576 < n + m
    · rw [decide_eq_true h2]
      have c2 : decide ((1048576 : Int) < (n : Int) + (m : Int)) = true := decide_eq_true (by omega)
      go_enter Tryz.func10, Tryz.ntmps10
      go_wp2_with fail
      refine wp_loop_rounds 3 ?_
      rw [rounds_succ]
      go_wp2_with fail
      rw [rounds_succ]
      go_wp2_with fail
      go_ret
      exact ⟨rfl, rfl⟩
    · rw [decide_eq_false h2]
      have c2 : decide ((1048576 : Int) < (n : Int) + (m : Int)) = false := decide_eq_false (by omega)
      go_enter Tryz.func10, Tryz.ntmps10
      go_wp2_with fail
      refine wp_loop_rounds 3 ?_
      rw [rounds_succ]
      go_wp2_with fail
      rw [rounds_succ]
      go_wp2_with fail
      rw [rounds_succ]
      go_wp2_with fail
      go_ret
      exact ⟨rfl, rfl⟩

set_option maxHeartbeats 16000000 in
theorem bestW_any (w : World) (c : PConf) (v : RV) (po : Option Addr) (pn pc : Nat) (other : List PPair) (hb : v.wn ≤ 1000000000000000 ∧ v.kn ≤ 1000000000000000 ∧ v.en ≤ 1000000000000000 ∧ v.pn ≤ 1000000000000000 ∧ v.yn ≤ 1000000000000000 ∧ v.zn ≤ 1000000000000000)
    (hin : sizeN v ≤ 1048576 → v.In w) (hpn : pn ≤ 1000000000000000) (hp : other.length = pn) (hpr : RdC w po (cellsOf PPair.cells other)) :
    Calls Tryz.prog 7 #[.agg #[.int .i64 c.q, .int .i64 c.d, .int .i64 c.w, .int .i64 c.ttl, .int .i64 c.b], .agg #[.int .i64 v.x.tick, .slice v.wo v.wn v.wc, .slice v.ko v.kn v.kc, .int .i64 v.x.rows, .int .i64 v.x.cols, .slice v.eo v.en v.ec, .slice v.po v.pn v.pc, .slice v.yo v.yn v.yc, .slice v.zo v.zn v.zc], .slice po pn pc] w fun e w' => e = .returned (.bool true) ∧ Below w.heap.size w w' := by
  obtain ⟨h1, h2, h3, h4, h5, h6⟩ := hb
  have HC := Lib.hid (CrRel.begin w c v)
  have HIN0 := Lib.hid hin
  have HSN := Lib.hid (show sizeN v ≤ 7000000000000000 by unfold sizeN; omega)
  have HRS := Lib.hid (fun W => recordSize_any W v h1 h2 h3 h4 h5 h6)
  have HP := Lib.hid hp
  have HPR := Lib.hid hpr
  clear hin h1 h2 h3 h4 h5 h6 hp hpr
  go_enter Tryz.func7, Tryz.ntmps7
  go_upto_region 1 with fail
  generalize (w.alloc (.cells #[.int .i64 c.q, .int .i64 c.d, .int .i64 c.w, .int .i64 c.ttl, .int .i64 c.b] 23)).alloc (.cells #[.int .i64 v.x.tick, .slice v.wo v.wn v.wc, .slice v.ko v.kn v.kc, .int .i64 v.x.rows, .int .i64 v.x.cols, .slice v.eo v.en v.ec, .slice v.po v.pn v.pc, .slice v.yo v.yn v.yc, .slice v.zo v.zn v.zc] 34) = W at *
  have HHE := Lib.hid (show ∃ H X, w.heap.size = H ∧ w.heap.size + 1 = X from ⟨_, _, rfl, rfl⟩)
  obtain ⟨H, X, hH0, hX0⟩ := HHE.out
  have HH := Lib.hid (And.intro hH0 hX0)
  rw [hX0, hH0] at HC
  rw [hX0]
  try rw [hH0]
  clear hH0 hX0 HHE
  obtain ⟨g0, g1, g2, g3, g4, g5, g6, g7, g8⟩ := cells9 HC.out.h
  go_wp2_with fail
  clear g0 g1 g2 g3 g4 g5 g6 g7 g8
  refine (HRS.out W).mono ?_
  rintro e w2 ⟨rfl, hb2⟩
  have HC2 := Lib.hid (HC.out.keep hb2)
  clear hb2
  generalize hN : sizeN v = N at *
  have HNV := Lib.hid hN
  clear hN
  have HW3 := Lib.hid (HC2.out.one (.cells #[.int .i64 N, .int .i64 pn] 3))
  have HCE := Lib.hid (heap_alloc_new w2 (.cells #[.int .i64 N, .int .i64 pn] 3))
  go_wp2_with fail
  refine (beyond_two _ w2.heap.size N pn (cells2 HCE.out).1 (cells2 HCE.out).2 (by have := HSN.out; omega) (by omega)).mono ?_
  rintro e w3 ⟨rfl, rfl⟩
  generalize w2.alloc (.cells #[.int .i64 N, .int .i64 pn] 3) = w4 at *
  by_cases hbig : 1048576 < N + pn
  · rw [decide_eq_true hbig]
    go_wp2_with fail
    go_ret
    exact ⟨rfl, HW3.out.below⟩
  rw [decide_eq_false hbig]
  have HV := Lib.hid ((HIN0.out (by omega)).keep HW3.out.below)
  have hpn2 : pn ≤ 1048576 := by omega
  clear hbig hpn HIN0 HSN HRS HCE
  go_upto_region 3 with fail
  have HKS := Lib.hid (fun (w' : World) (hb : Below w4.heap.size w4 w') => show w'.cell? ⟨H, 0, none⟩ = some (.int .i64 c.q) ∧ w'.cell? ⟨H, 1, none⟩ = some (.int .i64 c.d) ∧ w'.cell? ⟨H, 2, none⟩ = some (.int .i64 c.w) ∧ w'.cell? ⟨H, 3, none⟩ = some (.int .i64 c.ttl) ∧ w'.cell? ⟨H, 4, none⟩ = some (.int .i64 c.b) ∧ w'.cell? ⟨X, 0, none⟩ = some (.int .i64 v.x.tick) ∧ w'.cell? ⟨X, 1, none⟩ = some (.slice v.wo v.wn v.wc) ∧ w'.cell? ⟨X, 2, none⟩ = some (.slice v.ko v.kn v.kc) ∧ w'.cell? ⟨X, 3, none⟩ = some (.int .i64 v.x.rows) ∧ w'.cell? ⟨X, 4, none⟩ = some (.int .i64 v.x.cols) ∧ w'.cell? ⟨X, 5, none⟩ = some (.slice v.eo v.en v.ec) ∧ w'.cell? ⟨X, 6, none⟩ = some (.slice v.po v.pn v.pc) ∧ w'.cell? ⟨X, 7, none⟩ = some (.slice v.yo v.yn v.yc) ∧ w'.cell? ⟨X, 8, none⟩ = some (.slice v.zo v.zn v.zc) from by
    have h := HW3.out.keep hb
    obtain ⟨c0, c1, c2, c3, c4⟩ := conf_cells (c := c) h.g
    obtain ⟨g0, g1, g2, g3, g4, g5, g6, g7, g8⟩ := cells9 h.h
    exact ⟨c0, c1, c2, c3, c4, g0, g1, g2, g3, g4, g5, g6, g7, g8⟩)
  have HD0 := Lib.hid (Below.refl w4.heap.size w4)
  have HD := Lib.hid (show Below w4.heap.size w4 w4.drew from (Below.refl _ _).drew)
  go_region_held3 (fun w' => w'.cell? ⟨H, 0, none⟩ = some (.int .i64 c.q) ∧ w'.cell? ⟨H, 1, none⟩ = some (.int .i64 c.d) ∧ w'.cell? ⟨H, 2, none⟩ = some (.int .i64 c.w) ∧ w'.cell? ⟨H, 3, none⟩ = some (.int .i64 c.ttl) ∧ w'.cell? ⟨H, 4, none⟩ = some (.int .i64 c.b) ∧ w'.cell? ⟨X, 0, none⟩ = some (.int .i64 v.x.tick) ∧ w'.cell? ⟨X, 1, none⟩ = some (.slice v.wo v.wn v.wc) ∧ w'.cell? ⟨X, 2, none⟩ = some (.slice v.ko v.kn v.kc) ∧ w'.cell? ⟨X, 3, none⟩ = some (.int .i64 v.x.rows) ∧ w'.cell? ⟨X, 4, none⟩ = some (.int .i64 v.x.cols) ∧ w'.cell? ⟨X, 5, none⟩ = some (.slice v.eo v.en v.ec) ∧ w'.cell? ⟨X, 6, none⟩ = some (.slice v.po v.pn v.pc) ∧ w'.cell? ⟨X, 7, none⟩ = some (.slice v.yo v.yn v.yc) ∧ w'.cell? ⟨X, 8, none⟩ = some (.slice v.zo v.zn v.zc))
    (first | with_reducible exact HKS.out _ HD0.out | with_reducible exact HKS.out _ HD.out | with_reducible exact HKS.out _ HB11.out | with_reducible exact HKS.out _ HB12.out)
    (first | (go_at_call 12; refine (twinRecord_any _ v (HV.out.keep HD.out)).mono ?_; rintro e w5 ⟨G1, G2, G3, G4, G5, G6, he, hb5, htw, hg⟩; replace he : e = .returned (.agg #[.int .i64 v.x.tick, .slice (some ⟨G1, 0, none⟩) v.wn (v.wn + 1), .slice (some ⟨G2, 0, none⟩) v.kn (v.kn + 1), .int .i64 v.x.rows, .int .i64 v.x.cols, .slice (some ⟨G3, 0, none⟩) v.en (v.en + 1), .slice (some ⟨G4, 0, none⟩) v.pn (v.pn + 1), .slice (some ⟨G5, 0, none⟩) v.yn (v.yn + 1), .slice (some ⟨G6, 0, none⟩) v.zn (v.zn + 1)]) := he; subst he; have HB11 := Lib.hid (Below.next HD.out hb5); have HTI := Lib.hid (htw.in HV.out); clear hb5 htw hg) | (go_at_call 13; refine (audit_any _ c (v.twin G1 G2 G3 G4 G5 G6) HTI.out).mono ?_; rintro e w6 ⟨rfl, hb6⟩; have HB12 := Lib.hid (Below.next HB11.out hb6); clear hb6))
  all_goals
    have HC6 := Lib.hid (HW3.out.keep HB12.out)
    have HV6 := Lib.hid (HV.out.keep HB12.out)
    obtain ⟨E, hE⟩ : ∃ E, auditE c v.x = E := ⟨_, rfl⟩
    have hE' : auditE c (v.twin G1 G2 G3 G4 G5 G6).x = E := hE
    have HEV := Lib.hid hE
    rw [hE']
    clear hE hE' HKS HD0 HD HTI HB11
    by_cases hE0 : E = 0
    · have HE0 := Lib.hid hE0
      have b1 : (E != 0) = false := by simp [hE0]
      have HBEST := Lib.hid (best_of (c := c) (x := v.x) (by rw [HEV.out, HE0.out]))
      clear hE0
      go_upto_region 5 with fail
      clear b1
      obtain ⟨c0, c1, c2, c3, c4⟩ := conf_cells (c := c) HC6.out.g
      obtain ⟨g0, g1, g2, g3, g4, g5, g6, g7, g8⟩ := cells9 HC6.out.h
      have ht1 : 1 ≤ v.x.tick := HBEST.out.2.tick
      have hw1 : 1 ≤ c.w := HBEST.out.2.tw
      have hm : v.x.tick.tmod c.w = v.x.tick % c.w := Int.tmod_eq_emod_of_nonneg (by omega)
      have e1 : (v.x.tick % c.w != 0) = false := by simp [HBEST.out.2.rem]
      have hq1 : (v.wn : Int) ≤ c.q := by rw [← HV6.out.wl]; exact HBEST.out.2.wq
      have hq2 : (v.kn : Int) ≤ c.d := by rw [← HV6.out.kl]; exact HBEST.out.2.dd
      go_wp2_with fail
      clear c0 c1 c2 c3 c4 g0 g1 g2 g3 g4 g5 g6 g7 g8 ht1 hw1 hm e1 hq1 hq2
      have hpb : v.pn ≤ 1048576 := HV6.out.pb
      have hwb : v.wn ≤ 1048576 := HV6.out.wb
      have hkb : v.kn ≤ 1048576 := HV6.out.kb
      obtain ⟨po1, hpo⟩ : ∃ a, v.po = a := ⟨_, rfl⟩
      have HPO := Lib.hid hpo
      rw [hpo]
      clear hpo
      go_loopw [8] (fun i wr => Hid (∃ j : Nat, i = .int .i64 j ∧ j ≤ v.pn ∧ CrRel w c v H X wr ∧ v.In wr)) (fun i _ => v.pn - (intOf i).toNat)
      case atStart => exact Lib.hid ⟨0, rfl, Nat.zero_le _, HC6.out, HV6.out⟩
      case round =>
        clear HC6 HV6
        obtain ⟨j, rfl, hj, hc, hv⟩ := hrel.out
        clear hrel
        have HCJ := Lib.hid hc
        have HVJ := Lib.hid hv
        clear hc hv
        by_cases hlt : j < v.pn
        · obtain ⟨p, hp⟩ : ∃ p, v.x.ps[j]? = some p := ⟨v.x.ps[j]'(by rw [HVJ.out.pl]; exact hlt), List.getElem?_eq_getElem _⟩
          obtain ⟨r, q, rfl, x, d, hx, hd, hf⟩ := HBEST.out.2.pair j p hp
          have hr1 : r < v.wn := by rw [← HVJ.out.wl]; exact (List.getElem?_eq_some_iff.1 hx).1
          have hq1 : q < v.kn := by rw [← HVJ.out.kl]; exact (List.getElem?_eq_some_iff.1 hd).1
          have HFF := Lib.hid hf
          have HXO := Lib.hid (HVJ.out.ok.ws x (List.mem_of_getElem? hx)).r
          have HDO := Lib.hid (HVJ.out.ok.ds d (List.mem_of_getElem? hd)).d
          have HWR := Lib.hid HVJ.out.wr
          have HKR := Lib.hid HVJ.out.kr
          have HPR2 := Lib.hid HVJ.out.pr
          rw [HPO.out] at HPR2
          obtain ⟨b1, o1, rfl, _⟩ := HPR2.out.place (by rw [cellsOf_length _ 2 PPair.cells_length, HVJ.out.pl]; omega)
          obtain ⟨b2, o2, hbo2, _⟩ := HWR.out.place (by rw [cellsOf_length _ 18 PWait.cells_length, HVJ.out.wl]; omega)
          obtain ⟨b3, o3, hbo3, _⟩ := HKR.out.place (by rw [cellsOf_length _ 14 PIdle.cells_length, HVJ.out.kl]; omega)
          rw [hbo2] at HWR
          rw [hbo3] at HKR
          have HCR := Lib.hid (fun (w' : World) (hw' : ∃ p : Regrown, w' = grow (redrawn wr p.d) p.os) (i : Nat) (u : Value) (hu : x.r.cells[i]? = some u) => show w'.cell? ⟨b2, o2 + r * 18 + i, none⟩ = some u from by
            obtain ⟨p, rfl⟩ := hw'
            have hi : i < 16 := (List.getElem?_eq_some_iff.1 hu).1
            exact cell_regrown (rdc_cell PWait.cells_length HWR.out hx i u (by rw [← hu, show x.r.cells = x.cells.take 16 from rfl, List.getElem?_take, if_pos hi])) _ _)
          have HCD := Lib.hid (fun (w' : World) (hw' : ∃ p : Regrown, w' = grow (redrawn wr p.d) p.os) (i : Nat) (u : Value) (hu : d.d.cells[i]? = some u) => show w'.cell? ⟨b3, o3 + q * 14 + i, none⟩ = some u from by
            obtain ⟨p, rfl⟩ := hw'
            have hi : i < 13 := (List.getElem?_eq_some_iff.1 hu).1
            exact cell_regrown (rdc_cell PIdle.cells_length HKR.out hd i u (by rw [← hu, show d.d.cells = d.cells.take 13 from rfl, List.getElem?_take, if_pos hi])) _ _)
          obtain ⟨x0', x1'⟩ := pair_at HPR2.out hp
          have x0 : wr.cell? ⟨b1, o1 + j * 2, none⟩ = some (.int .i64 r) := x0'
          have x1 : wr.cell? ⟨b1, o1 + j * 2 + 1, none⟩ = some (.int .i64 q) := x1'
          have f1 : decide ((r : Int) < 0) = false := decide_eq_false (by omega)
          have f2 : decide (v.wn ≤ r) = false := decide_eq_false (by omega)
          have f3 : decide ((q : Int) < 0) = false := decide_eq_false (by omega)
          have f4 : decide (v.kn ≤ q) = false := decide_eq_false (by omega)
          clear x0' x1'
          obtain ⟨g0, g1, g2, g3, g4, g5, g6, g7, g8⟩ := cells9 HCJ.out.h
          rw [hbo2] at g1
          rw [hbo3] at g2
          have HPJ := Lib.hid hp
          clear hp hx hd hf hbo2 hbo3
          have k0 := cell_regrown x0
          have k1 := cell_regrown x1
          have k2 := cell_regrown g1
          have k3 := cell_regrown g2
          have cQ : ∀ dd os, Calls Tryz.prog 28 #[.agg #[.int .u8 x.r.i0, .int .u8 x.r.i1, .int .u8 x.r.i2, .int .u8 x.r.i3, .int .u8 x.r.i4, .int .u8 x.r.i5, .int .u8 x.r.i6, .int .u8 x.r.i7, .int .i16 x.r.fx, .int .i16 x.r.fy, .int .i16 x.r.tx, .int .i16 x.r.ty, .int .u8 x.r.seats, .int .u8 x.r.classes, .int .i64 x.r.base, .int .i64 x.r.ttl], .agg #[.int .u8 d.d.i0, .int .u8 d.d.i1, .int .u8 d.d.i2, .int .u8 d.d.i3, .int .u8 d.d.i4, .int .u8 d.d.i5, .int .u8 d.d.i6, .int .u8 d.d.i7, .int .i16 d.d.ax, .int .i16 d.d.ay, .int .u8 d.d.seats, .int .u8 d.d.cls, .int .i64 d.d.radius]] (grow (redrawn wr dd) os) fun e w'' => e = .returned (.bool true) ∧ ∃ p : Regrown, w'' = grow (redrawn wr p.d) p.os := fun dd os => HFF.out ▸ Calls.regrown_of (fits_any _ x.r d.d HXO.out HDO.out)
          have qr0 : (0 : Int) ≤ (r : Int) := by omega
          have qr1 : (r : Int) < (v.wn : Int) := by omega
          have qq0 : (0 : Int) ≤ (q : Int) := by omega
          have qq1 : (q : Int) < (v.kn : Int) := by omega
          go_upto_region 11 with fail
          refine wp_region_quiet_below (by kernel_rfl) (by kernel_rfl) ?_
          iterate 46 (go_big_quiet_step (fail))
          go_big_quiet_want
          with_reducible refine quiet_load_in (o := ⟨some 115, _, _, _, _, _⟩) 77 (.tmp 114) ?_ b2 (o2 + r * 18) ?_ x.r.cells #[.int .u8 x.r.i0, .int .u8 x.r.i1, .int .u8 x.r.i2, .int .u8 x.r.i3, .int .u8 x.r.i4, .int .u8 x.r.i5, .int .u8 x.r.i6, .int .u8 x.r.i7, .int .i16 x.r.fx, .int .i16 x.r.fy, .int .i16 x.r.tx, .int .i16 x.r.ty, .int .u8 x.r.seats, .int .u8 x.r.classes, .int .i64 x.r.base, .int .i64 x.r.ttl] rfl _ HCR.out Tryz.underlying77 ?_ ?_ ?_
          · rfl
          · rfl
          · rfl
          · exact sz_req
          go_big_quiet_on
          simp only [Act.put, List.setIfInBounds_toArray, List.set_cons_zero, List.set_cons_succ]
          iterate 9 (go_big_quiet_step (fail))
          go_big_quiet_want
          with_reducible refine quiet_load_in (o := ⟨some 125, _, _, _, _, _⟩) 81 (.tmp 124) ?_ b3 (o3 + q * 14) ?_ d.d.cells #[.int .u8 d.d.i0, .int .u8 d.d.i1, .int .u8 d.d.i2, .int .u8 d.d.i3, .int .u8 d.d.i4, .int .u8 d.d.i5, .int .u8 d.d.i6, .int .u8 d.d.i7, .int .i16 d.d.ax, .int .i16 d.d.ay, .int .u8 d.d.seats, .int .u8 d.d.cls, .int .i64 d.d.radius] rfl _ HCD.out Tryz.underlying81 ?_ ?_ ?_
          · rfl
          · rfl
          · rfl
          · exact sz_drv
          go_big_quiet_on
          simp only [Act.put, List.setIfInBounds_toArray, List.set_cons_zero, List.set_cons_succ]
          go_big_quiet_step (exact cQ _ _)
          iterate 2 (go_big_quiet_step (fail))
          refine wpQuiet_nil ?_
          rintro _ ⟨⟨dq, osq⟩, rfl⟩
          have HC2 := Lib.hid (HCJ.out.keep (below_regrown wr dq osq))
          have HV2 := Lib.hid (HVJ.out.keep (below_regrown wr dq osq))
          clear k0 k1 k2 k3 cQ HCR HCD g0 g1 g2 g3 g4 g5 g6 g7 g8 x0 x1
          generalize grow (redrawn wr dq) osq = WX at *
          go_wp2_with fail
          go_loopw [9] (fun i wr => Hid (∃ k : Nat, i = .int .i64 k ∧ k ≤ j ∧ CrRel w c v H X wr ∧ v.In wr)) (fun i _ => j - (intOf i).toNat)
          case atStart => exact Lib.hid ⟨0, rfl, Nat.zero_le _, HC2.out, HV2.out⟩
          case round =>
            clear HC2 HV2
            obtain ⟨k, rfl, hk, hc, hv⟩ := hrel.out
            clear hrel
            have HCK := Lib.hid hc
            have HVK := Lib.hid hv
            clear hc hv
            by_cases hlk : k < j
            · obtain ⟨pk, hpk⟩ : ∃ pk, v.x.ps[k]? = some pk := ⟨v.x.ps[k]'(by rw [HVK.out.pl]; omega), List.getElem?_eq_getElem _⟩
              have HPK := Lib.hid HVK.out.pr
              rw [HPO.out] at HPK
              obtain ⟨y0, y1⟩ := pair_at HPK.out hpk
              obtain ⟨z0', z1'⟩ := pair_at HPK.out HPJ.out
              rename World => wk
              have z0 : wk.cell? ⟨b1, o1 + j * 2, none⟩ = some (.int .i64 r) := z0'
              have z1 : wk.cell? ⟨b1, o1 + j * 2 + 1, none⟩ = some (.int .i64 q) := z1'
              have HAP := Lib.hid (HBEST.out.2.apart k j pk _ hlk hpk HPJ.out)
              have m1 : (pk.r == (r : Int)) = false := by have := HAP.out.1; simpa using this
              have m2 : (pk.c == (q : Int)) = false := by have := HAP.out.2; simpa using this
              have hkp : k < v.pn := by omega
              clear hpk z0' z1'
              go_wp2_with fail
              go_quiet (fail)
              go_wp2_with fail
              have HC3 := Lib.hid (HCK.out.drewN nq)
              have HV3 := Lib.hid (HVK.out.keep (below_drewN (Below.refl _ _) nq))
              go_roundw
              case rel => exact Lib.hid ⟨k + 1, by go_num, by omega, HC3.out, HV3.out⟩
              case measure => simp [intOf]; omega
            · obtain rfl : j = k := by omega
              go_wp2_with fail
              go_roundw
              case rel => exact Lib.hid ⟨j + 1, by go_num, by omega, HCK.out, HVK.out⟩
              case measure => simp [intOf]; omega
        · obtain rfl : v.pn = j := by omega
          go_wp2_with fail
          go_loopw [10] (fun i wr => Hid (∃ j : Nat, i = .int .i64 j ∧ j ≤ v.wn ∧ CrRel w c v H X wr ∧ v.In wr)) (fun i _ => v.wn - (intOf i).toNat)
          case atStart => exact Lib.hid ⟨0, rfl, Nat.zero_le _, HCJ.out, HVJ.out⟩
          case round =>
            clear HCJ HVJ
            rename World => wr
            obtain ⟨k, rfl, hk, hc, hv⟩ := hrel.out
            clear hrel
            have HCK := Lib.hid hc
            have HVK := Lib.hid hv
            clear hc hv
            by_cases hlk : k < v.wn
            · obtain ⟨x, hx⟩ : ∃ x, v.x.ws[k]? = some x := ⟨v.x.ws[k]'(by rw [HVK.out.wl]; exact hlk), List.getElem?_eq_getElem _⟩
              obtain ⟨a1, a2, a3, a4⟩ := HBEST.out.2.wait k x hx
              have HXO := Lib.hid (HVK.out.ok.ws x (List.mem_of_getElem? hx))
              have htk : v.x.tick ≤ 9223372036854775807 := HVK.out.ok.tick.2
              have f1 : decide (x.since < 0) = false := decide_eq_false (by omega)
              have f2 : decide (v.x.tick < x.since) = false := decide_eq_false (by omega)
              have f3 : decide (x.r.ttl < v.x.tick - x.since) = false := decide_eq_false (by omega)
              have HWR := Lib.hid HVK.out.wr
              obtain ⟨b2, o2, hbo2, _⟩ := HWR.out.place (by rw [cellsOf_length _ 18 PWait.cells_length, HVK.out.wl]; omega)
              rw [hbo2] at HWR
              obtain ⟨g0, g1, g2, g3, g4, g5, g6, g7, g8⟩ := cells9 HCK.out.h
              rw [hbo2] at g1
              have HCE := Lib.hid (fun (i : Nat) (u : Value) (hu : x.cells[i]? = some u) => show wr.cell? ⟨b2, o2 + k * 18 + i, none⟩ = some u from rdc_cell PWait.cells_length HWR.out hx i u hu)
              obtain ⟨V, hV⟩ : ∃ V, V = x.cells.toArray := ⟨_, rfl⟩
              have HV1 := Lib.hid hV.symm
              have HSZV := Lib.hid (show (Tryz.prog.info? 79).map (·.size) = some V.size by rw [hV]; exact sz_wait)
              have HSN := Lib.hid (show 18 = V.size by rw [hV]; rfl)
              have HH2 := Lib.hid (heap_alloc_new wr (.cells V 79))
              have HCX := Lib.hid (head_cells HH2.out 18 (show x.cells = V.toList.take 18 by rw [hV]; rfl))
              have HC16 := Lib.hid (head_cells HH2.out 16 (show x.r.cells = V.toList.take 16 by rw [hV]; rfl))
              have HRV := Lib.hid (HCK.out.one (.cells V 79))
              have HVV := Lib.hid (HVK.out.keep ((Below.refl _ _).alloc (Nat.le_refl _) (.cells V 79)))
              have HA1 := Lib.hid a1
              clear hV hbo2 hx a1 a4
              go_upto_region 22 with (first | ((with_reducible refine wpList_load_elem (o := ⟨some 169, _, _, _, _, _⟩) ?_ 79 (.tmp 168) ?_ b2 (o2 + k * 18) ?_ x.cells V HV1.out _ HCE.out Tryz.underlying79 ?_ ?_ ?_); rfl; rfl; rfl; rfl; exact sz_wait) | ((with_reducible refine wpList_store_new (o := ⟨none, .store 79 (.tmp 11) (.tmp 169), _, _, _, _⟩) ?_ 79 (.tmp 11) (.tmp 169) ?_ _ V ?_ ?_ x.cells HV1.out HSZV.out ?_ x.cells_one ?_); rfl; rfl; rfl; rfl; exact HSN.out))
              generalize wr.alloc (.cells V 79) = W2 at *
              generalize wr.heap.size = H2 at *
              clear g0 g1 g2 g3 g4 g5 g6 g7 g8
              obtain ⟨q0, q1, q2, q3, q4⟩ := conf_cells (c := c) HRV.out.g
              go_wp2_with (first | ((with_reducible refine wpList_load_elem (o := ⟨some 172, _, _, _, _, _⟩) ?_ 77 (.tmp 171) ?_ H2 0 ?_ x.r.cells #[.int .u8 x.r.i0, .int .u8 x.r.i1, .int .u8 x.r.i2, .int .u8 x.r.i3, .int .u8 x.r.i4, .int .u8 x.r.i5, .int .u8 x.r.i6, .int .u8 x.r.i7, .int .i16 x.r.fx, .int .i16 x.r.fy, .int .i16 x.r.tx, .int .i16 x.r.ty, .int .u8 x.r.seats, .int .u8 x.r.classes, .int .i64 x.r.base, .int .i64 x.r.ttl] ?_ _ HC16.out Tryz.underlying77 ?_ ?_ ?_); rfl; rfl; rfl; rfl; rfl; exact sz_req))
              refine (check_any W2 c x.r).mono ?_
              rintro e w7 ⟨rfl, hb7⟩
              have hk7 := Keep.of_below hb7 (Nat.le_refl _) (fun _ => False)
              have z16 : w7.cell? ⟨H2, 16, none⟩ = some (.int .i64 x.since) := by have := hk7.cell (HCX.out 16 _ rfl) id; rwa [Nat.zero_add] at this
              have z15 : w7.cell? ⟨H2, 15, none⟩ = some (.int .i64 x.r.ttl) := by have := hk7.cell (HCX.out 15 _ rfl) id; rwa [Nat.zero_add] at this
              have HC7 := Lib.hid (HRV.out.keep hb7)
              have HV7 := Lib.hid (HVV.out.keep hb7)
              rw [HA1.out]
              clear hb7 hk7 q0 q1 q2 q3 q4
              obtain ⟨g0, g1, g2, g3, g4, g5, g6, g7, g8⟩ := cells9 HC7.out.h
              go_wp2_with fail
              go_roundw
              case rel => exact Lib.hid ⟨k + 1, by go_num, by omega, HC7.out, HV7.out⟩
              case measure => simp [intOf]; omega
            · obtain rfl : v.wn = k := by omega
              obtain ⟨g0, g1, g2, g3, g4, g5, g6, g7, g8⟩ := cells9 HCK.out.h
              go_wp2_with fail
              clear g0 g1 g2 g3 g4 g5 g6 g7 g8
              have heb : v.en ≤ 1048576 := HVK.out.eb
              have HWE := Lib.hid (worthE_yes HBEST.out.2.graph HBEST.out.2.good)
              have HMO := Lib.hid (HBEST.out.2.most other)
              refine (twinGraph_any _ v.x.rows v.x.cols v.eo v.en v.ec v.x.es HVK.out.el HVK.out.er HVK.out.eb).mono ?_
              rintro e wa ⟨Ga, rfl, hta⟩
              have HTA := Lib.hid hta.rdc
              have HCA := Lib.hid (HCK.out.keep hta.below)
              have HVA := Lib.hid (HVK.out.keep hta.below)
              clear hta
              go_wp2_with fail
              refine (twinPair_any _ po1 v.pn v.pc v.x.ps HVA.out.pl (by rw [← HPO.out]; exact HVA.out.pr) HVA.out.pb).mono ?_
              rintro e wb ⟨Gb, rfl, htb⟩
              have HTA2 := Lib.hid (HTA.out.below htb.below)
              have HTB := Lib.hid htb.rdc
              have HCB := Lib.hid (HCA.out.keep htb.below)
              have HVB := Lib.hid (HVA.out.keep htb.below)
              clear htb
              go_wp2_with fail
              refine (worth_any _ v.x.rows v.x.cols (some ⟨Ga, 0, none⟩) (some ⟨Gb, 0, none⟩) v.en (v.en + 1) v.pn (v.pn + 1) v.x.es v.x.ps HVB.out.el HTA2.out (by omega) HVB.out.pl HTB.out (by omega)).mono ?_
              rintro e wd ⟨rfl, hbd⟩
              rw [HWE.out]
              have HCD := Lib.hid (HCB.out.keep hbd)
              have HVD := Lib.hid (HVB.out.keep hbd)
              clear hbd
              generalize worthF v.x.es v.x.ps = nn at *
              obtain ⟨g0, g1, g2, g3, g4, g5, g6, g7, g8⟩ := cells9 HCD.out.h
              go_wp2_with fail
              clear g0 g1 g2 g3 g4 g5 g6 g7 g8
              refine (twinGraph_any _ v.x.rows v.x.cols v.eo v.en v.ec v.x.es HVD.out.el HVD.out.er HVD.out.eb).mono ?_
              rintro e wa ⟨Gc, rfl, hta⟩
              have HTC := Lib.hid hta.rdc
              have HCE := Lib.hid (HCD.out.keep hta.below)
              have HVE := Lib.hid (HVD.out.keep hta.below)
              clear hta
              go_wp2_with fail
              refine (twinPair_any _ po pn pc other HP.out (HPR.out.below HCE.out.below) hpn2).mono ?_
              rintro e wb ⟨Gd, rfl, htb⟩
              have HTC2 := Lib.hid (HTC.out.below htb.below)
              have HTD := Lib.hid htb.rdc
              have HCF := Lib.hid (HCE.out.keep htb.below)
              have HVF := Lib.hid (HVE.out.keep htb.below)
              clear htb
              go_wp2_with fail
              refine (worth_any _ v.x.rows v.x.cols (some ⟨Gc, 0, none⟩) (some ⟨Gd, 0, none⟩) v.en (v.en + 1) pn (pn + 1) v.x.es other HVF.out.el HTC2.out (by omega) HP.out HTD.out (by omega)).mono ?_
              rintro e wd ⟨rfl, hbd⟩
              have HCG := Lib.hid (HCF.out.keep hbd)
              have hmo := HMO.out
              clear hbd
              generalize (worthE v.x.rows v.x.cols v.x.es other).1 = mm at *
              generalize (worthE v.x.rows v.x.cols v.x.es other).2 = me at *
              have hmd : decide (mm ≤ nn) = true := decide_eq_true hmo
              go_wp2_with fail
              refine (lives_any _).mono ?_
              rintro e wf ⟨rfl, hbf⟩
              have HE := Lib.hid (HCG.out.keep hbf).below
              clear hbf
              go_wp2_with fail
              go_ret
              exact ⟨rfl, HE.out⟩
    · have b1 : (E != 0) = true := by simp [hE0]
      go_wp2_with fail
      refine (lives_any w6).mono ?_
      rintro e w7 ⟨rfl, hb7⟩
      have HE := Lib.hid (HC6.out.keep hb7).below
      clear hb7
      go_wp2_with fail
      go_ret
      exact ⟨rfl, HE.out⟩
end Go.Proofs.YtcaicgipibcicaaGreat
