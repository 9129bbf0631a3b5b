/- AuditSees: the walk. -/
import Derived.Test.YtcaicgipibcicaaGreatQRdr
import Derived.Test.YtcaicgipibcicaaGreatQLives
import Derived.Deep.CutRange
import Derived.Deep.RegionHeld3
namespace Go.Proofs.YtcaicgipibcicaaGreat
set_option maxRecDepth 100000
set_option linter.unusedVariables false
set_option linter.unusedSimpArgs false
open Go.RowKit Go.Sort

theorem sizeN_le {vs : List RV} {v : RV} (hv : v ∈ vs) : sizeN v ≤ sumR vs := by
  unfold sumR
  induction vs with
  | nil => cases hv
  | cons u vs ih =>
    rw [List.map_cons, List.sum_cons]
    rcases List.mem_cons.1 hv with rfl | h
    · omega
    · have := ih h; omega
theorem len_sumR (vs : List RV) : vs.length ≤ sumR vs := by
  unfold sumR
  induction vs with
  | nil => simp
  | cons u vs ih =>
    rw [List.map_cons, List.sum_cons, List.length_cons]
    have : 1 ≤ sizeN u := by unfold sizeN; omega
    omega
theorem small_recs {vs : List RV} (h : bigR 0 vs = false) : (∀ v ∈ vs, sizeN v ≤ 1048576) ∧ vs.length ≤ 1048576 := by
  rw [bigR_eq vs 0 (by omega)] at h
  have h := of_decide_eq_false h
  refine ⟨fun v hv => ?_, ?_⟩
  · have := sizeN_le hv; omega
  · have := len_sumR vs; omega
/-- Is it the second one's turn? -/
def selAt (bs : List Bool) (j : Nat) : Bool := (bs[j]?).getD false
theorem selAt_in {bs : List Bool} {j : Nat} {b : Bool} (h : bs[j]? = some b) : selAt bs j = b := by simp [selAt, h]
theorem selAt_out {bs : List Bool} {j : Nat} (h : bs.length ≤ j) : selAt bs j = false := by simp [selAt, List.getElem?_eq_none h]
/-- The two configurations in their boxes. -/
structure CdRel (w0 : World) (c d : PConf) (H : Nat) (wr : World) : Prop where
  c : wr.heap[H]? = some (.cells #[.int .i64 c.q, .int .i64 c.d, .int .i64 c.w, .int .i64 c.ttl, .int .i64 c.b] 23 (0, 0))
  d : wr.heap[H + 1]? = some (.cells #[.int .i64 d.q, .int .i64 d.d, .int .i64 d.w, .int .i64 d.ttl, .int .i64 d.b] 23 (0, 0))
  below : Below w0.heap.size w0 wr
theorem CdRel.next {w0 : World} {c d : PConf} {H : Nat} {wr w' : World} (h : CdRel w0 c d H wr) (hb : Below wr.heap.size wr w') : CdRel w0 c d H w' :=
  have hk := Keep.of_below hb (Nat.le_refl _) (fun _ => False)
  ⟨hk.old h.c id, hk.old h.d id, Below.next h.below hb⟩
theorem CdRel.begin (w : World) (c d : PConf) : CdRel w c d w.heap.size ((w.alloc (.cells #[.int .i64 c.q, .int .i64 c.d, .int .i64 c.w, .int .i64 c.ttl, .int .i64 c.b] 23)).alloc (.cells #[.int .i64 d.q, .int .i64 d.d, .int .i64 d.w, .int .i64 d.ttl, .int .i64 d.b] 23)) := by
  refine ⟨(Keep.alloc (fun _ => False) _ _).old (heap_alloc_new w _) id, ?_, ((Below.refl w.heap.size w).alloc (Nat.le_refl _) _).alloc (by simp) _⟩
  have := heap_alloc_new (w.alloc (.cells #[.int .i64 c.q, .int .i64 c.d, .int .i64 c.w, .int .i64 c.ttl, .int .i64 c.b] 23)) (.cells #[.int .i64 d.q, .int .i64 d.d, .int .i64 d.w, .int .i64 d.ttl, .int .i64 d.b] 23)
  rw [show (w.alloc (.cells #[.int .i64 c.q, .int .i64 c.d, .int .i64 c.w, .int .i64 c.ttl, .int .i64 c.b] 23)).heap.size = w.heap.size + 1 by simp] at this
  exact this
theorem lt_range {w : World} {g : Nat} {xs m : List Value} (h : w.rangeAt g 0 (xs ++ m)) (hm : 0 < m.length) : g < w.heap.size := by
  obtain ⟨v, hv⟩ : ∃ v, (xs ++ m)[0]? = some v := ⟨_, List.getElem?_eq_getElem (by rw [List.length_append]; omega)⟩
  exact World.block_lt_of_cell? w _ (h 0 v hv)
theorem room_of {v : RV} {G1 G2 G3 G4 G5 G6 : Nat} {w0 w : World} (h : TwinR v G1 G2 G3 G4 G5 G6 w) (hi : v.In w0) : w.there G1 0 (v.wn * 18) ∧ w.there G2 0 (v.kn * 14) ∧ w.there G3 0 (v.en * 3) ∧ w.there G4 0 (v.pn * 2) := by
  have h1 := h.rw
  have h2 := h.rk
  have h3 := h.re
  have h4 := h.rp
  rw [cellsOf_length _ 18 PWait.cells_length, hi.wl] at h1
  rw [cellsOf_length _ 14 PIdle.cells_length, hi.kl] at h2
  rw [cellsOf_length _ 3 PEdge.cells_length, hi.el] at h3
  rw [cellsOf_length _ 2 PPair.cells_length, hi.pl] at h4
  exact ⟨there_sub h1 (by omega), there_sub h2 (by omega), there_sub h3 (by omega), there_sub h4 (by omega)⟩
theorem below_one (w : World) (o : Obj) : Below w.heap.size w (w.alloc o) := (Below.refl w.heap.size w).alloc (Nat.le_refl _) o

set_option maxHeartbeats 32000000 in
theorem sees_any (w : World) (c d : PConf) (lo : Option Addr) (n cp : Nat) (vs : List RV) (so : Option Addr) (sn sc : Nat) (bs : List Bool) (hl : vs.length = n) (hr : RdC w lo (cellsOf RV.cells vs)) (hn : n ≤ 9007199254740992)
    (hb : ∀ v ∈ vs, v.wn ≤ 1000000000000000 ∧ v.kn ≤ 1000000000000000 ∧ v.en ≤ 1000000000000000 ∧ v.pn ≤ 1000000000000000 ∧ v.yn ≤ 1000000000000000 ∧ v.zn ≤ 1000000000000000) (hin : ∀ v ∈ vs, sizeN v ≤ 1048576 → v.In w)
    (hbl : bs.length = sn) (hbr : RdC w so (bs.map Value.bool)) (hsn : sn ≤ 9007199254740992) :
    Calls Tryz.prog 4 #[.agg #[.int .i64 c.q, .int .i64 c.d, .int .i64 c.w, .int .i64 c.ttl, .int .i64 c.b], .agg #[.int .i64 d.q, .int .i64 d.d, .int .i64 d.w, .int .i64 d.ttl, .int .i64 d.b], .slice lo n cp, .slice so sn sc] w fun e w' => e = .returned (.bool true) ∧ Below w.heap.size w w' := by
  have HC0 := Lib.hid (CdRel.begin w c d)
  have HL := Lib.hid hl
  have HR := Lib.hid hr
  have HB := Lib.hid hb
  have HIN0 := Lib.hid hin
  have HBL := Lib.hid hbl
  have HBR := Lib.hid hbr
  clear hl hr hb hin hbl hbr
  go_enter Tryz.func4, Tryz.ntmps4
  go_wp2_with fail
  generalize (w.alloc (.cells #[.int .i64 c.q, .int .i64 c.d, .int .i64 c.w, .int .i64 c.ttl, .int .i64 c.b] 23)).alloc (.cells #[.int .i64 d.q, .int .i64 d.d, .int .i64 d.w, .int .i64 d.ttl, .int .i64 d.b] 23) = W at *
  obtain ⟨H, hH⟩ : ∃ H, w.heap.size = H := ⟨_, rfl⟩
  have HH := Lib.hid hH
  rw [hH] at HC0 ⊢
  clear hH
  refine (beyondRecords_any W lo n cp vs HL.out (HR.out.below HC0.out.below) hn HB.out).mono ?_
  rintro e w2 ⟨rfl, hb2⟩
  have HC2 := Lib.hid (HC0.out.next hb2)
  clear hb2
  cases hbig : bigR 0 vs with
  | true =>
    go_wp2_with fail
    go_ret
    exact ⟨rfl, HC2.out.below⟩
  | false =>
    have HSM := Lib.hid (small_recs hbig)
    have HIN := Lib.hid (fun v (hv : v ∈ vs) => HIN0.out v hv (HSM.out.1 v hv))
    have hn2 : n ≤ 1048576 := by rw [← HL.out]; exact HSM.out.2
    clear hbig hn HIN0 HB
    obtain ⟨g0, g1, g2, g3, g4⟩ := conf_cells (c := c) HC2.out.c
    go_wp2_with fail
    clear g0 g1 g2 g3 g4
    refine (newAu_one w2 c).mono ?_
    rintro e w3 ⟨pv1, rfl, hb3, hpe1, hpg1, hnew1⟩
    have HC3 := Lib.hid (HC2.out.next hb3)
    have HB3 := Lib.hid hb3
    have HN1 := Lib.hid hnew1
    have HPE1 := Lib.hid hpe1
    have HPG1 := Lib.hid hpg1
    clear hb3 hpe1 hpg1 hnew1
    obtain ⟨g0, g1, g2, g3, g4⟩ := conf_cells (c := d) HC3.out.d
    go_wp2_with fail
    clear g0 g1 g2 g3 g4
    refine (newAu_one w3 d).mono ?_
    rintro e w4 ⟨pv2, rfl, hb4, hpe2, hpg2, hnew2⟩
    have HC4 := Lib.hid (HC3.out.next hb4)
    have HB4 := Lib.hid hb4
    have HN2 := Lib.hid hnew2
    have HPE2 := Lib.hid hpe2
    have HPG2 := Lib.hid hpg2
    clear hb4 hpe2 hpg2 hnew2
    obtain ⟨g0, g1, g2, g3, g4⟩ := conf_cells (c := c) HC4.out.c
    go_wp2_with fail
    clear g0 g1 g2 g3 g4
    obtain ⟨cs1, hv1, hl1, ho1, hg1⟩ := rnewV_cells c
    obtain ⟨cs2, hv2, hl2, ho2, hg2⟩ := rnewV_cells d
    obtain ⟨V1, hV1⟩ : ∃ V1, cs1.toArray = V1 := ⟨_, rfl⟩
    obtain ⟨V2, hV2⟩ : ∃ V2, cs2.toArray = V2 := ⟨_, rfl⟩
    have HV1 := Lib.hid hV1
    have HV2 := Lib.hid hV2
    have HO1 := Lib.hid ho1
    have HO2 := Lib.hid ho2
    have HG1 := Lib.hid hg1
    have HG2 := Lib.hid hg2
    have HI1 := Lib.hid (show (Tryz.prog.info? 50).map (·.size) = some V1.size by rw [← hV1, List.size_toArray, hl1]; kernel_rfl)
    have HI2 := Lib.hid (show (Tryz.prog.info? 50).map (·.size) = some V2.size by rw [← hV2, List.size_toArray, hl2]; kernel_rfl)
    have HS1 := Lib.hid (show 6 = V1.size by rw [← hV1, List.size_toArray, hl1])
    have HS2 := Lib.hid (show 6 = V2.size by rw [← hV2, List.size_toArray, hl2])
    have HVV1 := Lib.hid (hV1 ▸ hv1 : rnewV c = .agg V1)
    have HVV2 := Lib.hid (hV2 ▸ hv2 : rnewV d = .agg V2)
    clear hV1 hV2 hv1 hv2 hl1 hl2 ho1 ho2 hg1 hg2
    refine (rnewAu_any w4 c).mono ?_
    rintro e w5 ⟨rfl, hb5⟩
    rw [HVV1.out]
    have HB5 := Lib.hid hb5
    have HC5 := Lib.hid ((HC4.out.next hb5).next (below_one w5 (.cells V1 50)))
    clear hb5
    obtain ⟨g0, g1, g2, g3, g4⟩ := conf_cells (c := d) HC5.out.d
    go_wp2_with (first | ((with_reducible refine wpList_store_new (o := ⟨none, .store 50 (.tmp 13) (.tmp 37), _, _, _, _⟩) ?_ 50 (.tmp 13) (.tmp 37) ?_ _ V1 ?_ ?_ cs1 HV1.out HI1.out ?_ HO1.out ?_); rfl; rfl; rfl; rfl; exact HS1.out))
    clear g0 g1 g2 g3 g4
    refine (rnewAu_any _ d).mono ?_
    rintro e w6 ⟨rfl, hb6⟩
    rw [HVV2.out]
    have HB6 := Lib.hid hb6
    have HBX := Lib.hid (below_one w6 (.cells V2 50))
    have HC6 := Lib.hid ((HC5.out.next hb6).next HBX.out)
    clear hb6
    have HE1 := Lib.hid (configE_or c)
    have HE2 := Lib.hid (configE_or d)
    have hpe1 := HPE1.out
    have hpe2 := HPE2.out
    have hpg1 := HPG1.out 53
    have hpg2 := HPG2.out 60
    generalize configE c = E1 at *
    generalize configE d = E2 at *
    obtain ⟨U1, hd1, hu1⟩ := Duo.begin (w3 := w6.alloc (.cells V2 50)) (N := w.heap.size) HN1.out HC2.out.below.size HB3.out.size
      ((HB4.out.trans ((HB5.out.trans (((below_one w5 (.cells V1 50)).trans ((HB6.out.trans (HBX.out.mono HB6.out.size)).mono (below_one w5 (.cells V1 50)).size)).mono HB5.out.size)).mono HB4.out.size)))
      (Nat.le_trans HB4.out.size HB5.out.size) HG1.out (by rw [HV1.out]; exact (Keep.of_below (HB6.out.trans (HBX.out.mono HB6.out.size)) (Nat.le_refl _) (fun _ => False)).old (heap_alloc_new w5 _) id)
    obtain ⟨U2, hd2, hu2⟩ := Duo.begin (w3 := w6.alloc (.cells V2 50)) (N := w.heap.size) HN2.out HC3.out.below.size HB4.out.size
      ((HB5.out.trans (((below_one w5 (.cells V1 50)).trans ((HB6.out.trans (HBX.out.mono HB6.out.size)).mono (below_one w5 (.cells V1 50)).size)).mono HB5.out.size)))
      (Nat.le_trans HB5.out.size (Nat.le_trans (by simp) HB6.out.size)) HG2.out (by rw [HV2.out]; exact heap_alloc_new w6 _)
    have HS0 := Lib.hid (show SsAt w c d pv1 pv2 w5.heap.size w6.heap.size 0 0 0 (w6.alloc (.cells V2 50)) from by
      have s4 := HB4.out.size
      have s5 := HB5.out.size
      have s6 := HB6.out.size
      have sx : w5.heap.size + 1 ≤ w6.heap.size := by simpa using s6
      refine ⟨HC6.out.below, Nat.zero_le _, U1, U2, hd1, hd2, fun g h1 h2 => ?_, fun g _ => .inr (Nat.zero_le _)⟩
      rcases hu1 g h1 with h1 | h1 <;> rcases hu2 g h2 with h2 | h2 <;> omega)
    clear hd1 hd2 hu1 hu2
    go_wp2_with (first | ((with_reducible refine wpList_store_new (o := ⟨none, .store 50 (.tmp 15) (.tmp 42), _, _, _, _⟩) ?_ 50 (.tmp 15) (.tmp 42) ?_ _ V2 ?_ ?_ cs2 HV2.out HI2.out ?_ HO2.out ?_); rfl; rfl; rfl; rfl; exact HS2.out))
    clear hpe1 hpe2 hpg1 hpg2 HPE1 HPE2 HPG1 HPG2 HN1 HN2 HG1 HG2 HV1 HV2 HVV1 HVV2 HO1 HO2 HI1 HI2 HS1 HS2
    generalize w5.heap.size = R1 at *
    generalize w6.heap.size = R2 at *
    generalize w6.alloc (.cells V2 50) = W6 at *
    clear HC2 HC3 HC4 HC5 HC6 HB3 HB4 HB5 HB6 HBX HC0
    go_loopw [18] (fun i wr => Hid (∃ j : Nat, i = .int .i64 j ∧ j ≤ n ∧ SsAt w c d pv1 pv2 R1 R2 j 0 0 wr)) (fun i _ => n - (intOf i).toNat)
    case atStart => exact Lib.hid ⟨0, rfl, Nat.zero_le _, HS0.out⟩
    case round =>
      clear HS0
      obtain ⟨j, rfl, hj, hr⟩ := hrel.out
      clear hrel
      have HSJ := Lib.hid hr
      clear hr
      by_cases hlt : j < n
      · obtain ⟨v, hv⟩ : ∃ v, vs[j]? = some v := ⟨vs[j]'(by rw [HL.out]; exact hlt), List.getElem?_eq_getElem _⟩
        obtain ⟨b, o, hbo, _⟩ := HR.out.place (by rw [cellsOf_length _ 9 RV.cells_length, HL.out]; omega)
        have HRD := Lib.hid HR.out
        rw [hbo] at HRD
        generalize lo = lo at *
        subst hbo
        have HINV := Lib.hid (HIN.out v (List.mem_of_getElem? hv))
        have HCE := Lib.hid (fun (w' : World) (hb : Below w.heap.size w w') (i : Nat) (u : Value) (hu : v.cells[i]? = some u) => show w'.cell? ⟨b, o + j * 9 + i, none⟩ = some u from rdc_cell RV.cells_length (HRD.out.below hb) hv i u hu)
        clear hv
        have HBJ := Lib.hid HSJ.out.1
        go_wp2_with (first | ((with_reducible refine wpList_load_elem (o := ⟨some 75, _, _, _, _, _⟩) ?_ 34 (.tmp 74) ?_ b (o + j * 9) ?_ v.cells #[.int .i64 v.x.tick, .slice v.wo v.wn v.wc, .slice v.ko v.kn v.kc, .int .i64 v.x.rows, .int .i64 v.x.cols, .slice v.eo v.en v.ec, .slice v.po v.pn v.pc, .slice v.yo v.yn v.yc, .slice v.zo v.zn v.zc] ?_ _ (HCE.out _ HBJ.out) Tryz.underlying34 ?_ ?_ ?_); rfl; rfl; rfl; rfl; rfl; exact sz_rec))
        refine (twinRecord_any wr v (HINV.out.below HBJ.out)).mono ?_
        rintro e w5 ⟨G1, G2, G3, G4, G5, G6, he, hb5, htw, hg⟩
        replace he : e = .returned (.agg #[.int .i64 v.x.tick, .slice (some ⟨G1, 0, none⟩) v.wn (v.wn + 1), .slice (some ⟨G2, 0, none⟩) v.kn (v.kn + 1), .int .i64 v.x.rows, .int .i64 v.x.cols, .slice (some ⟨G3, 0, none⟩) v.en (v.en + 1), .slice (some ⟨G4, 0, none⟩) v.pn (v.pn + 1), .slice (some ⟨G5, 0, none⟩) v.yn (v.yn + 1), .slice (some ⟨G6, 0, none⟩) v.zn (v.zn + 1)]) := he
        subst he
        have HB5 := Lib.hid (hb5.trans ((below_one w5 (.cells #[.int .i64 v.x.tick, .slice (some ⟨G1, 0, none⟩) v.wn (v.wn + 1), .slice (some ⟨G2, 0, none⟩) v.kn (v.kn + 1), .int .i64 v.x.rows, .int .i64 v.x.cols, .slice (some ⟨G3, 0, none⟩) v.en (v.en + 1), .slice (some ⟨G4, 0, none⟩) v.pn (v.pn + 1), .slice (some ⟨G5, 0, none⟩) v.yn (v.yn + 1), .slice (some ⟨G6, 0, none⟩) v.zn (v.zn + 1)] 34)).mono hb5.size))
        have HT6 := Lib.hid (show SsTw v G1 G2 G3 G4 G5 G6 w5.heap.size wr.heap.size (w5.alloc (.cells #[.int .i64 v.x.tick, .slice (some ⟨G1, 0, none⟩) v.wn (v.wn + 1), .slice (some ⟨G2, 0, none⟩) v.kn (v.kn + 1), .int .i64 v.x.rows, .int .i64 v.x.cols, .slice (some ⟨G3, 0, none⟩) v.en (v.en + 1), .slice (some ⟨G4, 0, none⟩) v.pn (v.pn + 1), .slice (some ⟨G5, 0, none⟩) v.yn (v.yn + 1), .slice (some ⟨G6, 0, none⟩) v.zn (v.zn + 1)] 34)).heap.size (w5.alloc (.cells #[.int .i64 v.x.tick, .slice (some ⟨G1, 0, none⟩) v.wn (v.wn + 1), .slice (some ⟨G2, 0, none⟩) v.kn (v.kn + 1), .int .i64 v.x.rows, .int .i64 v.x.cols, .slice (some ⟨G3, 0, none⟩) v.en (v.en + 1), .slice (some ⟨G4, 0, none⟩) v.pn (v.pn + 1), .slice (some ⟨G5, 0, none⟩) v.yn (v.yn + 1), .slice (some ⟨G6, 0, none⟩) v.zn (v.zn + 1)] 34)) from by
          have hs := hb5.size
          have l1 := lt_range htw.w (by decide)
          have l2 := lt_range htw.k (by decide)
          have l3 := lt_range htw.e (by decide)
          have l4 := lt_range htw.p (by decide)
          have l5 := lt_range htw.y (by decide)
          have l6 := lt_range htw.z (by decide)
          obtain ⟨h1, h2, h3, h4, h5, h6⟩ := hg
          have hsz : (w5.alloc (.cells #[.int .i64 v.x.tick, .slice (some ⟨G1, 0, none⟩) v.wn (v.wn + 1), .slice (some ⟨G2, 0, none⟩) v.kn (v.kn + 1), .int .i64 v.x.rows, .int .i64 v.x.cols, .slice (some ⟨G3, 0, none⟩) v.en (v.en + 1), .slice (some ⟨G4, 0, none⟩) v.pn (v.pn + 1), .slice (some ⟨G5, 0, none⟩) v.yn (v.yn + 1), .slice (some ⟨G6, 0, none⟩) v.zn (v.zn + 1)] 34)).heap.size = w5.heap.size + 1 := by simp
          exact ⟨heap_alloc_new w5 _, htw.keep (below_one w5 _), ⟨h1, h2, h3, h4, h5, h6, hs⟩, by omega⟩)
        have HS6 := Lib.hid (HSJ.out.apart HB5.out)
        have HWR := Lib.hid HBJ.out.size
        clear hb5 htw hg
        go_upto_region 16 with fail
        generalize w5.alloc (.cells #[.int .i64 v.x.tick, .slice (some ⟨G1, 0, none⟩) v.wn (v.wn + 1), .slice (some ⟨G2, 0, none⟩) v.kn (v.kn + 1), .int .i64 v.x.rows, .int .i64 v.x.cols, .slice (some ⟨G3, 0, none⟩) v.en (v.en + 1), .slice (some ⟨G4, 0, none⟩) v.pn (v.pn + 1), .slice (some ⟨G5, 0, none⟩) v.yn (v.yn + 1), .slice (some ⟨G6, 0, none⟩) v.zn (v.zn + 1)] 34) = w6 at *
        go_cut [86] from 66 to 132 (fun x wx => Hid (x = .bool (selAt bs j) ∧ wx = w6))
        case first =>
          by_cases hs : j < sn
          · obtain ⟨bb, hbb⟩ : ∃ bb, bs[j]? = some bb := ⟨bs[j]'(by rw [HBL.out]; exact hs), List.getElem?_eq_getElem _⟩
            obtain ⟨b2, o2, rfl, hc2⟩ := HBR.out.place (by rw [List.length_map, HBL.out]; omega)
            have q0 : w6.cell? ⟨b2, o2 + j, none⟩ = some (.bool bb) := (Keep.of_below HS6.out.1 (Nat.le_refl _) (fun _ => False)).cell (hc2 j _ (by rw [List.getElem?_map, hbb]; rfl)) id
            have HSEL := Lib.hid (selAt_in hbb)
            clear hbb hc2
            go_wp2_with fail
            go_meet
            exact Lib.hid ⟨by rw [HSEL.out], rfl⟩
          · have HSEL := Lib.hid (selAt_out (bs := bs) (j := j) (by rw [HBL.out]; omega))
            go_wp2_with fail
            go_meet
            exact Lib.hid ⟨by rw [HSEL.out], rfl⟩
        case rest =>
          obtain ⟨rfl, rfl⟩ := hcut.out
          clear hcut
          generalize selAt bs j = sel at *
          generalize wc.heap.size = MM at *
          generalize w5.heap.size = TT at *
          go_upto_if 86 with fail
          go_cut [20, 21] from 66 to 132 (fun x y wx => Hid (∃ z : Int, x = .int .i64 z ∧ y = .int .i64 z ∧ SsAt w c d pv1 pv2 R1 R2 (j + 1) wr.heap.size MM wx ∧ SsTw v G1 G2 G3 G4 G5 G6 TT wr.heap.size MM wx))
          case first =>
            cases sel with
            | true =>
              obtain ⟨y0, y1, y2, y3, y4, y5, y6, y7, y8⟩ := cells9 HT6.out.t
              go_wp2_with fail
              clear y0 y1 y2 y3 y4 y5 y6 y7 y8
              refine (ss_see HS6.out.swap HT6.out HWR.out (by omega) HINV.out).mono ?_
              rintro e w7 ⟨z, rfl, hh, ht⟩
              have HHF := Lib.hid hh
              have HT7 := Lib.hid ht
              have HB7 := Lib.hid hh.1
              clear hh ht
              rcases HE2.out with ⟨rfl, hc⟩ | ⟨rfl, hc⟩
              · have HC := Lib.hid hc
                clear hc
                go_wp2_with (first | ((with_reducible refine wpList_load_elem (o := ⟨some 95, _, _, _, _, _⟩) ?_ 34 (.tmp 94) ?_ b (o + j * 9) ?_ v.cells #[.int .i64 v.x.tick, .slice v.wo v.wn v.wc, .slice v.ko v.kn v.kc, .int .i64 v.x.rows, .int .i64 v.x.cols, .slice v.eo v.en v.ec, .slice v.po v.pn v.pc, .slice v.yo v.yn v.yc, .slice v.zo v.zn v.zc] ?_ _ (HCE.out _ HB7.out) Tryz.underlying34 ?_ ?_ ?_); rfl; rfl; rfl; rfl; rfl; exact sz_rec))
                refine (ss_ref HHF.out HT7.out HC.out (by omega) HINV.out).mono ?_
                rintro e w8 ⟨rfl, hs8, ht8⟩
                have HR8 := Lib.hid (Exists.intro z ⟨rfl, rfl, (hs8).swap, ht8⟩ : ∃ z' : Int, Value.int .i64 z = .int .i64 z' ∧ Value.int .i64 z = .int .i64 z' ∧ SsAt w c d pv1 pv2 R1 R2 (j + 1) wr.heap.size MM w8 ∧ SsTw v G1 G2 G3 G4 G5 G6 TT wr.heap.size MM w8)
                clear hs8 ht8
                go_wp2_with fail
                go_meet
                exact HR8
              · obtain ⟨rfl, hs8⟩ := ss_bad HHF.out hc
                have HR8 := Lib.hid (Exists.intro 2 ⟨rfl, rfl, (hs8).swap, HT7.out⟩ : ∃ z' : Int, Value.int .i64 2 = .int .i64 z' ∧ Value.int .i64 2 = .int .i64 z' ∧ SsAt w c d pv1 pv2 R1 R2 (j + 1) wr.heap.size MM w7 ∧ SsTw v G1 G2 G3 G4 G5 G6 TT wr.heap.size MM w7)
                clear hs8 hc
                go_wp2_with fail
                go_meet
                exact HR8
            | false =>
              obtain ⟨y0, y1, y2, y3, y4, y5, y6, y7, y8⟩ := cells9 HT6.out.t
              go_wp2_with fail
              clear y0 y1 y2 y3 y4 y5 y6 y7 y8
              refine (ss_see HS6.out HT6.out HWR.out (by omega) HINV.out).mono ?_
              rintro e w7 ⟨z, rfl, hh, ht⟩
              have HHF := Lib.hid hh
              have HT7 := Lib.hid ht
              have HB7 := Lib.hid hh.1
              clear hh ht
              rcases HE1.out with ⟨rfl, hc⟩ | ⟨rfl, hc⟩
              · have HC := Lib.hid hc
                clear hc
                go_wp2_with (first | ((with_reducible refine wpList_load_elem (o := ⟨some 105, _, _, _, _, _⟩) ?_ 34 (.tmp 104) ?_ b (o + j * 9) ?_ v.cells #[.int .i64 v.x.tick, .slice v.wo v.wn v.wc, .slice v.ko v.kn v.kc, .int .i64 v.x.rows, .int .i64 v.x.cols, .slice v.eo v.en v.ec, .slice v.po v.pn v.pc, .slice v.yo v.yn v.yc, .slice v.zo v.zn v.zc] ?_ _ (HCE.out _ HB7.out) Tryz.underlying34 ?_ ?_ ?_); rfl; rfl; rfl; rfl; rfl; exact sz_rec))
                refine (ss_ref HHF.out HT7.out HC.out (by omega) HINV.out).mono ?_
                rintro e w8 ⟨rfl, hs8, ht8⟩
                have HR8 := Lib.hid (Exists.intro z ⟨rfl, rfl, hs8, ht8⟩ : ∃ z' : Int, Value.int .i64 z = .int .i64 z' ∧ Value.int .i64 z = .int .i64 z' ∧ SsAt w c d pv1 pv2 R1 R2 (j + 1) wr.heap.size MM w8 ∧ SsTw v G1 G2 G3 G4 G5 G6 TT wr.heap.size MM w8)
                clear hs8 ht8
                go_wp2_with fail
                go_meet
                exact HR8
              · obtain ⟨rfl, hs8⟩ := ss_bad HHF.out hc
                have HR8 := Lib.hid (Exists.intro 2 ⟨rfl, rfl, hs8, HT7.out⟩ : ∃ z' : Int, Value.int .i64 2 = .int .i64 z' ∧ Value.int .i64 2 = .int .i64 z' ∧ SsAt w c d pv1 pv2 R1 R2 (j + 1) wr.heap.size MM w7 ∧ SsTw v G1 G2 G3 G4 G5 G6 TT wr.heap.size MM w7)
                clear hs8 hc
                go_wp2_with fail
                go_meet
                exact HR8
          case rest =>
            obtain ⟨z, rfl, rfl, hs8, ht8⟩ := hcut.out
            have HS8 := Lib.hid hs8
            have HT8 := Lib.hid ht8
            clear hcut hs8 ht8 HS6 HT6
            obtain ⟨y0, y1, y2, y3, y4, y5, y6, y7, y8⟩ := cells9 HT8.out.t
            have HKS := Lib.hid (fun (w' : World) (hb : Below wc.heap.size wc w') => show w'.cell? ⟨TT, 0, none⟩ = some (.int .i64 v.x.tick) ∧ w'.cell? ⟨TT, 1, none⟩ = some (.slice (some ⟨G1, 0, none⟩) v.wn (v.wn + 1)) ∧ w'.cell? ⟨TT, 2, none⟩ = some (.slice (some ⟨G2, 0, none⟩) v.kn (v.kn + 1)) ∧ w'.cell? ⟨TT, 3, none⟩ = some (.int .i64 v.x.rows) ∧ w'.cell? ⟨TT, 4, none⟩ = some (.int .i64 v.x.cols) ∧ w'.cell? ⟨TT, 5, none⟩ = some (.slice (some ⟨G3, 0, none⟩) v.en (v.en + 1)) ∧ w'.cell? ⟨TT, 6, none⟩ = some (.slice (some ⟨G4, 0, none⟩) v.pn (v.pn + 1)) ∧ w'.cell? ⟨TT, 7, none⟩ = some (.slice (some ⟨G5, 0, none⟩) v.yn (v.yn + 1)) ∧ w'.cell? ⟨TT, 8, none⟩ = some (.slice (some ⟨G6, 0, none⟩) v.zn (v.zn + 1)) ∧ w'.cell? ⟨b, o + j * 9, none⟩ = some (.int .i64 v.x.tick) ∧ w'.cell? ⟨b, o + j * 9 + 1, none⟩ = some (.slice v.wo v.wn v.wc) ∧ w'.cell? ⟨b, o + j * 9 + 2, none⟩ = some (.slice v.ko v.kn v.kc) ∧ w'.cell? ⟨b, o + j * 9 + 3, none⟩ = some (.int .i64 v.x.rows) ∧ w'.cell? ⟨b, o + j * 9 + 4, none⟩ = some (.int .i64 v.x.cols) ∧ w'.cell? ⟨b, o + j * 9 + 5, none⟩ = some (.slice v.eo v.en v.ec) ∧ w'.cell? ⟨b, o + j * 9 + 6, none⟩ = some (.slice v.po v.pn v.pc) ∧ w'.cell? ⟨b, o + j * 9 + 7, none⟩ = some (.slice v.yo v.yn v.yc) ∧ w'.cell? ⟨b, o + j * 9 + 8, none⟩ = some (.slice v.zo v.zn v.zc) from
              have k := Keep.of_below hb (Nat.le_refl _) (fun _ => False)
              have hbb := Below.next HS8.out.1 hb
              ⟨k.cell y0 id, k.cell y1 id, k.cell y2 id, k.cell y3 id, k.cell y4 id, k.cell y5 id, k.cell y6 id, k.cell y7 id, k.cell y8 id,
                by have := HCE.out w' hbb 0 _ rfl; rwa [Nat.add_zero] at this, HCE.out w' hbb 1 _ rfl, HCE.out w' hbb 2 _ rfl, HCE.out w' hbb 3 _ rfl, HCE.out w' hbb 4 _ rfl, HCE.out w' hbb 5 _ rfl, HCE.out w' hbb 6 _ rfl, HCE.out w' hbb 7 _ rfl, HCE.out w' hbb 8 _ rfl⟩)
            have HD0 := Lib.hid (Below.refl wc.heap.size wc)
            have HD := Lib.hid (show Below wc.heap.size wc wc.drew from (Below.refl _ _).drew)
            clear y0 y1 y2 y3 y4 y5 y6 y7 y8
            go_upto_region 23 with fail
            go_region_held3 (fun w' => w'.cell? ⟨TT, 0, none⟩ = some (.int .i64 v.x.tick) ∧ w'.cell? ⟨TT, 1, none⟩ = some (.slice (some ⟨G1, 0, none⟩) v.wn (v.wn + 1)) ∧ w'.cell? ⟨TT, 2, none⟩ = some (.slice (some ⟨G2, 0, none⟩) v.kn (v.kn + 1)) ∧ w'.cell? ⟨TT, 3, none⟩ = some (.int .i64 v.x.rows) ∧ w'.cell? ⟨TT, 4, none⟩ = some (.int .i64 v.x.cols) ∧ w'.cell? ⟨TT, 5, none⟩ = some (.slice (some ⟨G3, 0, none⟩) v.en (v.en + 1)) ∧ w'.cell? ⟨TT, 6, none⟩ = some (.slice (some ⟨G4, 0, none⟩) v.pn (v.pn + 1)) ∧ w'.cell? ⟨TT, 7, none⟩ = some (.slice (some ⟨G5, 0, none⟩) v.yn (v.yn + 1)) ∧ w'.cell? ⟨TT, 8, none⟩ = some (.slice (some ⟨G6, 0, none⟩) v.zn (v.zn + 1)) ∧ w'.cell? ⟨b, o + j * 9, none⟩ = some (.int .i64 v.x.tick) ∧ w'.cell? ⟨b, o + j * 9 + 1, none⟩ = some (.slice v.wo v.wn v.wc) ∧ w'.cell? ⟨b, o + j * 9 + 2, none⟩ = some (.slice v.ko v.kn v.kc) ∧ w'.cell? ⟨b, o + j * 9 + 3, none⟩ = some (.int .i64 v.x.rows) ∧ w'.cell? ⟨b, o + j * 9 + 4, none⟩ = some (.int .i64 v.x.cols) ∧ w'.cell? ⟨b, o + j * 9 + 5, none⟩ = some (.slice v.eo v.en v.ec) ∧ w'.cell? ⟨b, o + j * 9 + 6, none⟩ = some (.slice v.po v.pn v.pc) ∧ w'.cell? ⟨b, o + j * 9 + 7, none⟩ = some (.slice v.yo v.yn v.yc) ∧ w'.cell? ⟨b, o + j * 9 + 8, none⟩ = some (.slice v.zo v.zn v.zc))
              (first | with_reducible exact HKS.out _ HD0.out | with_reducible exact HKS.out _ HD.out | with_reducible exact HKS.out _ HB11.out | with_reducible exact HKS.out _ HBA.out | with_reducible exact HKS.out _ HB12.out | with_reducible exact HKS.out _ HB13.out)
              (first | (go_at_call_of 20 (Value.pointer none); refine (see_nil _ (v.twin G1 G2 G3 G4 G5 G6)).mono ?_; rintro e w11 ⟨rfl, hb11⟩; have HB11 := Lib.hid (Below.next HD.out hb11); have HBA := Lib.hid (Below.next HB11.out (below_one w11 (.cells #[.int .i64 0, .int .i64 0, .int .i64 0, .int .i64 0, .int .i64 0, .int .i64 0, .map none] 56))); have HMC := Lib.hid (show (w11.alloc (.cells #[.int .i64 0, .int .i64 0, .int .i64 0, .int .i64 0, .int .i64 0, .int .i64 0, .map none] 56)).cell? ⟨w11.heap.size, 6, none⟩ = some (.map none) by rw [cell_of_row _ _ _ _ _ (0, 0) (heap_alloc_new w11 _)]; rfl); clear hb11) | (go_at_call_of 20 (Value.pointer (some ⟨w11.heap.size, 0, none⟩)); refine (see_bare _ w11.heap.size (v.twin G1 G2 G3 G4 G5 G6) HMC.out).mono ?_; rintro e w12 ⟨rfl, hb12⟩; have HB12 := Lib.hid (Below.next HBA.out hb12); clear hb12) | (go_at_call 15; refine (leftRecord_any _ v G1 G2 G3 G4 G5 G6 (HINV.out.below (Below.next HS8.out.1 HB12.out)) (HT8.out.next HB12.out).tw).mono ?_; rintro e w13 ⟨rfl, hb13⟩; have HB13 := Lib.hid (Below.next HB12.out hb13); clear hb13))
            all_goals
              have HT13 := Lib.hid (HT8.out.next HB13.out)
              have HS13 := Lib.hid (HS8.out.next HB13.out)
              obtain ⟨y0, y1, y2, y3, y4, y5, y6, y7, y8⟩ := cells9 HT13.out.t
              go_wp2_with fail
              clear y0 y1 y2 y3 y4 y5 y6 y7 y8
              have HRO := Lib.hid (room_of HT13.out.tw HINV.out)
              have HLT := Lib.hid (show G1 < w13.heap.size ∧ G2 < w13.heap.size ∧ G3 < w13.heap.size ∧ G4 < w13.heap.size from by
                have h1 := HT13.out.lt
                have h2 := HS13.out.2.1
                omega)
              refine (wipe_any _ v.x.tick v.x.rows v.x.cols G1 G2 G3 G4 v.wn (v.wn + 1) v.kn (v.kn + 1) v.en (v.en + 1) v.pn (v.pn + 1) _ _ ⟨HINV.out.wb, HINV.out.kb, HINV.out.eb, HINV.out.pb⟩ HLT.out HRO.out.1 HRO.out.2.1 HRO.out.2.2.1 HRO.out.2.2.2).mono ?_
              rintro e w14 ⟨rfl, hk14⟩
              have HS14 := Lib.hid (HS13.out.over HWR.out hk14 (fun g hg => by
                have h1 := HT13.out.lt
                have h2 := HT13.out.ge
                rcases hg with rfl | rfl | rfl | rfl <;> omega))
              clear hk14
              go_wp2_with fail
              go_roundw
              case rel => exact Lib.hid ⟨j + 1, by go_num, by omega, HS14.out⟩
              case measure => simp [intOf]; omega
      · obtain rfl : n = j := by omega
        go_wp2_with fail
        refine (lives_any wr).mono ?_
        rintro e w11 ⟨rfl, hb11⟩
        have HE := Lib.hid (HSJ.out.next hb11).1
        clear hb11
        go_wp2_with fail
        go_ret
        exact ⟨rfl, HE.out⟩
end Go.Proofs.YtcaicgipibcicaaGreat
