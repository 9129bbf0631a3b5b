/- Twins of ints. -/
import Derived.Test.YtcaicgipibcicaaGreatQLeft
import Derived.Deep.RegionHeld3
namespace Go.Proofs.YtcaicgipibcicaaGreat
set_option maxRecDepth 100000
set_option linter.unusedVariables false
set_option linter.unusedSimpArgs false
open Go.RowKit Go.Sort

def markIc : List Value := [.int .i64 (-8777)]

set_option maxHeartbeats 8000000 in
theorem twinInts_any (w : World) (ao : Option Addr) (k c : Nat) (xs : List Int) (hk : xs.length = k) (hr : RdC w ao (cellsOf icell xs)) (hb : k ≤ 1048576) :
    Calls Tryz.prog 83 #[.slice ao k c] w fun e w' => ∃ G, e = .returned (.slice (some ⟨G, 0, none⟩) k (k + 1)) ∧ Twin w G icell xs markIc w' := by
  have HL := Lib.hid hk
  have HR := Lib.hid hr
  obtain ⟨i5, hi, hz0, hz1, hz2⟩ := infos info_int
  obtain ⟨z, hz⟩ : ∃ z, i5.zero = some z := ⟨_, hz0⟩
  obtain ⟨M, hM⟩ : ∃ M, M = madeCells z.cells ((k + 1) * i5.size) := ⟨_, rfl⟩
  have hMs : M.size = (k + 1) * 1 := by rw [hM, size_madeCells, hz1]
  have hmk : (Instr.makeSlice 30 (.int .i64 ((k : Int) + 1)) (.int .i64 ((k : Int) + 1))).run Tryz.prog w = .ok (.slice (some ⟨w.heap.size, 0, none⟩) (k + 1) (k + 1)) (w.alloc (.cells M 3)) := by
    have h := run_make (P := Tryz.prog) w 30 3 i5 z Tryz.underlying30 hi hz .i64 .i64 ((k : Int) + 1) ((k : Int) + 1) (by omega) (by omega) (by rw [hz2]; omega) (by omega)
    have e : ((k : Int) + 1).toNat = k + 1 := by omega
    rw [e] at h
    rw [h, hM]
  have HT0 := Lib.hid (Tw.begin w icell 1 k xs M 3 hMs)
  have HS0 := Lib.hid (show (w.alloc (.cells M 3)).heap.size = w.heap.size + 1 by simp)
  clear hM hMs hk hr
  go_enter Tryz.func83, Tryz.ntmps83
  go_wp2_with fail
  generalize w.alloc (.cells M 3) = W at *
  generalize w.heap.size = G at *
  go_loopw [4] (fun i wr => Hid (∃ j : Nat, i = .int .i64 j ∧ j ≤ k ∧ Tw w G icell 1 k xs j wr ∧ G < wr.heap.size)) (fun i _ => k - (intOf i).toNat)
  case atStart => exact Lib.hid ⟨0, rfl, Nat.zero_le _, HT0.out, by rw [HS0.out]; omega⟩
  case round =>
    obtain ⟨j, rfl, hj, ht, hlt0⟩ := hrel.out
    clear hrel
    have HT := Lib.hid ht
    clear ht
    by_cases hlt : j < k
    · obtain ⟨x, hx⟩ : ∃ x, xs[j]? = some x := ⟨xs[j]'(by rw [HL.out]; exact hlt), List.getElem?_eq_getElem _⟩
      obtain ⟨b, o, rfl, _⟩ := HR.out.place (by rw [cellsOf_length _ 1 icell_length, HL.out]; omega)
      have hce := int_at (HR.out.below HT.out.below) hx
      have hroom := HT.out.room j (by omega)
      rw [Nat.zero_add] at hroom
      obtain ⟨hr1, hf0⟩ := hroom
      obtain ⟨u0, hc0⟩ := Option.isSome_iff_exists.1 hr1
      have HN := Lib.hid (HT.out.next icell_length hlt hx)
      have HNS := Lib.hid (show G < (wr.setCells G (j * 1) (icell x)).heap.size from Nat.lt_of_lt_of_le hlt0 (Keep.setCells wr G (j * 1) (icell x)).size)
      have e1 : wr.setCells G (j * 1) (icell x) = wr.setCell ⟨G, j, none⟩ (.int .i64 x) := by rw [Nat.mul_one]; rfl
      rw [e1] at HN HNS
      clear hx hr1 e1
      go_wp2_with fail
      go_roundw
      case rel => exact Lib.hid ⟨j + 1, by go_num, by omega, HN.out, HNS.out⟩
      case measure => simp [intOf]; omega
    · obtain rfl : k = j := by omega
      go_wp2_with fail
      refine (markInt_any wr).mono ?_
      rintro e w2 ⟨rfl, rfl⟩
      have hroom := HT.out.room k (by omega)
      rw [Nat.zero_add] at hroom
      obtain ⟨hr1, hf0⟩ := hroom
      obtain ⟨u0, hc0⟩ := Option.isSome_iff_exists.1 hr1
      have HE := Lib.hid (HT.out.end icell_length HL.out (mark := markIc) rfl)
      have e1 : w2.setCells G (k * 1) markIc = w2.setCell ⟨G, k, none⟩ (.int .i64 (-8777)) := by rw [Nat.mul_one]; rfl
      rw [e1] at HE
      clear hr1 e1
      go_wp2_with fail
      go_ret
      exact ⟨G, rfl, HE.out⟩

theorem isInt_any (w : World) : Calls Tryz.prog 144 #[.int .i64 (-8777), .int .i64 7777] w fun e w' => e = .returned (.bool true) ∧ w' = w := by
  go_enter Tryz.func144, Tryz.ntmps144
  go_wp2_with fail
  go_ret
  exact ⟨rfl, rfl⟩

set_option maxHeartbeats 4000000 in
theorem leftInts_any (w : World) (G : Nat) (ao : Option Addr) (k c : Nat) (xs : List Int) (hk : xs.length = k) (ht : w.rangeAt G 0 (cellsOf icell xs ++ markIc)) (hr : RdC w ao (cellsOf icell xs)) (hb : k ≤ 1048576) :
    Calls Tryz.prog 110 #[.slice (some ⟨G, 0, none⟩) k (k + 1), .slice ao k c] w fun e w' => e = .returned (.bool true) ∧ Below w.heap.size w w' := by
  have hlen : (cellsOf icell xs).length = k := by rw [cellsOf_length _ 1 icell_length, hk, Nat.mul_one]
  have HR1 := Lib.hid (show RdC w (some ⟨G, 0, none⟩) (cellsOf icell xs) from .inr ⟨G, 0, rfl, fun j u hu => ht j u (by rw [List.getElem?_append_left (List.getElem?_eq_some_iff.1 hu).1]; exact hu)⟩)
  have HM := Lib.hid (fun (w' : World) (hb : Below w.heap.size w w') => show w'.cell? ⟨G, k, none⟩ = some (.int .i64 (-8777)) from
    (Keep.of_below hb (Nat.le_refl _) (fun _ => False)).cell (by
      have := ht k (.int .i64 (-8777)) (by rw [List.getElem?_append_right (by omega), hlen, Nat.sub_self]; rfl)
      rwa [Nat.zero_add] at this) id)
  have HS := Lib.hid (sameInts_any w (some ⟨G, 0, none⟩) ao k (k + 1) c xs hk HR1.out hr (by omega))
  clear hk hr ht hlen
  go_enter Tryz.func110, Tryz.ntmps110
  go_wp2_with fail
  refine HS.out.mono ?_
  rintro e w2 ⟨rfl, hb2⟩
  have hc := HM.out w2 hb2
  have HB2 := Lib.hid hb2
  clear hb2
  go_wp2_with fail
  refine (isInt_any w2).mono ?_
  rintro e w3 ⟨rfl, rfl⟩
  go_wp2_with fail
  go_ret
  exact ⟨rfl, HB2.out⟩
end Go.Proofs.YtcaicgipibcicaaGreat

/- Twins of graphs, certificates, records. -/
namespace Go.Proofs.YtcaicgipibcicaaGreat
set_option maxRecDepth 100000
set_option linter.unusedVariables false
set_option linter.unusedSimpArgs false
open Go.RowKit Go.Sort

theorem range_keep {X : Nat → Prop} {w w' : World} {b o : Nat} {cs : List Value} (h : w.rangeAt b o cs) (hk : Keep X w w') (hx : ¬ X b) : w'.rangeAt b o cs := fun j v hv => hk.cell (h j v hv) hx
theorem range_below {w w' : World} {b o : Nat} {cs : List Value} (h : w.rangeAt b o cs) (hb : Below w.heap.size w w') : w'.rangeAt b o cs := range_keep h (Keep.of_below hb (Nat.le_refl _) (fun _ => False)) id

theorem keep1 (w : World) (g o : Nat) (v : Value) : Keep (fun k => k = g) w (w.setCell ⟨g, o, none⟩ v) := Keep.setCells w g o [v]

set_option maxHeartbeats 8000000 in
theorem twinGraph_any (w : World) (rows cols : Int) (eo : Option Addr) (en ec : Nat) (es : List PEdge) (hl : es.length = en) (hr : RdC w eo (cellsOf PEdge.cells es)) (hb : en ≤ 1048576) :
    Calls Tryz.prog 31 #[.agg #[.int .i64 rows, .int .i64 cols, .slice eo en ec]] w fun e w' => ∃ G, e = .returned (.agg #[.int .i64 rows, .int .i64 cols, .slice (some ⟨G, 0, none⟩) en (en + 1)]) ∧ Twin w G PEdge.cells es markEc w' := by
  have HW := Lib.hid (G2Rel.begin w rows cols (.slice eo en ec) 0 0 (.slice none 0 0))
  have HL := Lib.hid hl
  have HR := Lib.hid hr
  clear hl hr
  go_enter Tryz.func31, Tryz.ntmps31
  go_wp2_with fail
  generalize (w.alloc (.cells #[.int .i64 rows, .int .i64 cols, .slice eo en ec] 28)).alloc (.cells #[.int .i64 0, .int .i64 0, .slice none 0 0] 28) = W at *
  obtain ⟨B, hB⟩ : ∃ B, w.heap.size = B := ⟨_, rfl⟩
  rw [hB] at HW ⊢
  have HBH := Lib.hid hB
  clear hB
  refine (twinEdge_any W eo en ec es HL.out (HR.out.below HW.out.below) hb).mono ?_
  rintro e w1 ⟨G, rfl, ht⟩
  have HT := Lib.hid ht
  have hk := Keep.of_below ht.below (Nat.le_refl _) (fun _ => False)
  have hb1 := hk.old HW.out.g id
  have hb2 := hk.old HW.out.h id
  have hlt : B + 1 < W.heap.size := lt_of_block HW.out.h
  have hG : W.heap.size ≤ G := ht.ge
  obtain ⟨g0, g1, g2, gf⟩ := cells3 hb1
  obtain ⟨d0, d1, d2, df⟩ := cells3 hb2
  clear ht hk
  have hb2' : (w1.setCell ⟨B, 2, none⟩ (.slice (some ⟨G, 0, none⟩) en (en + 1))).heap[B + 1]? = some (.cells #[.int .i64 0, .int .i64 0, .slice none 0 0] 28 (0, 0)) := (keep1 w1 B 2 _).old hb2 (by omega)
  have HQ := Lib.hid (row_set (row_set (row_set hb2' 0 (.int .i64 rows)) 1 (.int .i64 cols)) 2 (.slice (some ⟨G, 0, none⟩) en (en + 1)))
  have HK := Lib.hid (show Keep (fun k => k = B ∨ k = B + 1) w1 ((((w1.setCell ⟨B, 2, none⟩ (.slice (some ⟨G, 0, none⟩) en (en + 1))).setCell ⟨B + 1, 0, none⟩ (.int .i64 rows)).setCell ⟨B + 1, 1, none⟩ (.int .i64 cols)).setCell ⟨B + 1, 2, none⟩ (.slice (some ⟨G, 0, none⟩) en (en + 1))) from
    (((keep1 w1 B 2 _).trans (keep1 _ (B + 1) 0 _) (fun _ _ h => .inl h) (fun _ _ h => .inr h)).trans (keep1 _ (B + 1) 1 _) (fun _ _ h => h) (fun _ _ h => .inr h)).trans (keep1 _ (B + 1) 2 _) (fun _ _ h => h) (fun _ _ h => .inr h))
  clear hb1 hb2 hb2'
  go_wp2_with fail
  generalize (((w1.setCell ⟨B, 2, none⟩ (.slice (some ⟨G, 0, none⟩) en (en + 1))).setCell ⟨B + 1, 0, none⟩ (.int .i64 rows)).setCell ⟨B + 1, 1, none⟩ (.int .i64 cols)).setCell ⟨B + 1, 2, none⟩ (.slice (some ⟨G, 0, none⟩) en (en + 1)) = WF at *
  refine bodyPost_ret (results_box 2 28 Tryz.results31 (B + 1) rfl #[.int .i64 rows, .int .i64 cols, .slice (some ⟨G, 0, none⟩) en (en + 1)] _ HQ.out _ Tryz.underlying28 rfl (by kernel_rfl)) rfl ?_
  exact ⟨G, rfl, range_keep HT.out.rng HK.out (by omega), (Below.next HW.out.below HT.out.below).trans (HK.out.below (Below.next HW.out.below HT.out.below).size (fun i hi h => by have := HBH.out; omega)), by have := HBH.out; omega, there_keep HT.out.room HK.out (by omega)⟩

/-- A certificate in a box of its own, a zero one in the next. -/
theorem boxes2 (w : World) (V Z : Array Value) (t : TypeId) : ∃ W, (w.alloc (.cells V t)).alloc (.cells Z t) = W ∧ W.heap[w.heap.size]? = some (.cells V t (0, 0)) ∧ W.heap[w.heap.size + 1]? = some (.cells Z t (0, 0)) ∧ Below w.heap.size w W := by
  refine ⟨_, rfl, (Keep.alloc (fun _ => False) _ _).old (heap_alloc_new w _) id, ?_, ((Below.refl w.heap.size w).alloc (Nat.le_refl _) _).alloc (by simp) _⟩
  have := heap_alloc_new (w.alloc (.cells V t)) (.cells Z t)
  rw [show (w.alloc (.cells V t)).heap.size = w.heap.size + 1 by simp] at this
  exact this

set_option maxHeartbeats 8000000 in
theorem twinCert_any (w : World) (po : Option Addr) (pn pc : Nat) (ps : List PPair) (yo : Option Addr) (yn yc : Nat) (ys : List Int) (zo : Option Addr) (zn zc : Nat) (zs : List Int) (hp : ps.length = pn) (hpr : RdC w po (cellsOf PPair.cells ps)) (hpb : pn ≤ 1048576)
    (hy : ys.length = yn) (hyr : RdC w yo (cellsOf icell ys)) (hyb : yn ≤ 1048576) (hz : zs.length = zn) (hzr : RdC w zo (cellsOf icell zs)) (hzb : zn ≤ 1048576) :
    Calls Tryz.prog 40 #[.agg #[.slice po pn pc, .slice yo yn yc, .slice zo zn zc]] w fun e w' => ∃ G1 G2 G3, e = .returned (.agg #[.slice (some ⟨G1, 0, none⟩) pn (pn + 1), .slice (some ⟨G2, 0, none⟩) yn (yn + 1), .slice (some ⟨G3, 0, none⟩) zn (zn + 1)]) ∧
      Below w.heap.size w w' ∧ w'.rangeAt G1 0 (cellsOf PPair.cells ps ++ markPc) ∧ w'.rangeAt G2 0 (cellsOf icell ys ++ markIc) ∧ w'.rangeAt G3 0 (cellsOf icell zs ++ markIc) ∧ (w.heap.size ≤ G1 ∧ w.heap.size ≤ G2 ∧ w.heap.size ≤ G3) ∧ w'.there G1 0 ((cellsOf PPair.cells ps).length + markPc.length) := by
  obtain ⟨W, hW, hb1, hb2, hbel⟩ := boxes2 w #[.slice po pn pc, .slice yo yn yc, .slice zo zn zc] #[.slice none 0 0, .slice none 0 0, .slice none 0 0] 32
  have HP := Lib.hid hp
  have HY := Lib.hid hy
  have HZ := Lib.hid hz
  have HPR := Lib.hid (hpr.below hbel)
  have HYR := Lib.hid (hyr.below hbel)
  have HZR := Lib.hid (hzr.below hbel)
  have HBEL := Lib.hid hbel
  have HB2 := Lib.hid hb2
  have HW := Lib.hid hW
  clear hp hy hz hpr hyr hzr hbel hb2 hW
  go_enter Tryz.func40, Tryz.ntmps40
  go_wp2_with fail
  rw [HW.out]
  obtain ⟨B, hB⟩ : ∃ B, w.heap.size = B := ⟨_, rfl⟩
  have HBH := Lib.hid hB
  rw [hB] at hb1 HB2 ⊢
  clear hB
  have hlt := Lib.hid (lt_of_block HB2.out)
  obtain ⟨g0, g1, g2, gf⟩ := cells3 hb1
  have HS := Lib.hid (fun (w' : World) (hk : Below W.heap.size W w') => show w'.cell? ⟨B, 0, none⟩ = some (.slice po pn pc) ∧ w'.cell? ⟨B, 1, none⟩ = some (.slice yo yn yc) ∧ w'.cell? ⟨B, 2, none⟩ = some (.slice zo zn zc) from
    have k := Keep.of_below hk (Nat.le_refl _) (fun _ => False)
    ⟨k.cell g0 id, k.cell g1 id, k.cell g2 id⟩)
  have HSX := Lib.hid (fun (w' : World) (hk : Below W.heap.size W w') (a b c : Value) => show (((w'.setCell ⟨B + 1, 0, none⟩ a).setCell ⟨B + 1, 1, none⟩ b).setCell ⟨B + 1, 2, none⟩ c).cell? ⟨B, 0, none⟩ = some (.slice po pn pc) ∧ (((w'.setCell ⟨B + 1, 0, none⟩ a).setCell ⟨B + 1, 1, none⟩ b).setCell ⟨B + 1, 2, none⟩ c).cell? ⟨B, 1, none⟩ = some (.slice yo yn yc) ∧ (((w'.setCell ⟨B + 1, 0, none⟩ a).setCell ⟨B + 1, 1, none⟩ b).setCell ⟨B + 1, 2, none⟩ c).cell? ⟨B, 2, none⟩ = some (.slice zo zn zc) from by
    obtain ⟨s0, s1, s2⟩ := HS.out w' hk
    have k := ((keep1 w' (B + 1) 0 a).trans (keep1 _ (B + 1) 1 b) (fun _ _ h => h) (fun _ _ h => h)).trans (keep1 _ (B + 1) 2 c) (fun _ _ h => h) (fun _ _ h => h)
    exact ⟨k.cell s0 (by simp), k.cell s1 (by simp), k.cell s2 (by simp)⟩)
  have HBO := Lib.hid (fun (w' : World) (hk : Below W.heap.size W w') => show w'.heap[B + 1]? = some (.cells #[.slice none 0 0, .slice none 0 0, .slice none 0 0] 32 (0, 0)) from (Keep.of_below hk (Nat.le_refl _) (fun _ => False)).old HB2.out id)
  have HD := Lib.hid (show Below W.heap.size W W.drew from (Below.refl _ _).drew)
  have HD0 := Lib.hid (Below.refl W.heap.size W)
  clear g0 g1 g2 gf hb1
  go_region_held3 (fun w' => w'.cell? ⟨B, 0, none⟩ = some (.slice po pn pc) ∧ w'.cell? ⟨B, 1, none⟩ = some (.slice yo yn yc) ∧ w'.cell? ⟨B, 2, none⟩ = some (.slice zo zn zc))
    (first | exact HS.out _ HD0.out | exact HS.out _ HD.out | exact HS.out _ HB11.out | exact HS.out _ HB12.out | exact HS.out _ HB13.out | exact HSX.out _ HB13.out _ _ _)
    (first | (go_at_call 32; refine (twinPair_any _ po pn pc ps HP.out (HPR.out.below HD.out) hpb).mono ?_; rintro e w1 ⟨G1, rfl, ht1⟩; have HT1 := Lib.hid ht1; have HB11 := Lib.hid (HD.out.trans (ht1.below)); clear ht1) | (go_at_call_of 83 yo; refine (twinInts_any _ yo yn yc ys HY.out (HYR.out.below HB11.out) hyb).mono ?_; rintro e w2 ⟨G2, rfl, ht2⟩; have HT2 := Lib.hid ht2; have HB12 := Lib.hid (Below.next HB11.out ht2.below); clear ht2) | (go_at_call_of 83 zo; refine (twinInts_any _ zo zn zc zs HZ.out (HZR.out.below HB12.out) hzb).mono ?_; rintro e w3 ⟨G3, rfl, ht3⟩; have HT3 := Lib.hid ht3; have HB13 := Lib.hid (Below.next HB12.out ht3.below); obtain ⟨d0, d1, d2, df⟩ := cells3 (HBO.out _ HB13.out); clear ht3))
  have HQ := Lib.hid (row_set (row_set (row_set (HBO.out _ HB13.out) 0 (.slice (some ⟨G1, 0, none⟩) pn (pn + 1))) 1 (.slice (some ⟨G2, 0, none⟩) yn (yn + 1))) 2 (.slice (some ⟨G3, 0, none⟩) zn (zn + 1)))
  have HK := Lib.hid (((keep1 w3 (B + 1) 0 (.slice (some ⟨G1, 0, none⟩) pn (pn + 1))).trans (keep1 _ (B + 1) 1 (.slice (some ⟨G2, 0, none⟩) yn (yn + 1))) (fun _ _ h => h) (fun _ _ h => h)).trans (keep1 _ (B + 1) 2 (.slice (some ⟨G3, 0, none⟩) zn (zn + 1))) (fun _ _ h => h) (fun _ _ h => h) (Z := fun k => k = B + 1))
  clear d0 d1 d2 df
  go_wp2_with fail
  generalize ((w3.setCell ⟨B + 1, 0, none⟩ (.slice (some ⟨G1, 0, none⟩) pn (pn + 1))).setCell ⟨B + 1, 1, none⟩ (.slice (some ⟨G2, 0, none⟩) yn (yn + 1))).setCell ⟨B + 1, 2, none⟩ (.slice (some ⟨G3, 0, none⟩) zn (zn + 1)) = WF at *
  refine bodyPost_ret (results_box 2 32 Tryz.results40 (B + 1) rfl #[.slice (some ⟨G1, 0, none⟩) pn (pn + 1), .slice (some ⟨G2, 0, none⟩) yn (yn + 1), .slice (some ⟨G3, 0, none⟩) zn (zn + 1)] _ HQ.out _ Tryz.underlying32 rfl (by kernel_rfl)) rfl ?_
  have hge1 : W.drew.heap.size ≤ G1 := HT1.out.ge
  have hge2 : w1.heap.size ≤ G2 := HT2.out.ge
  have hge3 : w2.heap.size ≤ G3 := HT3.out.ge
  have hl := hlt.out
  have hs1 := HB11.out.size
  have hs2 := HB12.out.size
  have hd : W.drew.heap.size = W.heap.size := rfl
  have hbw := HBH.out
  have h12 := Below.next HT2.out.below HT3.out.below
  exact ⟨G1, G2, G3, rfl, (HBEL.out.trans (HB13.out.mono HBEL.out.size)).trans (HK.out.below (HBEL.out.trans (HB13.out.mono HBEL.out.size)).size (fun i hi h => by omega)),
    range_keep (range_below HT1.out.rng h12) HK.out (by omega), range_keep (range_below HT2.out.rng HT3.out.below) HK.out (by omega), range_keep HT3.out.rng HK.out (by omega), ⟨by omega, by omega, by omega⟩, there_keep (there_below HT1.out.room h12) HK.out (by omega)⟩
end Go.Proofs.YtcaicgipibcicaaGreat
