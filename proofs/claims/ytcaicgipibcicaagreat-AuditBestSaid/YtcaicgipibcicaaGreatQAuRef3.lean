/- The reference's auditor: who stood, who is left; lists of records. -/
import Derived.Test.YtcaicgipibcicaaGreatQAuSee
import Derived.Test.YtcaicgipibcicaaGreatQRAudit
namespace Go.Proofs.YtcaicgipibcicaaGreat
set_option maxRecDepth 100000
set_option linter.unusedVariables false
set_option linter.unusedSimpArgs false
open Go.RowKit Go.Sort

def RV.cells (v : RV) : List Value := [.int .i64 v.x.tick, .slice v.wo v.wn v.wc, .slice v.ko v.kn v.kc, .int .i64 v.x.rows, .int .i64 v.x.cols, .slice v.eo v.en v.ec, .slice v.po v.pn v.pc, .slice v.yo v.yn v.yc, .slice v.zo v.zn v.zc]
theorem RV.cells_length (v : RV) : v.cells.length = 9 := rfl
theorem sz_rec : (Tryz.prog.info? 34).map (·.size) = some 9 := by kernel_rfl
/-- Are records too long, taken together? -/
def bigR : Nat → List RV → Bool
  | _, [] => false
  | n, v :: vs => if 1048576 < n + sizeN v then true else bigR (n + sizeN v) vs
def sumR (vs : List RV) : Nat := (vs.map sizeN).sum
theorem bigR_eq : ∀ (vs : List RV) (n : Nat), n ≤ 1048576 → bigR n vs = decide (1048576 < n + sumR vs) := by
  intro vs
  induction vs with
  | nil => intro n hn; simp [bigR, sumR]; omega
  | cons v vs ih =>
    intro n hn
    have hs : sumR (v :: vs) = sizeN v + sumR vs := by simp [sumR]
    unfold bigR
    split
    · rename_i h
      rw [hs]
      symm
      exact decide_eq_true (by omega)
    · rename_i h
      rw [ih _ (by omega), hs, Nat.add_assoc]
theorem bigR_step {vs : List RV} {n k : Nat} {v : RV} (hv : vs[k]? = some v) : bigR n (vs.drop k) = if 1048576 < n + sizeN v then true else bigR (n + sizeN v) (vs.drop (k + 1)) := by
  have hk := (List.getElem?_eq_some_iff.1 hv).1
  have he := (List.getElem?_eq_some_iff.1 hv).2
  rw [List.drop_eq_getElem_cons hk, he]
  rfl

set_option maxHeartbeats 8000000 in
theorem beyondRecords_any (w : World) (lo : Option Addr) (n c : Nat) (vs : List RV) (hl : vs.length = n) (hr : RdC w lo (cellsOf RV.cells vs)) (hn : n ≤ 9007199254740992)
    (hb : ∀ v ∈ vs, v.wn ≤ 1000000000000000 ∧ v.kn ≤ 1000000000000000 ∧ v.en ≤ 1000000000000000 ∧ v.pn ≤ 1000000000000000 ∧ v.yn ≤ 1000000000000000 ∧ v.zn ≤ 1000000000000000) :
    Calls Tryz.prog 17 #[.slice lo n c] w fun e w' => e = .returned (.bool (bigR 0 vs)) ∧ Below w.heap.size w w' := by
  have HL := Lib.hid hl
  have HR := Lib.hid hr
  have HB := Lib.hid hb
  clear hl hr hb
  go_enter Tryz.func17, Tryz.ntmps17
  go_wp2_with fail
  go_loopw [3, 4] (fun s i wr => Hid (∃ (j m : Nat), s = .int .i64 m ∧ i = .int .i64 j ∧ j ≤ n ∧ m ≤ 1048576 ∧ bigR 0 vs = bigR m (vs.drop j) ∧ Below w.heap.size w wr)) (fun _ i _ => n - (intOf i).toNat)
  case atStart => exact Lib.hid ⟨0, 0, rfl, rfl, Nat.zero_le _, Nat.zero_le _, rfl, Below.refl _ _⟩
  case round =>
    obtain ⟨j, m, rfl, rfl, hj, hm, hbe, hbel⟩ := hrel.out
    clear hrel
    have HBEL := Lib.hid hbel
    have HBE := Lib.hid hbe
    clear hbel hbe
    by_cases hlt : j < n
    · obtain ⟨v, hv⟩ : ∃ v, vs[j]? = some v := ⟨vs[j]'(by rw [HL.out]; exact hlt), List.getElem?_eq_getElem _⟩
      obtain ⟨b, o, rfl, _⟩ := HR.out.place (by rw [cellsOf_length _ 9 RV.cells_length, HL.out]; omega)
      have HV := Lib.hid hv
      have HCE := Lib.hid (fun (i : Nat) (u : Value) (hu : v.cells[i]? = some u) => show wr.cell? ⟨b, o + j * 9 + i, none⟩ = some u from rdc_cell RV.cells_length (HR.out.below HBEL.out) hv i u hu)
      obtain ⟨q1, q2, q3, q4, q5, q6⟩ := HB.out v (List.mem_of_getElem? hv)
      have HSZ := Lib.hid (show sizeN v ≤ 7000000000000000 by unfold sizeN; omega)
      have HRS := Lib.hid (fun W => recordSize_any W v q1 q2 q3 q4 q5 q6)
      clear hv q1 q2 q3 q4 q5 q6
      go_wp2_with (first | ((with_reducible refine wpList_load_elem (o := ⟨some 15, _, _, _, _, _⟩) ?_ 34 (.tmp 14) ?_ b (o + j * 9) ?_ v.cells #[.int .i64 v.x.tick, .slice v.wo v.wn v.wc, .slice v.ko v.kn v.kc, .int .i64 v.x.rows, .int .i64 v.x.cols, .slice v.eo v.en v.ec, .slice v.po v.pn v.pc, .slice v.yo v.yn v.yc, .slice v.zo v.zn v.zc] ?_ _ HCE.out Tryz.underlying34 ?_ ?_ ?_); rfl; rfl; rfl; rfl; rfl; exact sz_rec))
      refine (HRS.out wr).mono ?_
      rintro e w2 ⟨rfl, hb2⟩
      have HB2 := Lib.hid (Below.next HBEL.out hb2)
      have HST := Lib.hid (bigR_step (n := m) HV.out)
      clear hb2
      generalize sizeN v = z at *
      have hz := HSZ.out
      by_cases hbig : 1048576 < m + z
      · have b1 : decide ((1048576 : Int) < (m : Int) + (z : Int)) = true := decide_eq_true (by omega)
        have HF := Lib.hid (show bigR 0 vs = true by rw [HBE.out, HST.out, if_pos hbig])
        go_wp2_with fail
        go_ret
        exact ⟨by rw [HF.out]; rfl, HB2.out⟩
      · have b1 : decide ((1048576 : Int) < (m : Int) + (z : Int)) = false := decide_eq_false (by omega)
        have HF := Lib.hid (show bigR 0 vs = bigR (m + z) (vs.drop (j + 1)) by rw [HBE.out, HST.out, if_neg hbig])
        go_wp2_with fail
        go_roundw
        case rel => exact Lib.hid ⟨j + 1, m + z, by go_num, by go_num, by omega, by omega, HF.out, HB2.out⟩
        case measure => simp [intOf]; omega
    · obtain rfl : n = j := by omega
      have HF := Lib.hid (show bigR 0 vs = false by rw [HBE.out, List.drop_of_length_le (by rw [HL.out]; exact Nat.le_refl _)]; rfl)
      go_wp2_with fail
      go_ret
      exact ⟨by rw [HF.out]; rfl, HBEL.out⟩
end Go.Proofs.YtcaicgipibcicaaGreat

/- The reference's auditor: who stood, who is left. -/
namespace Go.Proofs.YtcaicgipibcicaaGreat
set_option maxRecDepth 100000
set_option linter.unusedVariables false
set_option linter.unusedSimpArgs false
open Go.RowKit Go.Sort

/-- Did a request with an id stand in a record? -/
def stoodF (x : PRec) (id : List Int) : Bool := x.ws.any (fun y => decide (idR y.r = id))
theorem stoodF_yes {x : PRec} {id : List Int} {j : Nat} {y : PWait} (hy : x.ws[j]? = some y) (h : idR y.r = id) : stoodF x id = true := by
  unfold stoodF
  rw [List.any_eq_true]
  exact ⟨y, List.mem_of_getElem? hy, by simpa using h⟩
theorem stoodF_no {x : PRec} {id : List Int} (h : ∀ (j : Nat) (y : PWait), x.ws[j]? = some y → idR y.r ≠ id) : stoodF x id = false := by
  unfold stoodF
  rw [List.any_eq_false]
  intro y hy
  obtain ⟨j, hj⟩ := List.getElem?_of_mem hy
  simpa using h j y hj
/-- A record in a box, something else in the next. -/
structure RxRel (w : World) (v : RV) (H : Nat) (Z : Array Value) (t : TypeId) (wr : World) : Prop where
  g : wr.heap[H]? = some (.cells #[.int .i64 v.x.tick, .slice v.wo v.wn v.wc, .slice v.ko v.kn v.kc, .int .i64 v.x.rows, .int .i64 v.x.cols, .slice v.eo v.en v.ec, .slice v.po v.pn v.pc, .slice v.yo v.yn v.yc, .slice v.zo v.zn v.zc] 34 (0, 0))
  h : wr.heap[H + 1]? = some (.cells Z t (0, 0))
  below : Below w.heap.size w wr
theorem RxRel.drewN {w : World} {v : RV} {H : Nat} {Z : Array Value} {t : TypeId} {wr : World} (h : RxRel w v H Z t wr) (n : Nat) : RxRel w v H Z t (wr.drewN n) := ⟨h.g, h.h, below_drewN h.below n⟩
theorem RxRel.begin (w : World) (v : RV) (Z : Array Value) (t : TypeId) : RxRel w v w.heap.size Z t ((w.alloc (.cells #[.int .i64 v.x.tick, .slice v.wo v.wn v.wc, .slice v.ko v.kn v.kc, .int .i64 v.x.rows, .int .i64 v.x.cols, .slice v.eo v.en v.ec, .slice v.po v.pn v.pc, .slice v.yo v.yn v.yc, .slice v.zo v.zn v.zc] 34)).alloc (.cells Z t)) := by
  refine ⟨(Keep.alloc (fun _ => False) _ _).old (heap_alloc_new w _) id, ?_, ((Below.refl w.heap.size w).alloc (Nat.le_refl _) _).alloc (by simp) _⟩
  have := heap_alloc_new (w.alloc (.cells #[.int .i64 v.x.tick, .slice v.wo v.wn v.wc, .slice v.ko v.kn v.kc, .int .i64 v.x.rows, .int .i64 v.x.cols, .slice v.eo v.en v.ec, .slice v.po v.pn v.pc, .slice v.yo v.yn v.yc, .slice v.zo v.zn v.zc] 34)) (.cells Z t)
  rw [show (w.alloc (.cells #[.int .i64 v.x.tick, .slice v.wo v.wn v.wc, .slice v.ko v.kn v.kc, .int .i64 v.x.rows, .int .i64 v.x.cols, .slice v.eo v.en v.ec, .slice v.po v.pn v.pc, .slice v.yo v.yn v.yc, .slice v.zo v.zn v.zc] 34)).heap.size = w.heap.size + 1 by simp] at this
  exact this
theorem cells8 {w : World} {H : Nat} {a0 a1 a2 a3 a4 a5 a6 a7 : Value} {t : TypeId} (h : w.heap[H]? = some (.cells #[a0, a1, a2, a3, a4, a5, a6, a7] t (0, 0))) :
    w.cell? ⟨H, 0, none⟩ = some a0 ∧ w.cell? ⟨H, 1, none⟩ = some a1 ∧ w.cell? ⟨H, 2, none⟩ = some a2 ∧ w.cell? ⟨H, 3, none⟩ = some a3 ∧ w.cell? ⟨H, 4, none⟩ = some a4 ∧ w.cell? ⟨H, 5, none⟩ = some a5 ∧ w.cell? ⟨H, 6, none⟩ = some a6 ∧ w.cell? ⟨H, 7, none⟩ = some a7 := by
  refine ⟨?_, ?_, ?_, ?_, ?_, ?_, ?_, ?_⟩ <;> rw [cell_of_row w H _ _ t (0, 0) h] <;> rfl

set_option maxHeartbeats 8000000 in
theorem stood_any (w : World) (v : RV) (r : PReq) (hin : v.In w) : Calls Tryz.prog 111 #[.agg #[.int .i64 v.x.tick, .slice v.wo v.wn v.wc, .slice v.ko v.kn v.kc, .int .i64 v.x.rows, .int .i64 v.x.cols, .slice v.eo v.en v.ec, .slice v.po v.pn v.pc, .slice v.yo v.yn v.yc, .slice v.zo v.zn v.zc], .agg #[.int .u8 r.i0, .int .u8 r.i1, .int .u8 r.i2, .int .u8 r.i3, .int .u8 r.i4, .int .u8 r.i5, .int .u8 r.i6, .int .u8 r.i7]] w fun e w' => e = .returned (.bool (stoodF v.x (idR r))) ∧ Below w.heap.size w w' := by
  have HIN := Lib.hid hin
  have HR0 := Lib.hid (RxRel.begin w v #[.int .u8 r.i0, .int .u8 r.i1, .int .u8 r.i2, .int .u8 r.i3, .int .u8 r.i4, .int .u8 r.i5, .int .u8 r.i6, .int .u8 r.i7] 72)
  clear hin
  have heq := eq_id'
  go_enter Tryz.func111, Tryz.ntmps111
  go_wp2_with fail
  generalize (w.alloc (.cells #[.int .i64 v.x.tick, .slice v.wo v.wn v.wc, .slice v.ko v.kn v.kc, .int .i64 v.x.rows, .int .i64 v.x.cols, .slice v.eo v.en v.ec, .slice v.po v.pn v.pc, .slice v.yo v.yn v.yc, .slice v.zo v.zn v.zc] 34)).alloc (.cells #[.int .u8 r.i0, .int .u8 r.i1, .int .u8 r.i2, .int .u8 r.i3, .int .u8 r.i4, .int .u8 r.i5, .int .u8 r.i6, .int .u8 r.i7] 72) = W at *
  obtain ⟨H, hH⟩ : ∃ H, w.heap.size = H := ⟨_, rfl⟩
  have HH := Lib.hid hH
  rw [hH] at HR0 ⊢
  clear hH
  go_loopw [5] (fun i wr => Hid (∃ j : Nat, i = .int .i64 j ∧ j ≤ v.wn ∧ (∀ (q : Nat) (y : PWait), q < j → v.x.ws[q]? = some y → idR y.r ≠ idR r) ∧ RxRel w v H #[.int .u8 r.i0, .int .u8 r.i1, .int .u8 r.i2, .int .u8 r.i3, .int .u8 r.i4, .int .u8 r.i5, .int .u8 r.i6, .int .u8 r.i7] 72 wr)) (fun i _ => v.wn - (intOf i).toNat)
  case atStart => exact Lib.hid ⟨0, rfl, Nat.zero_le _, fun q y h => absurd h (Nat.not_lt_zero q), HR0.out⟩
  case round =>
    obtain ⟨j, rfl, hj, hno, hrl⟩ := hrel.out
    clear hrel
    have HR := Lib.hid hrl
    have HNO := Lib.hid hno
    clear hrl hno
    obtain ⟨g0, g1, g2, g3, g4, g5, g6, g7, g8⟩ := cells9 HR.out.g
    by_cases hlt : j < v.wn
    · obtain ⟨y, hy⟩ : ∃ y, v.x.ws[j]? = some y := ⟨v.x.ws[j]'(by rw [HIN.out.wl]; exact hlt), List.getElem?_eq_getElem _⟩
      have hwb : v.wn ≤ 1048576 := HIN.out.wb
      have hrd := HIN.out.wr.keep (Keep.of_below HR.out.below (Nat.le_refl _) (fun _ => False)) (fun _ _ _ => id)
      generalize v.wo = wo at *
      obtain ⟨b, o, rfl, _⟩ := hrd.place (by rw [cellsOf_length _ 18 PWait.cells_length, HIN.out.wl]; omega)
      obtain ⟨y0, y1, y2, y3, y4, y5, y6, y7⟩ := wait_ids_at (wait_cells_at hrd hy)
      obtain ⟨x0, x1, x2, x3, x4, x5, x6, x7⟩ := cells8 HR.out.h
      have HY := Lib.hid hy
      clear hy hrd
      cases hq : bq_id y.r.i0 r.i0 y.r.i1 r.i1 y.r.i2 r.i2 y.r.i3 r.i3 y.r.i4 r.i4 y.r.i5 r.i5 y.r.i6 r.i6 y.r.i7 r.i7 with
      | true =>
        have HF := Lib.hid (stoodF_yes HY.out (idR_bq.1 hq))
        go_wp2_with fail
        go_quiet (fail)
        go_wp2_with fail
        go_ret
        exact ⟨by rw [HF.out]; rfl, below_drewN HR.out.below _⟩
      | false =>
        have HN := Lib.hid (show ∀ (q : Nat) (z : PWait), q < j + 1 → v.x.ws[q]? = some z → idR z.r ≠ idR r from fun q z hqj hz => by
          rcases Nat.lt_succ_iff_lt_or_eq.1 hqj with hqj | rfl
          · exact HNO.out q z hqj hz
          · rw [HY.out] at hz; cases hz; intro he; rw [idR_bq.2 he] at hq; cases hq)
        go_wp2_with fail
        go_quiet (fail)
        go_wp2_with fail
        go_roundw
        case rel => exact Lib.hid ⟨j + 1, by go_num, by omega, HN.out, HR.out.drewN _⟩
        case measure => simp [intOf]; omega
    · obtain rfl : v.wn = j := by omega
      have HF := Lib.hid (stoodF_no (x := v.x) (id := idR r) (fun q y hy => HNO.out q y (by have := (List.getElem?_eq_some_iff.1 hy).1; rw [HIN.out.wl] at this; exact this) hy))
      go_wp2_with fail
      go_ret
      exact ⟨by rw [HF.out]; rfl, HR.out.below⟩
end Go.Proofs.YtcaicgipibcicaaGreat

/- The reference's auditor: who is left. -/
namespace Go.Proofs.YtcaicgipibcicaaGreat
set_option maxRecDepth 100000
set_option linter.unusedVariables false
set_option linter.unusedSimpArgs false
open Go.RowKit Go.Sort

def freeR (ps : List PPair) (i : Nat) : Bool := ps.all (fun p => p.r != (i : Int))
def leftAt (x : PRec) (w : PWait) (i : Nat) : Bool := match x.ws[i]? with | none => false | some y => freeR x.ps i && bqW y w
/-- Does this element stand in a record, unmatched? -/
def leftF (x : PRec) (w : PWait) : Bool := (List.range x.ws.length).any (leftAt x w)
theorem leftAt_eq {x : PRec} {w : PWait} {i : Nat} {y : PWait} (h : x.ws[i]? = some y) : leftAt x w i = (freeR x.ps i && bqW y w) := by simp [leftAt, h]
theorem leftF_yes {x : PRec} {w : PWait} {i : Nat} (hi : i < x.ws.length) (h : leftAt x w i = true) : leftF x w = true := by
  unfold leftF
  rw [List.any_eq_true]
  exact ⟨i, List.mem_range.2 hi, h⟩
theorem leftF_no {x : PRec} {w : PWait} (h : ∀ i : Nat, i < x.ws.length → leftAt x w i = false) : leftF x w = false := by
  unfold leftF
  rw [List.any_eq_false]
  intro i hi
  rw [h i (List.mem_range.1 hi)]
  decide
theorem freeR_next {ps : List PPair} {i k : Nat} {p : PPair} (hp : ps[k]? = some p) : freeR (ps.take (k + 1)) i = (freeR (ps.take k) i && (p.r != (i : Int))) := by
  rw [List.take_succ_eq_append_getElem (List.getElem?_eq_some_iff.1 hp).1, (List.getElem?_eq_some_iff.1 hp).2]
  simp [freeR]

set_option maxHeartbeats 16000000 in
theorem left_any (w : World) (v : RV) (x : PWait) (V : Array Value) (hV : x.cells.toArray = V) (hin : v.In w) : Calls Tryz.prog 112 #[.agg #[.int .i64 v.x.tick, .slice v.wo v.wn v.wc, .slice v.ko v.kn v.kc, .int .i64 v.x.rows, .int .i64 v.x.cols, .slice v.eo v.en v.ec, .slice v.po v.pn v.pc, .slice v.yo v.yn v.yc, .slice v.zo v.zn v.zc], .agg V] w fun e w' => e = .returned (.bool (leftF v.x x)) ∧ Below w.heap.size w w' := by
  have HIN := Lib.hid hin
  have HV := Lib.hid hV
  have HR0 := Lib.hid (RxRel.begin w v V 79)
  clear hin hV
  go_enter Tryz.func112, Tryz.ntmps112
  go_wp2_with fail
  generalize (w.alloc (.cells #[.int .i64 v.x.tick, .slice v.wo v.wn v.wc, .slice v.ko v.kn v.kc, .int .i64 v.x.rows, .int .i64 v.x.cols, .slice v.eo v.en v.ec, .slice v.po v.pn v.pc, .slice v.yo v.yn v.yc, .slice v.zo v.zn v.zc] 34)).alloc (.cells V 79) = W at *
  obtain ⟨H, hH⟩ : ∃ H, w.heap.size = H := ⟨_, rfl⟩
  have HH := Lib.hid hH
  rw [hH] at HR0 ⊢
  clear hH
  go_loopw [5] (fun i wr => Hid (∃ j : Nat, i = .int .i64 j ∧ j ≤ v.wn ∧ (∀ q : Nat, q < j → leftAt v.x x q = false) ∧ RxRel w v H V 79 wr)) (fun i _ => v.wn - (intOf i).toNat)
  case atStart => exact Lib.hid ⟨0, rfl, Nat.zero_le _, fun q h => absurd h (Nat.not_lt_zero q), HR0.out⟩
  case round =>
    clear HR0
    obtain ⟨j, rfl, hj, hno, hrl⟩ := hrel.out
    clear hrel
    have HR := Lib.hid hrl
    have HNO := Lib.hid hno
    clear hrl hno
    obtain ⟨g0, g1, g2, g3, g4, g5, g6, g7, g8⟩ := cells9 HR.out.g
    have hwb : v.wn ≤ 1048576 := HIN.out.wb
    have hpb : v.pn ≤ 1048576 := HIN.out.pb
    by_cases hlt : j < v.wn
    · go_wp2_with fail
      clear g0 g1 g2 g3 g4 g5 g6 g7 g8
      go_loopw [6, 7] (fun f i wr => Hid (∃ k : Nat, i = .int .i64 k ∧ k ≤ v.pn ∧ f = .bool (freeR (v.x.ps.take k) j) ∧ RxRel w v H V 79 wr)) (fun _ i _ => v.pn - (intOf i).toNat)
      case atStart => exact Lib.hid ⟨0, rfl, Nat.zero_le _, rfl, HR.out⟩
      case round =>
        clear HR
        obtain ⟨k, rfl, hk, rfl, hrl⟩ := hrel.out
        clear hrel
        have HR := Lib.hid hrl
        clear hrl
        obtain ⟨g0, g1, g2, g3, g4, g5, g6, g7, g8⟩ := cells9 HR.out.g
        by_cases hkt : k < v.pn
        · obtain ⟨p, hp⟩ : ∃ p, v.x.ps[k]? = some p := ⟨v.x.ps[k]'(by rw [HIN.out.pl]; exact hkt), List.getElem?_eq_getElem _⟩
          have hrd := HIN.out.pr.keep (Keep.of_below HR.out.below (Nat.le_refl _) (fun _ => False)) (fun _ _ _ => id)
          generalize v.po = po at *
          obtain ⟨b, o, rfl, _⟩ := hrd.place (by rw [cellsOf_length _ 2 PPair.cells_length, HIN.out.pl]; omega)
          obtain ⟨p0, p1⟩ := pair_at hrd hp
          have HN := Lib.hid (freeR_next (i := j) hp)
          clear hrd hp
          obtain ⟨fb, hfb⟩ : ∃ fb, freeR (v.x.ps.take k) j = fb := ⟨_, rfl⟩
          rw [hfb] at HN ⊢
          clear hfb
          cases fb with
          | false =>
            go_wp2_with fail
            go_roundw
            case rel => exact Lib.hid ⟨k + 1, by go_num, by omega, by rw [HN.out]; rfl, HR.out⟩
            case measure => simp [intOf]; omega
          | true =>
            go_wp2_with fail
            go_roundw
            case rel => exact Lib.hid ⟨k + 1, by go_num, by omega, by rw [HN.out]; rfl, HR.out⟩
            case measure => simp [intOf]; omega
        · obtain rfl : v.pn = k := by omega
          have HTK := Lib.hid (show v.x.ps.take v.pn = v.x.ps from List.take_of_length_le (by rw [HIN.out.pl]; exact Nat.le_refl _))
          obtain ⟨y, hy⟩ : ∃ y, v.x.ws[j]? = some y := ⟨v.x.ws[j]'(by rw [HIN.out.wl]; exact hlt), List.getElem?_eq_getElem _⟩
          have hrd := HIN.out.wr.keep (Keep.of_below HR.out.below (Nat.le_refl _) (fun _ => False)) (fun _ _ _ => id)
          obtain ⟨b, o, hbo, _⟩ := hrd.place (by rw [cellsOf_length _ 18 PWait.cells_length, HIN.out.wl]; omega)
          rw [hbo] at hrd g1
          have HRD := Lib.hid hrd
          clear hbo hrd
          have HC1 := Lib.hid (fun (i : Nat) (u : Value) (hu : y.cells[i]? = some u) => show wr.cell? ⟨b, o + j * 18 + i, none⟩ = some u from rdc_cell PWait.cells_length HRD.out hy i u hu)
          have HC2 := Lib.hid (head_cells HR.out.h 18 (show x.cells = V.toList.take 18 by rw [← HV.out]; rfl))
          have HLA := Lib.hid (leftAt_eq (w := x) hy)
          have HY := Lib.hid hy
          clear hy
          obtain ⟨YV, hYV⟩ : ∃ YV, y.cells.toArray = YV := ⟨_, rfl⟩
          have HYV := Lib.hid hYV
          have heq : ∀ w, (Op.equalIn 10000 79 (.agg YV) (.agg V)).run Tryz.prog w = .ok (bqW y x) w := fun w => by rw [← hYV, ← HV.out]; exact bqW_eq y x w
          clear hYV
          rw [HTK.out]
          obtain ⟨fb, hfb⟩ : ∃ fb, freeR v.x.ps j = fb := ⟨_, rfl⟩
          rw [hfb] at HLA ⊢
          clear hfb
          generalize bqW y x = bq at *
          cases fb with
          | false =>
            have HN := Lib.hid (show ∀ q : Nat, q < j + 1 → leftAt v.x x q = false from fun q hq => by
              rcases Nat.lt_succ_iff_lt_or_eq.1 hq with hq | rfl
              · exact HNO.out q hq
              · rw [HLA.out]; rfl)
            clear heq
            go_wp2_with fail
            go_quiet (fail)
            go_wp2_with fail
            go_roundw
            case rel => exact Lib.hid ⟨j + 1, by go_num, by omega, HN.out, HR.out.drewN _⟩
            case measure => simp [intOf]; omega
          | true =>
            go_wp2_with fail
            refine wp_region_quiet_lit (by kernel_rfl) (by kernel_rfl) ?_
            iterate 6 (go_big_quiet_step (fail))
            go_big_quiet_want
            with_reducible refine quiet_load (o := ⟨some 41, _, _, _, _, _⟩) 79 (.tmp 40) ?_ b (o + j * 18) ?_ y.cells YV HYV.out _ HC1.out Tryz.underlying79 ?_ ?_ ?_
            · rfl
            · rfl
            · rfl
            · exact sz_wait
            go_big_quiet_on
            simp only [Act.put, List.setIfInBounds_toArray, List.set_cons_zero, List.set_cons_succ]
            go_big_quiet_want
            with_reducible refine quiet_load (o := ⟨some 42, _, _, _, _, _⟩) 79 (.tmp 3) ?_ (H + 1) 0 ?_ x.cells V HV.out _ HC2.out Tryz.underlying79 ?_ ?_ ?_
            · rfl
            · rfl
            · rfl
            · exact sz_wait
            go_big_quiet_on
            simp only [Act.put, List.setIfInBounds_toArray, List.set_cons_zero, List.set_cons_succ]
            iterate 2 (go_big_quiet_step (fail))
            refine wpQuiet_nil ?_
            rintro _ ⟨nq, rfl⟩
            cases bq with
            | false =>
              have HN := Lib.hid (show ∀ q : Nat, q < j + 1 → leftAt v.x x q = false from fun q hq => by
                rcases Nat.lt_succ_iff_lt_or_eq.1 hq with hq | rfl
                · exact HNO.out q hq
                · rw [HLA.out]; rfl)
              go_wp2_with fail
              go_roundw
              case rel => exact Lib.hid ⟨j + 1, by go_num, by omega, HN.out, HR.out.drewN _⟩
              case measure => simp [intOf]; omega
            | true =>
              have HF := Lib.hid (leftF_yes (x := v.x) (w := x) (by rw [HIN.out.wl]; exact hlt) HLA.out)
              go_wp2_with fail
              go_ret
              exact ⟨by rw [HF.out]; rfl, below_drewN HR.out.below _⟩
    · obtain rfl : v.wn = j := by omega
      have HF := Lib.hid (leftF_no (x := v.x) (w := x) (fun q hq => HNO.out q (by rw [HIN.out.wl] at hq; exact hq)))
      go_wp2_with fail
      go_ret
      exact ⟨by rw [HF.out]; rfl, HR.out.below⟩
end Go.Proofs.YtcaicgipibcicaaGreat
