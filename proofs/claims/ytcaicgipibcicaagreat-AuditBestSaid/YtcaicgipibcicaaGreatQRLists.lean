/- Chapter 26 in the reference: the lists of a record. Printed by wip/genrlists.py. -/
import Derived.Test.YtcaicgipibcicaaGreatQRecCk2
import Derived.Test.YtcaicgipibcicaaGreatQRGraph
namespace Go.Proofs.YtcaicgipibcicaaGreat
set_option maxRecDepth 100000
set_option linter.unusedVariables false
set_option linter.unusedSimpArgs false
open Go.RowKit Go.Sort

def PReq.idc (x : PReq) : List Value := [.int .u8 x.i0, .int .u8 x.i1, .int .u8 x.i2, .int .u8 x.i3, .int .u8 x.i4, .int .u8 x.i5, .int .u8 x.i6, .int .u8 x.i7]
def PDrv.idc (x : PDrv) : List Value := [.int .u8 x.i0, .int .u8 x.i1, .int .u8 x.i2, .int .u8 x.i3, .int .u8 x.i4, .int .u8 x.i5, .int .u8 x.i6, .int .u8 x.i7]
theorem idR_bq {x y : PReq} : bq_id x.i0 y.i0 x.i1 y.i1 x.i2 y.i2 x.i3 y.i3 x.i4 y.i4 x.i5 y.i5 x.i6 y.i6 x.i7 y.i7 = true ↔ idR x = idR y := by simp [bq_id_iff, idR]
theorem idD_bq {x y : PDrv} : bq_id x.i0 y.i0 x.i1 y.i1 x.i2 y.i2 x.i3 y.i3 x.i4 y.i4 x.i5 y.i5 x.i6 y.i6 x.i7 y.i7 = true ↔ idD x = idD y := by simp [bq_id_iff, idD]
def idsW (x : PRec) : List (List Int) := x.ws.map fun w => idR w.r
def idsD (x : PRec) : List (List Int) := x.ds.map fun d => idD d.d
theorem newAt_no {ids : List (List Int)} {i k : Nat} {a b : List Int} (hi : ids[i]? = some a) (hk : ids[k]? = some b) (hlt : k < i) (h : b = a) : newAt ids i = false := by
  unfold newAt
  rw [hi]
  exact allF_bad hlt (by simp only [hk]; exact decide_eq_false (fun hne => hne h))
theorem newAt_ok {ids : List (List Int)} {i : Nat} {a : List Int} (hi : ids[i]? = some a) (h : ∀ (k : Nat) (b : List Int), k < i → ids[k]? = some b → b ≠ a) : newAt ids i = true := by
  unfold newAt
  rw [hi]
  refine allF_good (fun k hk => ?_)
  cases hb : ids[k]? with
  | none => rfl
  | some b => exact decide_eq_true (h k b hk hb)
theorem idsW_at {x : PRec} {k : Nat} {y : PWait} (h : x.ws[k]? = some y) : (idsW x)[k]? = some (idR y.r) := by simp [idsW, h]
theorem idsD_at {x : PRec} {k : Nat} {y : PIdle} (h : x.ds[k]? = some y) : (idsD x)[k]? = some (idD y.d) := by simp [idsD, h]
theorem lists_1 {c : PConf} {x : PRec} (h : ¬ ((x.ws.length : Int) ≤ c.q ∧ (x.ds.length : Int) ≤ c.d)) : listsF c x = false := by unfold listsF; rw [decide_eq_false h]; rfl
theorem lists_2 {c : PConf} {x : PRec} (h : allF x.ws.length (askAt c x.tick x.ws) = false) : listsF c x = false := by unfold listsF; rw [h]; simp
theorem lists_3 {c : PConf} {x : PRec} (h : allF x.ds.length (mayAt x.ds) = false) : listsF c x = false := by unfold listsF; rw [h]; simp
theorem lists_4 {c : PConf} {x : PRec} (h : onceF (idsW x) = false) : listsF c x = false := by unfold listsF; rw [show onceF (x.ws.map fun w => idR w.r) = false from h]; simp
theorem lists_5 {c : PConf} {x : PRec} (h : onceF (idsD x) = false) : listsF c x = false := by unfold listsF; rw [show onceF (x.ds.map fun d => idD d.d) = false from h]; simp
theorem lists_6 {c : PConf} {x : PRec} (h1 : (x.ws.length : Int) ≤ c.q ∧ (x.ds.length : Int) ≤ c.d) (h2 : allF x.ws.length (askAt c x.tick x.ws) = true) (h3 : allF x.ds.length (mayAt x.ds) = true) (h4 : onceF (idsW x) = true) (h5 : onceF (idsD x) = true) : listsF c x = true := by
  unfold listsF
  rw [decide_eq_true h1, h2, h3, show onceF (x.ws.map fun w => idR w.r) = true from h4, show onceF (x.ds.map fun d => idD d.d) = true from h5]
  rfl
theorem askAt_eq {c : PConf} {tick : Int} {ws : List PWait} {i : Nat} {x : PWait} (h : ws[i]? = some x) : askAt c tick ws i = (decide (checkE c x.r = 0) && decide (tick ≤ x.since + x.r.ttl)) := by simp only [askAt, h]
theorem mayAt_eq {ds : List PIdle} {i : Nat} {x : PIdle} (h : ds[i]? = some x) : mayAt ds i = decide (driverE x.d = 0) := by simp only [mayAt, h]
theorem wait_bounds {x : PRec} {k : Nat} {y : PWait} (h : recE x = 0) (hy : x.ws[k]? = some y) : 0 ≤ y.since ∧ y.since ≤ 1099511627776 ∧ 1 ≤ x.tick ∧ x.tick ≤ 1099511627776 := by
  obtain ⟨h1, h2, _⟩ := recE_good h
  have h3 := allF_at h2 (List.getElem?_eq_some_iff.1 hy).1
  rw [waitAt_eq hy] at h3
  have h4 := of_decide_eq_true h3
  have h5 : 1 ≤ x.tick ∧ x.tick ≤ 1099511627776 ∧ x.ws.length ≤ 64 ∧ x.ds.length ≤ 64 := of_decide_eq_true h1
  omega
theorem rec_sizes {x : PRec} (h : recE x = 0) : x.ws.length ≤ 64 ∧ x.ds.length ≤ 64 := by
  obtain ⟨h1, _⟩ := recE_good h
  have h5 : 1 ≤ x.tick ∧ x.tick ≤ 1099511627776 ∧ x.ws.length ≤ 64 ∧ x.ds.length ≤ 64 := of_decide_eq_true h1
  omega
/-- A configuration and a record, each in a box of its own. -/
structure CrRel (w : World) (c : PConf) (v : RV) (H0 H1 : Nat) (wr : World) : Prop where
  g : wr.heap[H0]? = some (.cells #[.int .i64 c.q, .int .i64 c.d, .int .i64 c.w, .int .i64 c.ttl, .int .i64 c.b] 23 (0, 0))
  h : wr.heap[H1]? = some (.cells #[.int .i64 v.x.tick, .slice v.wo v.wn v.wc, .slice v.ko v.kn v.kc, .int .i64 v.x.rows, .int .i64 v.x.cols, .slice v.eo v.en v.ec, .slice v.po v.pn v.pc, .slice v.yo v.yn v.yc, .slice v.zo v.zn v.zc] 34 (0, 0))
  below : Below w.heap.size w wr
theorem CrRel.keep {w : World} {c : PConf} {v : RV} {H0 H1 : Nat} {wr w' : World} (h : CrRel w c v H0 H1 wr) (hb : Below wr.heap.size wr w') : CrRel w c v H0 H1 w' :=
  ⟨(Keep.of_below hb (Nat.le_refl _) (fun _ => False)).old h.g id, (Keep.of_below hb (Nat.le_refl _) (fun _ => False)).old h.h id, Below.next h.below hb⟩
theorem CrRel.one {w : World} {c : PConf} {v : RV} {H0 H1 : Nat} {wr : World} (h : CrRel w c v H0 H1 wr) (o : Obj) : CrRel w c v H0 H1 (wr.alloc o) := h.keep ((Below.refl _ _).alloc (Nat.le_refl _) _)
theorem CrRel.drewN {w : World} {c : PConf} {v : RV} {H0 H1 : Nat} {wr : World} (h : CrRel w c v H0 H1 wr) (n : Nat) : CrRel w c v H0 H1 (wr.drewN n) := ⟨h.g, h.h, below_drewN h.below n⟩
theorem CrRel.begin (w : World) (c : PConf) (v : RV) : CrRel w c v w.heap.size (w.heap.size + 1) ((w.alloc (.cells #[.int .i64 c.q, .int .i64 c.d, .int .i64 c.w, .int .i64 c.ttl, .int .i64 c.b] 23)).alloc (.cells #[.int .i64 v.x.tick, .slice v.wo v.wn v.wc, .slice v.ko v.kn v.kc, .int .i64 v.x.rows, .int .i64 v.x.cols, .slice v.eo v.en v.ec, .slice v.po v.pn v.pc, .slice v.yo v.yn v.yc, .slice v.zo v.zn v.zc] 34)) := by
  refine ⟨(Keep.alloc (fun _ => False) _ _).old (heap_alloc_new w _) id, ?_, ((Below.refl w.heap.size w).alloc (Nat.le_refl _) _).alloc (by simp) _⟩
  have := heap_alloc_new (w.alloc (.cells #[.int .i64 c.q, .int .i64 c.d, .int .i64 c.w, .int .i64 c.ttl, .int .i64 c.b] 23)) (.cells #[.int .i64 v.x.tick, .slice v.wo v.wn v.wc, .slice v.ko v.kn v.kc, .int .i64 v.x.rows, .int .i64 v.x.cols, .slice v.eo v.en v.ec, .slice v.po v.pn v.pc, .slice v.yo v.yn v.yc, .slice v.zo v.zn v.zc] 34)
  rw [show (w.alloc (.cells #[.int .i64 c.q, .int .i64 c.d, .int .i64 c.w, .int .i64 c.ttl, .int .i64 c.b] 23)).heap.size = w.heap.size + 1 by simp] at this
  exact this
theorem wait_cells {w : World} {H : Nat} {x : PWait} {t : TypeId} (h : w.heap[H]? = some (.cells #[.int .u8 x.r.i0, .int .u8 x.r.i1, .int .u8 x.r.i2, .int .u8 x.r.i3, .int .u8 x.r.i4, .int .u8 x.r.i5, .int .u8 x.r.i6, .int .u8 x.r.i7, .int .i16 x.r.fx, .int .i16 x.r.fy, .int .i16 x.r.tx, .int .i16 x.r.ty, .int .u8 x.r.seats, .int .u8 x.r.classes, .int .i64 x.r.base, .int .i64 x.r.ttl, .int .i64 x.since, .int .i64 x.number] t (0, 0))) : w.cell? ⟨H, 15, none⟩ = some (.int .i64 x.r.ttl) ∧ w.cell? ⟨H, 16, none⟩ = some (.int .i64 x.since) := by
  refine ⟨?_, ?_⟩ <;> rw [cell_of_row w H _ _ t (0, 0) h] <;> rfl
theorem wait_ids {w : World} {H : Nat} {x : PWait} {t : TypeId} (h : w.heap[H]? = some (.cells #[.int .u8 x.r.i0, .int .u8 x.r.i1, .int .u8 x.r.i2, .int .u8 x.r.i3, .int .u8 x.r.i4, .int .u8 x.r.i5, .int .u8 x.r.i6, .int .u8 x.r.i7, .int .i16 x.r.fx, .int .i16 x.r.fy, .int .i16 x.r.tx, .int .i16 x.r.ty, .int .u8 x.r.seats, .int .u8 x.r.classes, .int .i64 x.r.base, .int .i64 x.r.ttl, .int .i64 x.since, .int .i64 x.number] t (0, 0))) : w.cell? ⟨H, 0, none⟩ = some (.int .u8 x.r.i0) ∧ w.cell? ⟨H, 1, none⟩ = some (.int .u8 x.r.i1) ∧ w.cell? ⟨H, 2, none⟩ = some (.int .u8 x.r.i2) ∧ w.cell? ⟨H, 3, none⟩ = some (.int .u8 x.r.i3) ∧ w.cell? ⟨H, 4, none⟩ = some (.int .u8 x.r.i4) ∧ w.cell? ⟨H, 5, none⟩ = some (.int .u8 x.r.i5) ∧ w.cell? ⟨H, 6, none⟩ = some (.int .u8 x.r.i6) ∧ w.cell? ⟨H, 7, none⟩ = some (.int .u8 x.r.i7)  := by
  refine ⟨?_, ?_, ?_, ?_, ?_, ?_, ?_, ?_⟩ <;> rw [cell_of_row w H _ _ t (0, 0) h] <;> rfl
theorem wait_ids_at {w : World} {b o : Nat} {x : PWait} (h : ∀ j u, x.cells[j]? = some u → w.cell? ⟨b, o + j, none⟩ = some u) : w.cell? ⟨b, o, none⟩ = some (.int .u8 x.r.i0) ∧ w.cell? ⟨b, o + 1, none⟩ = some (.int .u8 x.r.i1) ∧ w.cell? ⟨b, o + 2, none⟩ = some (.int .u8 x.r.i2) ∧ w.cell? ⟨b, o + 3, none⟩ = some (.int .u8 x.r.i3) ∧ w.cell? ⟨b, o + 4, none⟩ = some (.int .u8 x.r.i4) ∧ w.cell? ⟨b, o + 5, none⟩ = some (.int .u8 x.r.i5) ∧ w.cell? ⟨b, o + 6, none⟩ = some (.int .u8 x.r.i6) ∧ w.cell? ⟨b, o + 7, none⟩ = some (.int .u8 x.r.i7) :=
  ⟨h 0 _ rfl, h 1 _ rfl, h 2 _ rfl, h 3 _ rfl, h 4 _ rfl, h 5 _ rfl, h 6 _ rfl, h 7 _ rfl⟩
theorem idle_ids_at {w : World} {b o : Nat} {x : PIdle} (h : ∀ j u, x.cells[j]? = some u → w.cell? ⟨b, o + j, none⟩ = some u) : w.cell? ⟨b, o, none⟩ = some (.int .u8 x.d.i0) ∧ w.cell? ⟨b, o + 1, none⟩ = some (.int .u8 x.d.i1) ∧ w.cell? ⟨b, o + 2, none⟩ = some (.int .u8 x.d.i2) ∧ w.cell? ⟨b, o + 3, none⟩ = some (.int .u8 x.d.i3) ∧ w.cell? ⟨b, o + 4, none⟩ = some (.int .u8 x.d.i4) ∧ w.cell? ⟨b, o + 5, none⟩ = some (.int .u8 x.d.i5) ∧ w.cell? ⟨b, o + 6, none⟩ = some (.int .u8 x.d.i6) ∧ w.cell? ⟨b, o + 7, none⟩ = some (.int .u8 x.d.i7) :=
  ⟨h 0 _ rfl, h 1 _ rfl, h 2 _ rfl, h 3 _ rfl, h 4 _ rfl, h 5 _ rfl, h 6 _ rfl, h 7 _ rfl⟩

set_option maxHeartbeats 16000000 in
theorem rlists_any (w : World) (c : PConf) (v : RV) (hin : v.In w) (hrec : recE v.x = 0) : Calls Tryz.prog 55 #[.agg #[.int .i64 c.q, .int .i64 c.d, .int .i64 c.w, .int .i64 c.ttl, .int .i64 c.b], .agg #[.int .i64 v.x.tick, .slice v.wo v.wn v.wc, .slice v.ko v.kn v.kc, .int .i64 v.x.rows, .int .i64 v.x.cols, .slice v.eo v.en v.ec, .slice v.po v.pn v.pc, .slice v.yo v.yn v.yc, .slice v.zo v.zn v.zc]] w fun e w' => e = .returned (.bool (listsF c v.x)) ∧ Below w.heap.size w w' := by
  have HIN := Lib.hid hin
  obtain ⟨sz1, sz2⟩ := rec_sizes hrec
  rw [hin.wl] at sz1
  rw [hin.kl] at sz2
  have HREC := Lib.hid hrec
  clear hin hrec
  have HW := Lib.hid (CrRel.begin w c v)
  have heq := eq_id'
  by_cases a1 : c.q < v.wn
  · have HF := Lib.hid (lists_1 (c := c) (x := v.x) (by rw [HIN.out.wl]; omega))
    go_enter Tryz.func55, Tryz.ntmps55
    go_wp2_with fail
    go_ret
    exact ⟨by rw [HF.out]; rfl, HW.out.below⟩
  by_cases a2 : c.d < v.kn
  · have HF := Lib.hid (lists_1 (c := c) (x := v.x) (by rw [HIN.out.kl]; omega))
    go_enter Tryz.func55, Tryz.ntmps55
    go_wp2_with fail
    go_ret
    exact ⟨by rw [HF.out]; rfl, HW.out.below⟩
  have HS1 := Lib.hid (show (v.x.ws.length : Int) ≤ c.q ∧ (v.x.ds.length : Int) ≤ c.d by rw [HIN.out.wl, HIN.out.kl]; omega)
  go_enter Tryz.func55, Tryz.ntmps55
  go_wp2_with fail
  generalize (w.alloc (.cells #[.int .i64 c.q, .int .i64 c.d, .int .i64 c.w, .int .i64 c.ttl, .int .i64 c.b] 23)).alloc (.cells #[.int .i64 v.x.tick, .slice v.wo v.wn v.wc, .slice v.ko v.kn v.kc, .int .i64 v.x.rows, .int .i64 v.x.cols, .slice v.eo v.en v.ec, .slice v.po v.pn v.pc, .slice v.yo v.yn v.yc, .slice v.zo v.zn v.zc] 34) = W at *
  generalize w.heap.size + 1 = H1 at *
  have HHE := Lib.hid (show ∃ H0, w.heap.size = H0 from ⟨_, rfl⟩)
  obtain ⟨H0, hH0⟩ := HHE.out
  rw [hH0] at HW
  rw [hH0]
  have HH := Lib.hid hH0
  clear hH0 HHE
  go_loopw [5] (fun i wr => Hid (∃ k : Nat, i = .int .i64 k ∧ k ≤ v.wn ∧ (∀ j, j < k → askAt c v.x.tick v.x.ws j = true) ∧ (∀ j, j < k → newAt (idsW v.x) j = true) ∧ CrRel w c v H0 H1 wr)) (fun i _ => v.wn - (intOf i).toNat)
  case atStart => exact Lib.hid ⟨0, rfl, Nat.zero_le _, upto_none, upto_none, HW.out⟩
  case round =>
    obtain ⟨k, rfl, hk, hall, hnew, hrel1⟩ := hrel.out
    clear hrel
    have HR1 := Lib.hid hrel1
    have HALL := Lib.hid hall
    have HNEW := Lib.hid hnew
    clear hrel1 hall hnew
    obtain ⟨g0, g1, g2, g3, g4, g5, g6, g7, g8⟩ := cells9 HR1.out.h
    by_cases hlt : k < v.wn
    · obtain ⟨x, hx⟩ : ∃ x, v.x.ws[k]? = some x := ⟨v.x.ws[k]'(by rw [HIN.out.wl]; exact hlt), List.getElem?_eq_getElem _⟩
      obtain ⟨b, o, hbo, _⟩ := HIN.out.wr.place (by rw [cellsOf_length _ 18 PWait.cells_length, HIN.out.wl]; omega)
      have hrd := HIN.out.wr.keep (Keep.of_below HR1.out.below (Nat.le_refl _) (fun _ => False)) (fun _ _ _ => id)
      rw [hbo] at hrd
      rw [hbo] at g1
      have HCE := Lib.hid (wait_cells_at hrd hx)
      have HX := Lib.hid hx
      have HXO := Lib.hid (HIN.out.ok.ws x (List.mem_of_getElem? hx))
      have HBD := Lib.hid (wait_bounds HREC.out hx)
      have HEQ := Lib.hid (askAt_eq (c := c) (tick := v.x.tick) hx)
      have HBOX := Lib.hid (heap_alloc_new wr (.cells #[.int .u8 x.r.i0, .int .u8 x.r.i1, .int .u8 x.r.i2, .int .u8 x.r.i3, .int .u8 x.r.i4, .int .u8 x.r.i5, .int .u8 x.r.i6, .int .u8 x.r.i7, .int .i16 x.r.fx, .int .i16 x.r.fy, .int .i16 x.r.tx, .int .i16 x.r.ty, .int .u8 x.r.seats, .int .u8 x.r.classes, .int .i64 x.r.base, .int .i64 x.r.ttl, .int .i64 x.since, .int .i64 x.number] 79))
      have HR2 := Lib.hid (HR1.out.one (.cells #[.int .u8 x.r.i0, .int .u8 x.r.i1, .int .u8 x.r.i2, .int .u8 x.r.i3, .int .u8 x.r.i4, .int .u8 x.r.i5, .int .u8 x.r.i6, .int .u8 x.r.i7, .int .i16 x.r.fx, .int .i16 x.r.fy, .int .i16 x.r.tx, .int .i16 x.r.ty, .int .u8 x.r.seats, .int .u8 x.r.classes, .int .i64 x.r.base, .int .i64 x.r.ttl, .int .i64 x.since, .int .i64 x.number] 79))
      have HBO := Lib.hid hbo
      clear hx hrd hbo
      go_wp2_with (first | ((with_reducible refine wpList_load_elem (o := ⟨some 35, _, _, _, _, _⟩) ?_ 79 (.tmp 34) ?_ b (o + k * 18) ?_ x.cells #[.int .u8 x.r.i0, .int .u8 x.r.i1, .int .u8 x.r.i2, .int .u8 x.r.i3, .int .u8 x.r.i4, .int .u8 x.r.i5, .int .u8 x.r.i6, .int .u8 x.r.i7, .int .i16 x.r.fx, .int .i16 x.r.fy, .int .i16 x.r.tx, .int .i16 x.r.ty, .int .u8 x.r.seats, .int .u8 x.r.classes, .int .i64 x.r.base, .int .i64 x.r.ttl, .int .i64 x.since, .int .i64 x.number] ?_ _ HCE.out Tryz.underlying79 ?_ ?_ ?_); rfl; rfl; rfl; rfl; rfl; exact sz_wait) | ((with_reducible refine wpList_store_new (o := ⟨none, .store 79 (.tmp 6) (.tmp 35), _, _, _, _⟩) ?_ 79 (.tmp 6) (.tmp 35) ?_ _ #[.int .u8 x.r.i0, .int .u8 x.r.i1, .int .u8 x.r.i2, .int .u8 x.r.i3, .int .u8 x.r.i4, .int .u8 x.r.i5, .int .u8 x.r.i6, .int .u8 x.r.i7, .int .i16 x.r.fx, .int .i16 x.r.fy, .int .i16 x.r.tx, .int .i16 x.r.ty, .int .u8 x.r.seats, .int .u8 x.r.classes, .int .i64 x.r.base, .int .i64 x.r.ttl, .int .i64 x.since, .int .i64 x.number] ?_ ?_ x.cells ?_ ?_ ?_ x.cells_one ?_); rfl; rfl; rfl; rfl; rfl; exact sz_wait; rfl) | ((with_reducible refine wpList_load_elem (o := ⟨some 36, _, _, _, _, _⟩) ?_ 23 (.tmp 2) ?_ H0 (0) ?_ c.cells #[.int .i64 c.q, .int .i64 c.d, .int .i64 c.w, .int .i64 c.ttl, .int .i64 c.b] ?_ _ (conf_whole HR2.out.g) Tryz.underlying23 ?_ ?_ ?_); rfl; rfl; rfl; rfl; rfl; exact sz_conf) | ((with_reducible refine wpList_load_elem (o := ⟨some 38, _, _, _, _, _⟩) ?_ 77 (.tmp 37) ?_ wr.heap.size (0) ?_ x.r.cells #[.int .u8 x.r.i0, .int .u8 x.r.i1, .int .u8 x.r.i2, .int .u8 x.r.i3, .int .u8 x.r.i4, .int .u8 x.r.i5, .int .u8 x.r.i6, .int .u8 x.r.i7, .int .i16 x.r.fx, .int .i16 x.r.fy, .int .i16 x.r.tx, .int .i16 x.r.ty, .int .u8 x.r.seats, .int .u8 x.r.classes, .int .i64 x.r.base, .int .i64 x.r.ttl] ?_ _ (wait_head HBOX.out) Tryz.underlying77 ?_ ?_ ?_); rfl; rfl; rfl; rfl; rfl; exact sz_req))
      refine (rcheck_any (wr.alloc (.cells #[.int .u8 x.r.i0, .int .u8 x.r.i1, .int .u8 x.r.i2, .int .u8 x.r.i3, .int .u8 x.r.i4, .int .u8 x.r.i5, .int .u8 x.r.i6, .int .u8 x.r.i7, .int .i16 x.r.fx, .int .i16 x.r.fy, .int .i16 x.r.tx, .int .i16 x.r.ty, .int .u8 x.r.seats, .int .u8 x.r.classes, .int .i64 x.r.base, .int .i64 x.r.ttl, .int .i64 x.since, .int .i64 x.number] 79)) c x.r HXO.out.r).mono ?_
      rintro e w1 ⟨rfl, hb1⟩
      have HR3 := Lib.hid (HR2.out.keep hb1)
      have HBX := Lib.hid ((Keep.of_below hb1 (Nat.le_refl _) (fun _ => False)).old HBOX.out id)
      clear hb1 HR2 HBOX HR1 HCE g0 g1 g2 g3 g4 g5 g6 g7 g8
      generalize wr.heap.size = H2 at *
      obtain ⟨E, hE⟩ : ∃ E, checkE c x.r = E := ⟨_, rfl⟩
      rw [hE]
      have HEE := Lib.hid hE
      clear hE
      obtain ⟨g0, g1, g2, g3, g4, g5, g6, g7, g8⟩ := cells9 HR3.out.h
      obtain ⟨k15, k16⟩ := wait_cells HBX.out
      by_cases h0 : E = 0
      · have HCB := Lib.hid (check_bounds (HEE.out.trans h0))
        obtain ⟨m1, m2, m3, m4⟩ := HBD.out
        obtain ⟨n1, n2, n3, n4, n5, n6, n7⟩ := HCB.out
        have e1 : (E != 0) = false := by simp [h0]
        have e2 : (E == 0) = true := by simp [h0]
        by_cases h1 : x.since + x.r.ttl < v.x.tick
        · have HF := Lib.hid (lists_2 (c := c) (allF_bad (List.getElem?_eq_some_iff.1 HX.out).1 (by rw [HEQ.out, decide_eq_false (show ¬ v.x.tick ≤ x.since + x.r.ttl by omega)]; simp)))
          clear h0
          go_wp2_with fail
          go_ret
          exact ⟨by rw [HF.out]; rfl, HR3.out.below⟩
        · have HA := Lib.hid (upto_next HALL.out (show askAt c v.x.tick v.x.ws k = true by rw [HEQ.out, HEE.out, h0, decide_eq_true (show v.x.tick ≤ x.since + x.r.ttl by omega)]; rfl))
          clear h0 HEQ HALL
          go_wp2_with fail
          clear n1 n2 n3 n4 n5 n6 n7 m1 m2 m3 m4 h1 e1 e2 k15 k16 g0 g1 g2 g3 g4 g5 g6 g7 g8
          as_aux_lemma =>
            go_loopw [7] (fun i wr => Hid (∃ j : Nat, i = .int .i64 j ∧ j ≤ k ∧ (∀ (q : Nat) (b : List Int), q < j → (idsW v.x)[q]? = some b → b ≠ idR x.r) ∧ CrRel w c v H0 H1 wr ∧ wr.heap[H2]? = some (.cells #[.int .u8 x.r.i0, .int .u8 x.r.i1, .int .u8 x.r.i2, .int .u8 x.r.i3, .int .u8 x.r.i4, .int .u8 x.r.i5, .int .u8 x.r.i6, .int .u8 x.r.i7, .int .i16 x.r.fx, .int .i16 x.r.fy, .int .i16 x.r.tx, .int .i16 x.r.ty, .int .u8 x.r.seats, .int .u8 x.r.classes, .int .i64 x.r.base, .int .i64 x.r.ttl, .int .i64 x.since, .int .i64 x.number] 79 (0, 0)))) (fun i _ => k - (intOf i).toNat)
            case atStart => exact Lib.hid ⟨0, rfl, Nat.zero_le _, fun q b h => absurd h (Nat.not_lt_zero q), HR3.out, HBX.out⟩
            case round =>
              clear HR3 HBX
              obtain ⟨j, rfl, hj, hdiff, hrel1, hbox⟩ := hrel.out
              clear hrel
              have HR4 := Lib.hid hrel1
              have HBX := Lib.hid hbox
              have HDF := Lib.hid hdiff
              clear hrel1 hdiff hbox
              by_cases hjk : j < k
              · obtain ⟨y, hy⟩ : ∃ y, v.x.ws[j]? = some y := ⟨v.x.ws[j]'(by rw [HIN.out.wl]; omega), List.getElem?_eq_getElem _⟩
                obtain ⟨g0, g1, g2, g3, g4, g5, g6, g7, g8⟩ := cells9 HR4.out.h
                have hrd := HIN.out.wr.keep (Keep.of_below HR4.out.below (Nat.le_refl _) (fun _ => False)) (fun _ _ _ => id)
                rw [HBO.out] at hrd g1
                obtain ⟨y0, y1, y2, y3, y4, y5, y6, y7⟩ := wait_ids_at (wait_cells_at hrd hy)
                obtain ⟨x0, x1, x2, x3, x4, x5, x6, x7⟩ := wait_ids HBX.out
                have HY := Lib.hid hy
                clear hy hrd
                have hj64 : j < 64 := by omega
                cases hq : bq_id y.r.i0 x.r.i0 y.r.i1 x.r.i1 y.r.i2 x.r.i2 y.r.i3 x.r.i3 y.r.i4 x.r.i4 y.r.i5 x.r.i5 y.r.i6 x.r.i6 y.r.i7 x.r.i7 with
                | true =>
                  have HF := Lib.hid (lists_4 (c := c) (x := v.x) (allF_bad (List.getElem?_eq_some_iff.1 (idsW_at HX.out)).1 (newAt_no (idsW_at HX.out) (idsW_at HY.out) hjk (idR_bq.1 hq))))
                  go_wp2_with fail
                  go_quiet (fail)
                  go_wp2_with fail
                  go_ret
                  exact ⟨by rw [HF.out]; rfl, below_drewN HR4.out.below _⟩
                | false =>
                  have HN := Lib.hid (show ∀ (q : Nat) (b : List Int), q < j + 1 → (idsW v.x)[q]? = some b → b ≠ idR x.r from fun q b hqj hb => by
                    rcases Nat.lt_succ_iff_lt_or_eq.1 hqj with hqj | rfl
                    · exact HDF.out q b hqj hb
                    · rw [idsW_at HY.out] at hb; cases hb; intro he; rw [idR_bq.2 he] at hq; cases hq)
                  go_wp2_with fail
                  go_quiet (fail)
                  go_wp2_with fail
                  go_roundw
                  case rel => exact Lib.hid ⟨j + 1, by go_num, by omega, HN.out, HR4.out.drewN _, HBX.out⟩
                  case measure => simp [intOf]; omega
              · obtain rfl : k = j := by omega
                have HNX := Lib.hid (upto_next HNEW.out (newAt_ok (idsW_at HX.out) HDF.out))
                go_wp2_with fail
                go_roundw
                case rel => exact Lib.hid ⟨k + 1, by go_num, by omega, HA.out, HNX.out, HR4.out⟩
                case measure => simp [intOf]; omega
      · have HF := Lib.hid (lists_2 (c := c) (allF_bad (List.getElem?_eq_some_iff.1 HX.out).1 (by rw [HEQ.out, HEE.out, decide_eq_false h0]; rfl)))
        have e1 : (E != 0) = true := by simp [h0]
        have e2 : (E == 0) = false := by simp [h0]
        clear h0
        go_wp2_with fail
        go_ret
        exact ⟨by rw [HF.out]; rfl, HR3.out.below⟩
    · obtain rfl : v.wn = k := by omega
      have HS2 := Lib.hid (show allF v.x.ws.length (askAt c v.x.tick v.x.ws) = true from allF_good (fun j hj => HALL.out j (by rw [HIN.out.wl] at hj; exact hj)))
      have HS4 := Lib.hid (show onceF (idsW v.x) = true from allF_good (fun j hj => HNEW.out j (by rw [idsW, List.length_map, HIN.out.wl] at hj; exact hj)))
      clear HALL hlt hk HNEW
      as_aux_lemma =>
        go_wp2_with fail
        go_loopw [8] (fun i wr => Hid (∃ k : Nat, i = .int .i64 k ∧ k ≤ v.kn ∧ (∀ j, j < k → mayAt v.x.ds j = true) ∧ (∀ j, j < k → newAt (idsD v.x) j = true) ∧ CrRel w c v H0 H1 wr)) (fun i _ => v.kn - (intOf i).toNat)
        case atStart => exact Lib.hid ⟨0, rfl, Nat.zero_le _, upto_none, upto_none, HR1.out⟩
        case round =>
          clear HR1 g0 g1 g2 g3 g4 g5 g6 g7 g8
          obtain ⟨k, rfl, hk, hall, hnew, hrel1⟩ := hrel.out
          clear hrel
          have HR1 := Lib.hid hrel1
          have HALL := Lib.hid hall
          have HNEW := Lib.hid hnew
          clear hrel1 hall hnew
          obtain ⟨g0, g1, g2, g3, g4, g5, g6, g7, g8⟩ := cells9 HR1.out.h
          by_cases hlt : k < v.kn
          · obtain ⟨x, hx⟩ : ∃ x, v.x.ds[k]? = some x := ⟨v.x.ds[k]'(by rw [HIN.out.kl]; exact hlt), List.getElem?_eq_getElem _⟩
            obtain ⟨b, o, hbo, _⟩ := HIN.out.kr.place (by rw [cellsOf_length _ 14 PIdle.cells_length, HIN.out.kl]; omega)
            have hrd := HIN.out.kr.keep (Keep.of_below HR1.out.below (Nat.le_refl _) (fun _ => False)) (fun _ _ _ => id)
            rw [hbo] at hrd
            rw [hbo] at g2
            have HCE := Lib.hid (drv_cells_at hrd hx)
            have HX := Lib.hid hx
            have HXO := Lib.hid (HIN.out.ok.ds x (List.mem_of_getElem? hx))
            have HEQ := Lib.hid (mayAt_eq hx)
            have HBO := Lib.hid hbo
            clear hx hrd hbo
            go_wp2_with (first | ((with_reducible refine wpList_load_elem (o := ⟨some 80, _, _, _, _, _⟩) ?_ 81 (.tmp 79) ?_ b (o + k * 14) ?_ x.d.cells #[.int .u8 x.d.i0, .int .u8 x.d.i1, .int .u8 x.d.i2, .int .u8 x.d.i3, .int .u8 x.d.i4, .int .u8 x.d.i5, .int .u8 x.d.i6, .int .u8 x.d.i7, .int .i16 x.d.ax, .int .i16 x.d.ay, .int .u8 x.d.seats, .int .u8 x.d.cls, .int .i64 x.d.radius] ?_ _ HCE.out Tryz.underlying81 ?_ ?_ ?_); rfl; rfl; rfl; rfl; rfl; exact sz_drv))
            refine (rdriver_any wr x.d HXO.out.d).mono ?_
            rintro e w1 ⟨rfl, hb1⟩
            have HR3 := Lib.hid (HR1.out.keep hb1)
            clear hb1 HR1 HCE g0 g1 g2 g3 g4 g5 g6 g7 g8
            obtain ⟨E, hE⟩ : ∃ E, driverE x.d = E := ⟨_, rfl⟩
            rw [hE]
            have HEE := Lib.hid hE
            clear hE
            by_cases h0 : E = 0
            · have e1 : (E != 0) = false := by simp [h0]
              have e2 : (E == 0) = true := by simp [h0]
              have HA := Lib.hid (upto_next HALL.out (show mayAt v.x.ds k = true by rw [HEQ.out, HEE.out, h0]; rfl))
              clear h0 HEQ HALL
              go_wp2_with fail
              clear e1 e2
              as_aux_lemma =>
                go_loopw [9] (fun i wr => Hid (∃ j : Nat, i = .int .i64 j ∧ j ≤ k ∧ (∀ (q : Nat) (b : List Int), q < j → (idsD v.x)[q]? = some b → b ≠ idD x.d) ∧ CrRel w c v H0 H1 wr)) (fun i _ => k - (intOf i).toNat)
                case atStart => exact Lib.hid ⟨0, rfl, Nat.zero_le _, fun q b h => absurd h (Nat.not_lt_zero q), HR3.out⟩
                case round =>
                  clear HR3
                  obtain ⟨j, rfl, hj, hdiff, hrel1⟩ := hrel.out
                  clear hrel
                  have HR4 := Lib.hid hrel1
                  have HDF := Lib.hid hdiff
                  clear hrel1 hdiff
                  by_cases hjk : j < k
                  · obtain ⟨y, hy⟩ : ∃ y, v.x.ds[j]? = some y := ⟨v.x.ds[j]'(by rw [HIN.out.kl]; omega), List.getElem?_eq_getElem _⟩
                    obtain ⟨g0, g1, g2, g3, g4, g5, g6, g7, g8⟩ := cells9 HR4.out.h
                    have hrd := HIN.out.kr.keep (Keep.of_below HR4.out.below (Nat.le_refl _) (fun _ => False)) (fun _ _ _ => id)
                    rw [HBO.out] at hrd g2
                    obtain ⟨y0, y1, y2, y3, y4, y5, y6, y7⟩ := idle_ids_at (idle_cells_at hrd hy)
                    obtain ⟨x0, x1, x2, x3, x4, x5, x6, x7⟩ := idle_ids_at (idle_cells_at hrd HX.out)
                    have HY := Lib.hid hy
                    clear hy hrd
                    have hj64 : j < 64 := by omega
                    cases hq : bq_id y.d.i0 x.d.i0 y.d.i1 x.d.i1 y.d.i2 x.d.i2 y.d.i3 x.d.i3 y.d.i4 x.d.i4 y.d.i5 x.d.i5 y.d.i6 x.d.i6 y.d.i7 x.d.i7 with
                    | true =>
                      have HF := Lib.hid (lists_5 (c := c) (x := v.x) (allF_bad (List.getElem?_eq_some_iff.1 (idsD_at HX.out)).1 (newAt_no (idsD_at HX.out) (idsD_at HY.out) hjk (idD_bq.1 hq))))
                      go_wp2_with fail
                      go_quiet (fail)
                      go_wp2_with fail
                      go_ret
                      exact ⟨by rw [HF.out]; rfl, below_drewN HR4.out.below _⟩
                    | false =>
                      have HN := Lib.hid (show ∀ (q : Nat) (b : List Int), q < j + 1 → (idsD v.x)[q]? = some b → b ≠ idD x.d from fun q b hqj hb => by
                        rcases Nat.lt_succ_iff_lt_or_eq.1 hqj with hqj | rfl
                        · exact HDF.out q b hqj hb
                        · rw [idsD_at HY.out] at hb; cases hb; intro he; rw [idD_bq.2 he] at hq; cases hq)
                      go_wp2_with fail
                      go_quiet (fail)
                      go_wp2_with fail
                      go_roundw
                      case rel => exact Lib.hid ⟨j + 1, by go_num, by omega, HN.out, HR4.out.drewN _⟩
                      case measure => simp [intOf]; omega
                  · obtain rfl : k = j := by omega
                    have HNX := Lib.hid (upto_next HNEW.out (newAt_ok (idsD_at HX.out) HDF.out))
                    go_wp2_with fail
                    go_roundw
                    case rel => exact Lib.hid ⟨k + 1, by go_num, by omega, HA.out, HNX.out, HR4.out⟩
                    case measure => simp [intOf]; omega
            · have HF := Lib.hid (lists_3 (c := c) (allF_bad (List.getElem?_eq_some_iff.1 HX.out).1 (by rw [HEQ.out, HEE.out]; exact decide_eq_false h0)))
              have e1 : (E != 0) = true := by simp [h0]
              have e2 : (E == 0) = false := by simp [h0]
              clear h0
              go_wp2_with fail
              go_ret
              exact ⟨by rw [HF.out]; rfl, HR3.out.below⟩
          · obtain rfl : v.kn = k := by omega
            have HS3 := Lib.hid (show allF v.x.ds.length (mayAt v.x.ds) = true from allF_good (fun j hj => HALL.out j (by rw [HIN.out.kl] at hj; exact hj)))
            have HS5 := Lib.hid (show onceF (idsD v.x) = true from allF_good (fun j hj => HNEW.out j (by rw [idsD, List.length_map, HIN.out.kl] at hj; exact hj)))
            have HF := Lib.hid (lists_6 HS1.out HS2.out HS3.out HS4.out HS5.out)
            go_wp2_with fail
            go_ret
            exact ⟨by rw [HF.out]; rfl, HR1.out.below⟩
end Go.Proofs.YtcaicgipibcicaaGreat
