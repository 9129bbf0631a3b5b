/- The journal: a record is written. Printed by wip/genrecw.py. -/
import Derived.Test.YtcaicgipibcicaaGreatQGate4
import Derived.Test.YtcaicgipibcicaaGreatQRLists
import Derived.BigRegion
namespace Go.Proofs.YtcaicgipibcicaaGreat
set_option maxRecDepth 100000
set_option linter.unusedVariables false
set_option linter.unusedSimpArgs false
open Go.RowKit Go.Sort

/-- A record's bytes. -/
def recB (x : PRec) : List Int := varB x.tick.toNat ++ listB waitB x.ws ++ listB idleB x.ds ++ listB edgeB x.es ++ listB pairB x.ps ++ x.ys.flatMap intB ++ x.zs.flatMap intB
theorem waits_nn {x : PRec} (h : recE x = 0) : ∀ y ∈ x.ws, 0 ≤ y.since ∧ 0 ≤ y.number := by
  obtain ⟨_, h2, _⟩ := recE_good h
  have hk : ∀ (k : Nat) (y : PWait), x.ws[k]? = some y → 0 ≤ y.since ∧ 0 ≤ y.number := by
    intro k
    induction k with
    | zero =>
      intro y hy
      have h3 := allF_at h2 (List.getElem?_eq_some_iff.1 hy).1
      rw [waitAt_eq hy] at h3
      have h4 := of_decide_eq_true h3
      have h5 : prevW x.ws 0 = -1 := rfl
      omega
    | succ k ih =>
      intro y hy
      have h3 := allF_at h2 (List.getElem?_eq_some_iff.1 hy).1
      rw [waitAt_eq hy] at h3
      have h4 := of_decide_eq_true h3
      obtain ⟨z, hz⟩ : ∃ z, x.ws[k]? = some z := ⟨x.ws[k]'(by have := (List.getElem?_eq_some_iff.1 hy).1; omega), List.getElem?_eq_getElem _⟩
      rw [prevW_succ hz] at h4
      have := ih z hz
      omega
  intro y hy
  obtain ⟨k, hk1⟩ := List.mem_iff_getElem?.1 hy
  exact hk k y hk1
theorem idles_nn {x : PRec} (h : recE x = 0) : ∀ y ∈ x.ds, 0 ≤ y.number := by
  obtain ⟨_, _, h2, _⟩ := recE_good h
  have hk : ∀ (k : Nat) (y : PIdle), x.ds[k]? = some y → 0 ≤ y.number := by
    intro k
    induction k with
    | zero =>
      intro y hy
      have h3 := allF_at h2 (List.getElem?_eq_some_iff.1 hy).1
      rw [idleAt_eq hy] at h3
      have h4 := of_decide_eq_true h3
      have h5 : prevD x.ds 0 = -1 := rfl
      omega
    | succ k ih =>
      intro y hy
      have h3 := allF_at h2 (List.getElem?_eq_some_iff.1 hy).1
      rw [idleAt_eq hy] at h3
      have h4 := of_decide_eq_true h3
      obtain ⟨z, hz⟩ : ∃ z, x.ds[k]? = some z := ⟨x.ds[k]'(by have := (List.getElem?_eq_some_iff.1 hy).1; omega), List.getElem?_eq_getElem _⟩
      rw [prevD_succ hz] at h4
      have := ih z hz
      omega
  intro y hy
  obtain ⟨k, hk1⟩ := List.mem_iff_getElem?.1 hy
  exact hk k y hk1
theorem shape_of {x : PRec} (h : recE x = 0) : graphF x.rows x.cols x.es = true ∧ x.rows = x.ws.length ∧ x.cols = x.ds.length := by
  obtain ⟨_, _, _, h3, _⟩ := recE_good h
  unfold shapeB at h3
  simpa [and_assoc] using h3
theorem edges_nn {x : PRec} (h : recE x = 0) : ∀ y ∈ x.es, 0 ≤ y.r ∧ 0 ≤ y.c ∧ 0 ≤ y.w := by
  intro y hy
  obtain ⟨k, hk⟩ := List.mem_iff_getElem?.1 hy
  have := graphF_at (shape_of h).1 hk
  omega
theorem pairs_nn {x : PRec} (h : recE x = 0) : ∀ y ∈ x.ps, 0 ≤ y.r ∧ 0 ≤ y.c := by
  intro y hy
  obtain ⟨k, hk⟩ := List.mem_iff_getElem?.1 hy
  obtain ⟨_, _, _, _, h5, _⟩ := recE_good h
  have h6 := matchF_at h5 hk
  rcases worthAt_in (shape_of h).1 y.r y.c with ⟨h7, _⟩ | h7
  · exact absurd h7 h6.2.1
  · omega
theorem lens_of {x : PRec} (h : recE x = 0) : (x.ys.length : Int) = x.rows ∧ (x.zs.length : Int) = x.cols := by
  obtain ⟨_, _, _, _, _, h6⟩ := recE_good h
  unfold lengthsB at h6
  simpa using h6
theorem intsM_any (wS w : World) (GB WB : Nat) (sv : Value) (l : List Int) (h : Gt wS GB WB sv l w) (RB off : Nat) (ao : Option Addr) (n c : Nat) (hs : w.cell? ⟨RB, off, none⟩ = some (.slice ao n c)) (hfr : Free sv WB RB) (xs : List Int) (hx : xs.length = n) (hr : RdC wS ao (cellsOf icell xs))
    (hok : ∀ x ∈ xs, i64ok x) (hn : n ≤ 1048576) (hl : l.length ≤ 700000000) (m : Int) (hm : (n : Int) = m) :
    Calls Tryz.prog 171 #[.pointer (some ⟨GB, 0, none⟩), .pointer (some ⟨RB, off, none⟩), .int .i64 m] w fun e w' => e = .returned (.tuple #[]) ∧ GWrote wS GB WB sv (l ++ xs.flatMap intB) w w' := by
  subst hm
  exact ints_any wS w GB WB sv l h RB off ao n c hs hfr xs hx hr hok hn hl
/-- The gate's state, a record's box left alone. -/
theorem Gt.keepX {wS : World} {GB WB : Nat} {sv : Value} {l : List Int} {w w' : World} (h : Gt wS GB WB sv l w) {RB : Nat} (hk : Keep (fun k => k = RB) w w') (h1 : GB ≠ RB) (h2 : Free sv WB RB) (h3 : wS.heap.size ≤ RB) : Gt wS GB WB sv l w' :=
  ⟨hk.old h.gate h1, h.w1.keep hk (fun he => h2.1 he.symm) (fun g hg he => h2.2 (by rw [hg, he])), h.gw, h.gs, h.below.trans (hk.below h.below.size (fun i hi he => by omega)), h.wb, h.sb⟩
theorem set_same2 {w : World} {RB : Nat} {v : RV} (h : w.heap[RB]? = some (.cells #[.int .i64 v.x.tick, .slice v.wo v.wn v.wc, .slice v.ko v.kn v.kc, .int .i64 v.x.rows, .int .i64 v.x.cols, .slice v.eo v.en v.ec, .slice v.po v.pn v.pc, .slice v.yo v.yn v.yc, .slice v.zo v.zn v.zc] 34 (0, 0))) (h1 : v.x.rows = v.wn) (h2 : v.x.cols = v.kn) :
    ((w.setCell ⟨RB, 3, none⟩ (.int .i64 v.wn)).setCell ⟨RB, 4, none⟩ (.int .i64 v.kn)).heap[RB]? = some (.cells #[.int .i64 v.x.tick, .slice v.wo v.wn v.wc, .slice v.ko v.kn v.kc, .int .i64 v.x.rows, .int .i64 v.x.cols, .slice v.eo v.en v.ec, .slice v.po v.pn v.pc, .slice v.yo v.yn v.yc, .slice v.zo v.zn v.zc] 34 (0, 0)) := by
  have := row_set (row_set h 3 (.int .i64 v.wn)) 4 (.int .i64 v.kn)
  rw [this, ← h1, ← h2]
  rfl
theorem set_same2' {w : World} {RB : Nat} {v : RV} (h : w.heap[RB]? = some (.cells #[.int .i64 v.x.tick, .slice v.wo v.wn v.wc, .slice v.ko v.kn v.kc, .int .i64 v.x.rows, .int .i64 v.x.cols, .slice v.eo v.en v.ec, .slice v.po v.pn v.pc, .slice v.yo v.yn v.yc, .slice v.zo v.zn v.zc] 34 (0, 0))) (h1 : v.x.rows = v.wn) (h2 : v.x.cols = v.kn) :
    ((w.setCell ⟨RB, 4, none⟩ (.int .i64 v.kn)).setCell ⟨RB, 3, none⟩ (.int .i64 v.wn)).heap[RB]? = some (.cells #[.int .i64 v.x.tick, .slice v.wo v.wn v.wc, .slice v.ko v.kn v.kc, .int .i64 v.x.rows, .int .i64 v.x.cols, .slice v.eo v.en v.ec, .slice v.po v.pn v.pc, .slice v.yo v.yn v.yc, .slice v.zo v.zn v.zc] 34 (0, 0)) := by
  have := row_set (row_set h 4 (.int .i64 v.kn)) 3 (.int .i64 v.wn)
  rw [this, ← h1, ← h2]
  rfl

set_option maxHeartbeats 16000000 in
theorem record_any (wS w : World) (GB WB : Nat) (sv : Value) (v : RV) (h : Gt wS GB WB sv [] w) (hin : v.In wS) (hrec : recE v.x = 0) (RB : Nat) (hrb : w.heap[RB]? = some (.cells #[.int .i64 v.x.tick, .slice v.wo v.wn v.wc, .slice v.ko v.kn v.kc, .int .i64 v.x.rows, .int .i64 v.x.cols, .slice v.eo v.en v.ec, .slice v.po v.pn v.pc, .slice v.yo v.yn v.yc, .slice v.zo v.zn v.zc] 34 (0, 0))) (hfr : Free sv WB RB) (hgr : GB ≠ RB) (hsr : wS.heap.size ≤ RB) :
    Calls Tryz.prog 126 #[.pointer (some ⟨GB, 0, none⟩), .pointer (some ⟨RB, 0, none⟩)] w fun e w' => e = .returned (.tuple #[]) ∧ ∃ sv', Gt wS GB WB sv' (recB v.x) w' := by
  have hmf : ∀ (fn : Fn) (first cap : Array Value) (w : World), (Instr.makeFunc fn first cap).run Tryz.prog w = .ok (.func fn first cap) w := fun _ _ _ _ => rfl
  have HMF := Lib.hid hmf
  have HIN := Lib.hid hin
  have HFR := Lib.hid hfr
  have HRB := Lib.hid hrb
  have HW1 := Lib.hid (waits_nn hrec)
  have HD1 := Lib.hid (idles_nn hrec)
  have HE1 := Lib.hid (edges_nn hrec)
  have HP1 := Lib.hid (pairs_nn hrec)
  obtain ⟨sh1, sh2, sh3⟩ := shape_of hrec
  obtain ⟨le1, le2⟩ := lens_of hrec
  obtain ⟨sz1, sz2⟩ := rec_sizes hrec
  obtain ⟨hh1, hh2, hh3, hh4⟩ := graphF_hdr sh1
  rw [hin.wl] at sh2 sz1
  rw [hin.kl] at sh3 sz2
  rw [hin.yl] at le1
  rw [hin.zl] at le2
  have eb := hin.eb
  have pb := hin.pb
  have hti : 1 ≤ v.x.tick := by
    obtain ⟨h1, _⟩ := recE_good hrec
    have h5 : 1 ≤ v.x.tick ∧ v.x.tick ≤ 1099511627776 ∧ v.x.ws.length ≤ 64 ∧ v.x.ds.length ≤ 64 := of_decide_eq_true h1
    omega
  have L1 := Lib.hid (natB_len hin.ok.tick)
  have L2 := Lib.hid (listB_len (f := waitB) (fun y hy => waitB_len (hin.ok.ws y hy)) hin.wl (by omega))
  have L3 := Lib.hid (listB_len (f := idleB) (fun y hy => idleB_len (hin.ok.ds y hy)) hin.kl (by omega))
  have L4 := Lib.hid (listB_len (f := edgeB) (fun y hy => edgeB_len (hin.ok.es y hy)) hin.el eb)
  have L5 := Lib.hid (listB_len (f := pairB) (fun y hy => pairB_len (hin.ok.ps y hy)) hin.pl pb)
  have L6 := Lib.hid (show (v.x.ys.flatMap intB).length ≤ 10485760 by have := enc_len (f := intB) (m := 10) (L := v.x.ys) (fun y _ => intB_len y); rw [hin.yl] at this; omega)
  have HG0 := Lib.hid (h.alloc (.cells #[.pointer (some ⟨GB, 0, none⟩)] 142))
  have HBX := Lib.hid (heap_alloc_new w (.cells #[.pointer (some ⟨GB, 0, none⟩)] 142))
  have HFB := Lib.hid (Free.new h (b := w.heap.size) (Nat.le_refl _))
  have HR0 := Lib.hid ((Keep.alloc (fun _ => False) w (.cells #[.pointer (some ⟨GB, 0, none⟩)] 142)).old hrb id)
  have hRBw := lt_of_block hrb
  have hGBw := lt_of_block h.gate
  have HSZ := Lib.hid (show (w.alloc (.cells #[.pointer (some ⟨GB, 0, none⟩)] 142)).heap.size = w.heap.size + 1 by simp)
  clear h hin hrec hrb hfr sh1
  go_enter Tryz.func126, Tryz.ntmps126
  go_upto_region 1 with fail
  generalize w.alloc (.cells #[.pointer (some ⟨GB, 0, none⟩)] 142) = w0 at *
  generalize w.heap.size = BX at *
  have HF0R := HFR
  have HF0B := HFB
  have hlt0 : RB < w0.heap.size := by have := HSZ.out; omega
  have hltB : BX < w0.heap.size := by have := HSZ.out; omega
  have hneB : BX ≠ RB := by omega
  have hneG : BX ≠ GB := by omega
  have HX0 := HBX
  have pb0 := ptr_cell HX0.out
  obtain ⟨g0, g1, g2, g3, g4, g5, g6, g7, g8⟩ := cells9 HR0.out
  go_still_tail 4, (by kernel_rfl)
  change wpList _ _ _ _ _ w0.drew
  have HG0d := Lib.hid HG0.out.drew
  go_wp2_with fail
  clear pb0 g0 g1 g2 g3 g4 g5 g6 g7 g8
  refine (nat_any wS w0.drew GB WB sv [] HG0d.out RB 0 v.x.tick 9223372036854775807 (cells9 HR0.out).1 (by omega) HIN.out.ok.tick (by simp)).mono ?_
  rintro e w1 ⟨rfl, hb⟩
  obtain ⟨sv1, hg, hk, hn⟩ := hb.after (Keep.drew (fun _ => False) w0)
  have HG1 := Lib.hid hg
  have HR1 := Lib.hid (hk.old HR0.out HF0R.out.not)
  have HX1 := Lib.hid (hk.old HX0.out HF0B.out.not)
  have HF1R := Lib.hid (HF0R.out.next (lt_of_block HR0.out) hn)
  have HF1B := Lib.hid (HF0B.out.next (lt_of_block HX0.out) hn)
  clear hg hk hn HG0 HG0d HR0 HX0 HF0R HF0B
  go_wp2_with fail
  have pb1 := ptr_cell HX1.out
  obtain ⟨g0, g1, g2, g3, g4, g5, g6, g7, g8⟩ := cells9 HR1.out
  go_still_tail 6, (by kernel_rfl)
  change wpList _ _ _ _ _ w1.drew
  have HG1d := Lib.hid HG1.out.drew
  go_wp2_with fail
  clear pb1 g0 g1 g2 g3 g4 g5 g6 g7 g8
  refine (listW_any wS w1.drew GB WB sv1 ([] ++ varB v.x.tick.toNat) HG1d.out RB 1 v.wo v.wn v.wc (cells9 HR1.out).2.1 HF1R.out v.x.ws HIN.out.wl HIN.out.wr HIN.out.ok.ws HW1.out (by omega) 64 (by have := L1.out; have := L2.out; have := L3.out; have := L4.out; have := L5.out; have := L6.out; simp only [List.length_append, List.length_nil, List.nil_append]; omega)).mono ?_
  rintro e w2 ⟨rfl, hb⟩
  obtain ⟨sv2, hg, hk, hn⟩ := hb.after (Keep.drew (fun _ => False) w1)
  have HG2 := Lib.hid hg
  have HR2 := Lib.hid (hk.old HR1.out HF1R.out.not)
  have HX2 := Lib.hid (hk.old HX1.out HF1B.out.not)
  have HF2R := Lib.hid (HF1R.out.next (lt_of_block HR1.out) hn)
  have HF2B := Lib.hid (HF1B.out.next (lt_of_block HX1.out) hn)
  clear hg hk hn HG1 HG1d HR1 HX1 HF1R HF1B
  go_wp2_with fail
  have pb2 := ptr_cell HX2.out
  obtain ⟨g0, g1, g2, g3, g4, g5, g6, g7, g8⟩ := cells9 HR2.out
  go_still_tail 6, (by kernel_rfl)
  change wpList _ _ _ _ _ w2.drew
  have HG2d := Lib.hid HG2.out.drew
  go_wp2_with fail
  clear pb2 g0 g1 g2 g3 g4 g5 g6 g7 g8
  refine (listD_any wS w2.drew GB WB sv2 ([] ++ varB v.x.tick.toNat ++ listB waitB v.x.ws) HG2d.out RB 2 v.ko v.kn v.kc (cells9 HR2.out).2.2.1 HF2R.out v.x.ds HIN.out.kl HIN.out.kr HIN.out.ok.ds HD1.out (by omega) 64 (by have := L1.out; have := L2.out; have := L3.out; have := L4.out; have := L5.out; have := L6.out; simp only [List.length_append, List.length_nil, List.nil_append]; omega)).mono ?_
  rintro e w3 ⟨rfl, hb⟩
  obtain ⟨sv3, hg, hk, hn⟩ := hb.after (Keep.drew (fun _ => False) w2)
  have HG3 := Lib.hid hg
  have HR3 := Lib.hid (hk.old HR2.out HF2R.out.not)
  have HX3 := Lib.hid (hk.old HX2.out HF2B.out.not)
  have HF3R := Lib.hid (HF2R.out.next (lt_of_block HR2.out) hn)
  have HF3B := Lib.hid (HF2B.out.next (lt_of_block HX2.out) hn)
  clear hg hk hn HG2 HG2d HR2 HX2 HF2R HF2B
  go_wp2_with fail
  have pb3 := ptr_cell HX3.out
  have qf : ∀ j, w3.frozen? ⟨RB, j, none⟩ = false := fun j => frozen_of_row w3 RB j _ _ HR3.out
  obtain ⟨g0, g1, g2, g3, g4, g5, g6, g7, g8⟩ := cells9 HR3.out
  go_region
  have HG4 := Lib.hid (show Gt wS GB WB sv3 ([] ++ varB v.x.tick.toNat ++ listB waitB v.x.ws ++ listB idleB v.x.ds) ((w3.setCell ⟨RB, 3, none⟩ (.int .i64 v.wn)).setCell ⟨RB, 4, none⟩ (.int .i64 v.kn)).drew from ((HG3.out.keepX ((Keep.setCell w3 RB 3 _).trans (Keep.setCell _ RB 4 _) (fun _ _ h => h) (fun _ _ h => h)) hgr HF3R.out hsr).drew))
  have HR4 := Lib.hid (show ((w3.setCell ⟨RB, 3, none⟩ (.int .i64 v.wn)).setCell ⟨RB, 4, none⟩ (.int .i64 v.kn)).drew.heap[RB]? = some (.cells #[.int .i64 v.x.tick, .slice v.wo v.wn v.wc, .slice v.ko v.kn v.kc, .int .i64 v.x.rows, .int .i64 v.x.cols, .slice v.eo v.en v.ec, .slice v.po v.pn v.pc, .slice v.yo v.yn v.yc, .slice v.zo v.zn v.zc] 34 (0, 0)) from set_same2 HR3.out sh2 sh3)
  have HX4 := Lib.hid (show ((w3.setCell ⟨RB, 3, none⟩ (.int .i64 v.wn)).setCell ⟨RB, 4, none⟩ (.int .i64 v.kn)).drew.heap[BX]? = some (.cells #[.pointer (some ⟨GB, 0, none⟩)] 142 (0, 0)) from ((Keep.setCell w3 RB 3 (.int .i64 v.wn)).trans (Keep.setCell _ RB 4 (.int .i64 v.kn)) (fun _ _ h => h) (fun _ _ h => h)).old HX3.out hneB)
  have HF4R := HF3R
  have HF4B := HF3B
  clear HG3 HR3 HX3 HF3R HF3B qf g0 g1 g2 g3 g4 g5 g6 g7 g8 pb3
  generalize ((w3.setCell ⟨RB, 3, none⟩ (.int .i64 v.wn)).setCell ⟨RB, 4, none⟩ (.int .i64 v.kn)).drew = w4 at *
  generalize sv3 = sv4 at *
  go_wp2_with fail
  have pb4 := ptr_cell HX4.out
  obtain ⟨g0, g1, g2, g3, g4, g5, g6, g7, g8⟩ := cells9 HR4.out
  go_still_tail 6, (by kernel_rfl)
  change wpList _ _ _ _ _ w4.drew
  have HG4d := Lib.hid HG4.out.drew
  go_wp2_with fail
  clear pb4 g0 g1 g2 g3 g4 g5 g6 g7 g8
  refine (listE_any wS w4.drew GB WB sv4 ([] ++ varB v.x.tick.toNat ++ listB waitB v.x.ws ++ listB idleB v.x.ds) HG4d.out RB 5 v.eo v.en v.ec (cells9 HR4.out).2.2.2.2.2.1 HF4R.out v.x.es HIN.out.el HIN.out.er HIN.out.ok.es HE1.out eb 4096 (by have := L1.out; have := L2.out; have := L3.out; have := L4.out; have := L5.out; have := L6.out; simp only [List.length_append, List.length_nil, List.nil_append]; omega) BX HX4.out HF4B.out).mono ?_
  rintro e w5 ⟨rfl, hb⟩
  obtain ⟨sv5, hg, hk, hn⟩ := hb.after (Keep.drew (fun _ => False) w4)
  have HG5 := Lib.hid hg
  have HR5 := Lib.hid (hk.old HR4.out HF4R.out.not)
  have HX5 := Lib.hid (hk.old HX4.out HF4B.out.not)
  have HF5R := Lib.hid (HF4R.out.next (lt_of_block HR4.out) hn)
  have HF5B := Lib.hid (HF4B.out.next (lt_of_block HX4.out) hn)
  clear hg hk hn HG4 HG4d HR4 HX4 HF4R HF4B
  go_wp2_with fail
  have pb5 := ptr_cell HX5.out
  obtain ⟨g0, g1, g2, g3, g4, g5, g6, g7, g8⟩ := cells9 HR5.out
  go_still_tail 6, (by kernel_rfl)
  change wpList _ _ _ _ _ w5.drew
  have HG5d := Lib.hid HG5.out.drew
  go_wp2_with fail
  clear pb5 g0 g1 g2 g3 g4 g5 g6 g7 g8
  refine (listP_any wS w5.drew GB WB sv5 ([] ++ varB v.x.tick.toNat ++ listB waitB v.x.ws ++ listB idleB v.x.ds ++ listB edgeB v.x.es) HG5d.out RB 6 v.po v.pn v.pc (cells9 HR5.out).2.2.2.2.2.2.1 HF5R.out v.x.ps HIN.out.pl HIN.out.pr HIN.out.ok.ps HP1.out pb 64 (by have := L1.out; have := L2.out; have := L3.out; have := L4.out; have := L5.out; have := L6.out; simp only [List.length_append, List.length_nil, List.nil_append]; omega) BX HX5.out HF5B.out).mono ?_
  rintro e w6 ⟨rfl, hb⟩
  obtain ⟨sv6, hg, hk, hn⟩ := hb.after (Keep.drew (fun _ => False) w5)
  have HG6 := Lib.hid hg
  have HR6 := Lib.hid (hk.old HR5.out HF5R.out.not)
  have HX6 := Lib.hid (hk.old HX5.out HF5B.out.not)
  have HF6R := Lib.hid (HF5R.out.next (lt_of_block HR5.out) hn)
  have HF6B := Lib.hid (HF5B.out.next (lt_of_block HX5.out) hn)
  clear hg hk hn HG5 HG5d HR5 HX5 HF5R HF5B
  go_wp2_with fail
  have pb6 := ptr_cell HX6.out
  obtain ⟨g0, g1, g2, g3, g4, g5, g6, g7, g8⟩ := cells9 HR6.out
  go_still_tail 10, (by kernel_rfl)
  change wpList _ _ _ _ _ w6.drew
  have HG6d := Lib.hid HG6.out.drew
  go_wp2_with fail
  clear pb6 g0 g1 g2 g3 g4 g5 g6 g7 g8
  refine (intsM_any wS w6.drew GB WB sv6 ([] ++ varB v.x.tick.toNat ++ listB waitB v.x.ws ++ listB idleB v.x.ds ++ listB edgeB v.x.es ++ listB pairB v.x.ps) HG6d.out RB 7 v.yo v.yn v.yc (cells9 HR6.out).2.2.2.2.2.2.2.1 HF6R.out v.x.ys HIN.out.yl HIN.out.yr HIN.out.ok.ys (by omega) (by have := L1.out; have := L2.out; have := L3.out; have := L4.out; have := L5.out; have := L6.out; simp only [List.length_append, List.length_nil, List.nil_append]; omega) (v.wn : Int) (le1.trans sh2)).mono ?_
  rintro e w7 ⟨rfl, hb⟩
  obtain ⟨sv7, hg, hk, hn⟩ := hb.after (Keep.drew (fun _ => False) w6)
  have HG7 := Lib.hid hg
  have HR7 := Lib.hid (hk.old HR6.out HF6R.out.not)
  have HX7 := Lib.hid (hk.old HX6.out HF6B.out.not)
  have HF7R := Lib.hid (HF6R.out.next (lt_of_block HR6.out) hn)
  have HF7B := Lib.hid (HF6B.out.next (lt_of_block HX6.out) hn)
  clear hg hk hn HG6 HG6d HR6 HX6 HF6R HF6B
  go_wp2_with fail
  have pb7 := ptr_cell HX7.out
  obtain ⟨g0, g1, g2, g3, g4, g5, g6, g7, g8⟩ := cells9 HR7.out
  go_still_tail 10, (by kernel_rfl)
  change wpList _ _ _ _ _ w7.drew
  have HG7d := Lib.hid HG7.out.drew
  go_wp2_with fail
  clear pb7 g0 g1 g2 g3 g4 g5 g6 g7 g8
  refine (intsM_any wS w7.drew GB WB sv7 ([] ++ varB v.x.tick.toNat ++ listB waitB v.x.ws ++ listB idleB v.x.ds ++ listB edgeB v.x.es ++ listB pairB v.x.ps ++ v.x.ys.flatMap intB) HG7d.out RB 8 v.zo v.zn v.zc (cells9 HR7.out).2.2.2.2.2.2.2.2 HF7R.out v.x.zs HIN.out.zl HIN.out.zr HIN.out.ok.zs (by omega) (by have := L1.out; have := L2.out; have := L3.out; have := L4.out; have := L5.out; have := L6.out; simp only [List.length_append, List.length_nil, List.nil_append]; omega) (v.kn : Int) (le2.trans sh3)).mono ?_
  rintro e w8 ⟨rfl, hb⟩
  obtain ⟨sv8, hg, hk, hn⟩ := hb.after (Keep.drew (fun _ => False) w7)
  have HG8 := Lib.hid hg
  have HR8 := Lib.hid (hk.old HR7.out HF7R.out.not)
  have HX8 := Lib.hid (hk.old HX7.out HF7B.out.not)
  have HF8R := Lib.hid (HF7R.out.next (lt_of_block HR7.out) hn)
  have HF8B := Lib.hid (HF7B.out.next (lt_of_block HX7.out) hn)
  clear hg hk hn HG7 HG7d HR7 HX7 HF7R HF7B
  go_wp2_with fail
  exact bodyPost_end (v := .tuple #[]) (by simp [results, Tryz.results126, go_sem]) rfl ⟨rfl, sv8, by simpa only [recB, List.nil_append, List.append_assoc] using HG8.out⟩

end Go.Proofs.YtcaicgipibcicaaGreat
