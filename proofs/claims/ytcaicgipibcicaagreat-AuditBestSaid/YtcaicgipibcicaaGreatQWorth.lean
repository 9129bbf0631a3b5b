/- What pairs are worth in a graph: assign.Worth. -/
import Derived.Test.YtcaicgipibcicaaGreatQLaid
namespace Go.Proofs.YtcaicgipibcicaaGreat
set_option maxRecDepth 100000
set_option linter.unusedVariables false
set_option linter.unusedSimpArgs false
open Go.RowKit Go.Sort

/-- What is answered: the worth, and an error. -/
def worthE (rows cols : Int) (es : List PEdge) (ps : List PPair) : Int × Int := if graphF rows cols es then (if matchF es ps then (worthF es ps, 0) else (0, 180)) else (0, 170)
theorem worthE_bad {rows cols : Int} {es : List PEdge} {ps : List PPair} (h : graphF rows cols es = false) : worthE rows cols es ps = (0, 170) := by simp [worthE, h]
theorem worthE_no {rows cols : Int} {es : List PEdge} {ps : List PPair} (hg : graphF rows cols es = true) (h : matchF es ps = false) : worthE rows cols es ps = (0, 180) := by simp [worthE, hg, h]
theorem worthE_yes {rows cols : Int} {es : List PEdge} {ps : List PPair} (hg : graphF rows cols es = true) (h : matchF es ps = true) : worthE rows cols es ps = (worthF es ps, 0) := by simp [worthE, hg, h]
theorem worthF_next {es : List PEdge} {ps : List PPair} {k : Nat} {x : PPair} (hx : ps[k]? = some x) : worthF es (ps.take (k + 1)) = worthF es (ps.take k) + worthAt es x.r x.c := by
  rw [List.take_succ_eq_append_getElem (List.getElem?_eq_some_iff.1 hx).1, (List.getElem?_eq_some_iff.1 hx).2, worthF_snoc]
/-- Pairs that are good so far are few. -/
theorem prefix_len {rows cols : Int} {es : List PEdge} {ps : List PPair} (hg : graphF rows cols es = true) {k : Nat} (hk : k ≤ ps.length) (h : ∀ j, j < k → pairAt es ps j = true) : k ≤ 64 ∧ -1 ≤ prevR ps k := by
  have key : ∀ j : Nat, j < k → ∃ x, ps[j]? = some x ∧ (j : Int) ≤ x.r ∧ x.r < rows := by
    intro j
    induction j with
    | zero =>
      intro hj
      obtain ⟨x, hx⟩ : ∃ x, ps[0]? = some x := ⟨_, List.getElem?_eq_getElem (by omega)⟩
      have := h 0 hj
      rw [pairAt_eq hx, Bool.and_eq_true, Bool.and_eq_true] at this
      have h1 := of_decide_eq_true this.1.1
      have h2 := of_decide_eq_true this.1.2
      rcases worthAt_in hg x.r x.c with ⟨h0, _⟩ | ⟨_, _, h3, h4, _⟩
      · exact absurd h0 h2
      · exact ⟨x, hx, by omega, h4⟩
    | succ j ih =>
      intro hj
      obtain ⟨y, hy, h5, h6⟩ := ih (by omega)
      obtain ⟨x, hx⟩ : ∃ x, ps[j + 1]? = some x := ⟨_, List.getElem?_eq_getElem (by omega)⟩
      have := h (j + 1) hj
      rw [pairAt_eq hx, Bool.and_eq_true, Bool.and_eq_true, prevR_succ hy] at this
      have h1 := of_decide_eq_true this.1.1
      have h2 := of_decide_eq_true this.1.2
      rcases worthAt_in hg x.r x.c with ⟨h0, _⟩ | ⟨_, _, h3, h4, _⟩
      · exact absurd h0 h2
      · exact ⟨x, hx, by omega, h4⟩
  have hhd := graphF_hdr hg
  cases k with
  | zero => exact ⟨by omega, by simp [prevR]⟩
  | succ k =>
    obtain ⟨x, hx, h1, h2⟩ := key k (by omega)
    exact ⟨by omega, by rw [prevR_succ hx]; omega⟩

theorem keep1' (w : World) (g o : Nat) (v : Value) : Keep (fun k => k = g) w (w.setCell ⟨g, o, none⟩ v) := Keep.setCells w g o [v]
/-- The table, and the columns that are taken. -/
structure WoRel (w : World) (rows cols : Int) (l : List PEdge) (ps : List PPair) (i T H1 : Nat) (wr : World) : Prop where
  tab : ∃ cs : Array Value, wr.heap[T]? = some (.cells cs 135 (0, 0)) ∧ TabIs cs rows cols l
  t : ∃ cs : Array Value, wr.heap[H1]? = some (.cells cs 131 (0, 0)) ∧ cs.size = 64 ∧ ∀ j : Nat, j < 64 → cs[j]? = some (.bool (!freeC ps i j))
  below : Below w.heap.size w wr
section
variable {w : World} {rows cols : Int} {l : List PEdge} {ps : List PPair} {i T H1 : Nat} {wr w' : World}
theorem WoRel.keep (h : WoRel w rows cols l ps i T H1 wr) (hb : Below wr.heap.size wr w') : WoRel w rows cols l ps i T H1 w' := by
  have hk := Keep.of_below hb (Nat.le_refl _) (fun _ => False)
  obtain ⟨cs, h1, h2⟩ := h.tab
  obtain ⟨ct, h3, h4⟩ := h.t
  exact ⟨⟨cs, hk.old h1 id, h2⟩, ⟨ct, hk.old h3 id, h4⟩, Below.next h.below hb⟩
theorem WoRel.one (h : WoRel w rows cols l ps i T H1 wr) (o : Obj) : WoRel w rows cols l ps i T H1 (wr.alloc o) := h.keep ((Below.refl _ _).alloc (Nat.le_refl _) _)
theorem WoRel.head (h : WoRel w rows cols l ps i T H1 wr) : wr.cell? ⟨T, 0, none⟩ = some (.int .i64 rows) ∧ wr.cell? ⟨T, 1, none⟩ = some (.int .i64 cols) := by
  obtain ⟨cs, h1, h2⟩ := h.tab
  exact ⟨by rw [cell_of_row wr T _ _ _ (0, 0) h1]; exact h2.rows, by rw [cell_of_row wr T _ _ _ (0, 0) h1]; exact h2.cols⟩
theorem WoRel.cell (h : WoRel w rows cols l ps i T H1 wr) {r c : Nat} (hr : r < 64) (hc : c < 64) : wr.cell? ⟨T, 2 + r * 64 + c, none⟩ = some (.int .i64 (worthAt l r c)) := by
  obtain ⟨cs, h1, h2⟩ := h.tab
  rw [cell_of_row wr T _ _ _ (0, 0) h1]
  exact h2.at_ r c hr hc
theorem WoRel.taken (h : WoRel w rows cols l ps i T H1 wr) {c : Nat} (hc : c < 64) : wr.cell? ⟨H1, c, none⟩ = some (.bool (!freeC ps i c)) ∧ wr.frozen? ⟨H1, c, none⟩ = false := by
  obtain ⟨cs, h1, h2, h3⟩ := h.t
  exact ⟨by rw [cell_of_row wr H1 c _ _ (0, 0) h1]; exact h3 c hc, frozen_of_row wr H1 c _ _ h1⟩
theorem WoRel.next (h : WoRel w rows cols l ps i T H1 wr) (hw : w.heap.size ≤ H1) (hne : T ≠ H1) {x : PPair} (hx : ps[i]? = some x) {c : Nat} (hc : x.c = (c : Int)) : WoRel w rows cols l ps (i + 1) T H1 (wr.setCell ⟨H1, c, none⟩ (.bool true)) := by
  obtain ⟨cs, h1, h2, h3⟩ := h.t
  obtain ⟨ct, t1, t2⟩ := h.tab
  refine ⟨⟨ct, (Keep.setCell _ H1 c _).old t1 hne, t2⟩, ⟨_, row_set h1 c _, by simpa using h2, fun j hj => ?_⟩, h.below.trans ((Keep.setCell _ H1 c _).below h.below.size (fun k hk he => by omega))⟩
  rw [freeC_succ hx, Array.getElem?_setIfInBounds]
  by_cases hj2 : c = j
  · subst hj2
    simp [h2, hj, hc]
  · rw [if_neg hj2, h3 j hj]
    have : decide (x.c ≠ (j : Int)) = true := decide_eq_true (by omega)
    rw [this, Bool.and_true]
end

set_option maxHeartbeats 8000000 in
theorem worth_any (w : World) (rows cols : Int) (eo po : Option Addr) (n c m c' : Nat) (l : List PEdge) (ps : List PPair) (hl : l.length = n) (hr : RdC w eo (cellsOf PEdge.cells l)) (hn : n ≤ 9007199254740992)
    (hp : ps.length = m) (hpr : RdC w po (cellsOf PPair.cells ps)) (hm : m ≤ 9007199254740992) :
    Calls Tryz.prog 30 #[.agg #[.int .i64 rows, .int .i64 cols, .slice eo n c], .slice po m c'] w fun e w' => e = .returned (.tuple #[.int .i64 (worthE rows cols l ps).1, .int .i64 (worthE rows cols l ps).2]) ∧ Below w.heap.size w w' := by
  have HL := Lib.hid hl
  have HR := Lib.hid hr
  have HP := Lib.hid hp
  have HPR := Lib.hid hpr
  have HB0 := Lib.hid ((Below.refl w.heap.size w).alloc (Nat.le_refl _) (.cells #[.int .i64 rows, .int .i64 cols, .slice eo n c] 28))
  have HG0 := Lib.hid (heap_alloc_new w (.cells #[.int .i64 rows, .int .i64 cols, .slice eo n c] 28))
  clear hl hr hp hpr
  go_enter Tryz.func30, Tryz.ntmps30
  go_wp2_with fail
  generalize w.alloc (.cells #[.int .i64 rows, .int .i64 cols, .slice eo n c] 28) = W at *
  obtain ⟨H, hH⟩ : ∃ H, w.heap.size = H := ⟨_, rfl⟩
  have HH := Lib.hid hH
  rw [hH] at HG0 ⊢
  clear hH
  refine (gcheck_any W rows cols eo n c l HL.out (HR.out.below HB0.out) hn).mono ?_
  rintro e w2 ⟨rfl, hb2⟩
  have HB2 := Lib.hid (Below.next HB0.out hb2)
  have HG2 := Lib.hid ((Keep.of_below hb2 (Nat.le_refl _) (fun _ => False)).old HG0.out id)
  clear hb2
  cases hgf : graphF rows cols l with
  | false =>
    have HF := Lib.hid (worthE_bad (ps := ps) hgf)
    have hE : graphE rows cols l = 170 := by simp [graphE, hgf]
    rw [hE]
    clear hE hgf
    go_wp2_with fail
    exact bodyPost_ret (v := .tuple #[.int .i64 0, .int .i64 170]) (by simp [results, Tryz.results30, go_sem]) rfl ⟨by rw [HF.out], HB2.out⟩
  | true =>
    have HG := Lib.hid hgf
    have hE : graphE rows cols l = 0 := by simp [graphE, hgf]
    rw [hE]
    clear hE hgf
    obtain ⟨g0, g1, g2, _⟩ := cells3 HG2.out
    go_wp2_with fail
    clear g0 g1 g2
    refine (laid_any w2 rows cols eo n c l HG.out HL.out (HR.out.below HB2.out) hn).mono ?_
    rintro e w3 ⟨T, cs, rfl, ht, hti, hb3, hT⟩
    have HB3 := Lib.hid (Below.next HB2.out hb3)
    have HTT := Lib.hid (And.intro ht hti)
    have HTL := Lib.hid (lt_of_block ht)
    clear hb3 ht hti
    go_wp2_with fail
    have hA : ∀ cs : Array Value, cs = #[.bool false, .bool false, .bool false, .bool false, .bool false, .bool false, .bool false, .bool false, .bool false, .bool false, .bool false, .bool false, .bool false, .bool false, .bool false, .bool false, .bool false, .bool false, .bool false, .bool false, .bool false, .bool false, .bool false, .bool false, .bool false, .bool false, .bool false, .bool false, .bool false, .bool false, .bool false, .bool false, .bool false, .bool false, .bool false, .bool false, .bool false, .bool false, .bool false, .bool false, .bool false, .bool false, .bool false, .bool false, .bool false, .bool false, .bool false, .bool false, .bool false, .bool false, .bool false, .bool false, .bool false, .bool false, .bool false, .bool false, .bool false, .bool false, .bool false, .bool false, .bool false, .bool false, .bool false, .bool false] → cs.size = 64 ∧ ∀ j : Nat, j < 64 → cs[j]? = some (.bool (!freeC ps 0 j)) := fun cs h => by
      rw [show cs = Array.replicate 64 (.bool false) from h]
      exact ⟨by simp, fun j hj => by rw [Array.getElem?_replicate, if_pos hj, freeC_zero]; rfl⟩
    generalize hcs : (#[.bool false, .bool false, .bool false, .bool false, .bool false, .bool false, .bool false, .bool false, .bool false, .bool false, .bool false, .bool false, .bool false, .bool false, .bool false, .bool false, .bool false, .bool false, .bool false, .bool false, .bool false, .bool false, .bool false, .bool false, .bool false, .bool false, .bool false, .bool false, .bool false, .bool false, .bool false, .bool false, .bool false, .bool false, .bool false, .bool false, .bool false, .bool false, .bool false, .bool false, .bool false, .bool false, .bool false, .bool false, .bool false, .bool false, .bool false, .bool false, .bool false, .bool false, .bool false, .bool false, .bool false, .bool false, .bool false, .bool false, .bool false, .bool false, .bool false, .bool false, .bool false, .bool false, .bool false, .bool false] : Array Value) = cs0
    have HA := Lib.hid (hA cs0 hcs.symm)
    clear hA hcs
    have HW := Lib.hid (show WoRel w rows cols l ps 0 T w3.heap.size (w3.alloc (.cells cs0 131)) from
      ⟨⟨cs, (Keep.alloc (fun _ => False) _ _).old HTT.out.1 id, HTT.out.2⟩, ⟨cs0, heap_alloc_new w3 _, HA.out⟩, Below.next HB3.out ((Below.refl _ _).alloc (Nat.le_refl _) _)⟩)
    have HH1 := Lib.hid HB3.out.size
    have hne : ¬ T = w3.heap.size := by have := HTL.out; omega
    clear HA HTT
    generalize w3.alloc (.cells cs0 131) = W4 at *
    generalize w3.heap.size = H1 at *
    go_loopw [9, 10, 22] (fun v s i wr => Hid (∃ k : Nat, v = .int .i64 (prevR ps k) ∧ s = .int .i64 (worthF l (ps.take k)) ∧ i = .int .i64 k ∧ k ≤ m ∧ (∀ j, j < k → pairAt l ps j = true) ∧ WoRel w rows cols l ps k T H1 wr)) (fun _ _ i _ => m - (intOf i).toNat)
    case atStart => exact Lib.hid ⟨0, rfl, rfl, rfl, Nat.zero_le _, upto_none, HW.out⟩
    case round =>
      clear HW
      obtain ⟨k, rfl, rfl, rfl, hk, hall, hrel1⟩ := hrel.out
      clear hrel
      have HR1 := Lib.hid hrel1
      have HALL := Lib.hid hall
      clear hrel1 hall
      by_cases hlt : k < m
      · obtain ⟨x, hx⟩ : ∃ x, ps[k]? = some x := ⟨ps[k]'(by rw [HP.out]; exact hlt), List.getElem?_eq_getElem _⟩
        obtain ⟨b, o, rfl, _⟩ := HPR.out.place (by rw [cellsOf_length _ 2 PPair.cells_length, HP.out]; omega)
        obtain ⟨x0, x1⟩ := pair_at (HPR.out.keep (Keep.of_below HR1.out.below (Nat.le_refl _) (fun _ => False)) (fun _ _ _ => id)) hx
        have HX := Lib.hid hx
        clear hx
        have HBAD := Lib.hid (fun h => worthE_no HG.out (matchF_bad (es := l) HX.out h))
        have HEQ := Lib.hid (pairAt_eq (es := l) HX.out)
        have HPREV := Lib.hid (prevR_succ HX.out)
        have HWN := Lib.hid (worthF_next (es := l) HX.out)
        have HPL := Lib.hid (prefix_len HG.out (by rw [HP.out]; omega) HALL.out)
        have HWB := Lib.hid (worthF_bd HG.out (ps.take k))
        have HIN := Lib.hid (worthAt_in HG.out x.r x.c)
        have HHD := Lib.hid (graphF_hdr HG.out)
        have hwb1 : 0 ≤ worthF l (ps.take k) := HWB.out.1
        have hwb2 : worthF l (ps.take k) ≤ 1099513724929 * 64 := by
          have h1 := HWB.out.2
          have h2 : (ps.take k).length ≤ 64 := by rw [List.length_take]; have := HPL.out.1; omega
          omega
        have hpr1 := HPL.out.2
        generalize prevR ps k = pr at *
        generalize worthF l (ps.take k) = sm at *
        go_upto_region 10 with fail
        have HRB := Lib.hid (HR1.out.one (.cells #[.int .i64 x.r, .int .i64 x.c] 69))
        have HE := Lib.hid (heap_alloc_new wr (.cells #[.int .i64 x.r, .int .i64 x.c] 69))
        generalize wr.alloc (.cells #[.int .i64 x.r, .int .i64 x.c] 69) = W2 at *
        have HHL := Lib.hid (show H1 < wr.heap.size from by obtain ⟨ct, h3, h4⟩ := HR1.out.t; exact lt_of_block h3)
        generalize wr.heap.size = H2 at *
        clear x0 x1
        obtain ⟨e0, e1⟩ := cells2 HE.out
        obtain ⟨d0, d1⟩ := HRB.out.head
        by_cases h1 : x.r ≤ pr
        · have c1 : decide (x.r ≤ pr) = true := decide_eq_true h1
          have HF := Lib.hid (HBAD.out (by rw [HEQ.out, decide_eq_false (show ¬ pr < x.r by omega)]; rfl))
          go_quiet (fail)
          go_wp2_with fail
          exact bodyPost_ret (v := .tuple #[.int .i64 0, .int .i64 180]) (by simp [results, Tryz.results30, go_sem]) rfl ⟨by rw [HF.out], below_drewN HRB.out.below _⟩
        have h1' : pr < x.r := by omega
        have HE1 := Lib.hid (show pairAt l ps k = (decide (worthAt l x.r x.c ≠ 0) && freeC ps k x.c) by rw [HEQ.out, decide_eq_true h1', Bool.true_and])
        have c1 : decide (x.r ≤ pr) = false := decide_eq_false h1
        have HZ := Lib.hid (fun (h : worthAt l x.r x.c = 0) => show pairAt l ps k = false by rw [HE1.out, h]; rfl)
        by_cases h2 : rows ≤ x.r
        · have c2 : decide (rows ≤ x.r) = true := decide_eq_true h2
          have HF := Lib.hid (HBAD.out (by refine HZ.out ?_; rcases HIN.out with ⟨h, _⟩ | ⟨_, _, _, h, _⟩; exact h; omega))
          go_quiet (fail)
          go_wp2_with fail
          exact bodyPost_ret (v := .tuple #[.int .i64 0, .int .i64 180]) (by simp [results, Tryz.results30, go_sem]) rfl ⟨by rw [HF.out], below_drewN HRB.out.below _⟩
        have c2 : decide (rows ≤ x.r) = false := decide_eq_false h2
        by_cases h3 : x.c < 0
        · have c3 : decide (x.c < 0) = true := decide_eq_true h3
          have HF := Lib.hid (HBAD.out (by refine HZ.out ?_; rcases HIN.out with ⟨h, _⟩ | ⟨_, _, _, _, h, _⟩; exact h; omega))
          go_quiet (fail)
          go_wp2_with fail
          exact bodyPost_ret (v := .tuple #[.int .i64 0, .int .i64 180]) (by simp [results, Tryz.results30, go_sem]) rfl ⟨by rw [HF.out], below_drewN HRB.out.below _⟩
        have c3 : decide (x.c < 0) = false := decide_eq_false h3
        by_cases h4 : cols ≤ x.c
        · have c4 : decide (cols ≤ x.c) = true := decide_eq_true h4
          have HF := Lib.hid (HBAD.out (by refine HZ.out ?_; rcases HIN.out with ⟨h, _⟩ | ⟨_, _, _, _, _, h, _⟩; exact h; omega))
          go_quiet (fail)
          go_wp2_with fail
          exact bodyPost_ret (v := .tuple #[.int .i64 0, .int .i64 180]) (by simp [results, Tryz.results30, go_sem]) rfl ⟨by rw [HF.out], below_drewN HRB.out.below _⟩
        have c4 : decide (cols ≤ x.c) = false := decide_eq_false h4
        have hhd := HHD.out
        obtain ⟨xr, xc⟩ := x
        obtain ⟨r, rfl⟩ : ∃ r : Nat, xr = r := ⟨xr.toNat, by simp only at h1'; omega⟩
        obtain ⟨q, rfl⟩ : ∃ q : Nat, xc = q := ⟨xc.toNat, by simp only at h3; omega⟩
        simp only at *
        have hr1 : r < 64 := by omega
        have hq1 : q < 64 := by omega
        have qr0 : (0 : Int) ≤ (r : Int) := by omega
        have qr1 : (r : Int) < 64 := by omega
        have qq0 : (0 : Int) ≤ (q : Int) := by omega
        have qq1 : (q : Int) < 64 := by omega
        clear h1 h2 h3 h4 hhd
        obtain ⟨t0, t1⟩ := HRB.out.taken hq1
        have t2 := HRB.out.cell hr1 hq1
        have HWA := Lib.hid (worthAt_bd HG.out r q)
        cases hfr : freeC ps k q with
        | false =>
          rw [hfr] at t0
          have HF := Lib.hid (HBAD.out (by rw [HE1.out, hfr, Bool.and_false]))
          go_quiet (fail)
          go_wp2_with fail
          exact bodyPost_ret (v := .tuple #[.int .i64 0, .int .i64 180]) (by simp [results, Tryz.results30, go_sem]) rfl ⟨by rw [HF.out], below_drewN HRB.out.below _⟩
        | true =>
          have HFR := Lib.hid hfr
          rw [hfr] at t0
          clear hfr
          have hwa1 : 0 ≤ worthAt l r q := HWA.out.1
          have hwa2 : worthAt l r q ≤ 1099513724929 := HWA.out.2
          by_cases h5 : worthAt l r q = 0
          · have HF := Lib.hid (HBAD.out (HZ.out h5))
            have c5 : (worthAt l r q == 0) = true := by simp [h5]
            generalize worthAt l r q = wt at *
            clear h5
            go_quiet (fail)
            go_wp2_with fail
            exact bodyPost_ret (v := .tuple #[.int .i64 0, .int .i64 180]) (by simp [results, Tryz.results30, go_sem]) rfl ⟨by rw [HF.out], below_drewN HRB.out.below _⟩
          · have HA := Lib.hid (upto_next HALL.out (by rw [HE1.out, decide_eq_true h5, HFR.out]; rfl))
            have c5 : (worthAt l r q == 0) = false := by simp [h5]
            have HNXT := Lib.hid (fun (w' : World) (hw : WoRel w rows cols l ps k T H1 w') => hw.next HH1.out hne HX.out rfl)
            generalize hwt : worthAt l r q = wt at *
            have HWT := Lib.hid hwt
            clear h5 hwt HBAD HZ HIN HEQ HE1
            go_quiet (fail)
            go_wp2_with fail
            have HRD := Lib.hid (HRB.out.keep (below_drewN (Below.refl W2.heap.size W2) nq))
            have HND := Lib.hid ((Keep.of_below (below_drewN (Below.refl W2.heap.size W2) nq) (Nat.le_refl _) (fun _ => False)).old HE.out id)
            have HLH := Lib.hid (show H1 < H2 from HHL.out)
            clear e0 e1 d0 d1 t0 t1 t2
            generalize W2.drewN nq = W3 at *
            obtain ⟨e0, e1⟩ := cells2 HND.out
            obtain ⟨t0, t1⟩ := HRD.out.taken hq1
            have HN4 := Lib.hid ((HNXT.out W3 HRD.out).keep (Below.refl _ _).drew)
            have HE4 := Lib.hid ((keep1' W3 H1 q (.bool true)).old HND.out (by have := HLH.out; omega))
            go_still_tail 6, (by kernel_rfl)
            change wpList _ _ _ _ _ W3.drew
            go_upto_region 13 with fail
            clear e0 e1 t0 t1
            have HE5 := Lib.hid (show (W3.setCell ⟨H1, q, none⟩ (.bool true)).drew.heap[H2]? = some (.cells #[.int .i64 r, .int .i64 q] 69 (0, 0)) from HE4.out)
            generalize (W3.setCell ⟨H1, q, none⟩ (.bool true)).drew = W5 at *
            obtain ⟨e0, e1⟩ := cells2 HE5.out
            have t2 := HN4.out.cell hr1 hq1
            rw [HWT.out] at t2
            go_quiet (fail)
            go_wp2_with fail
            have HN6 := Lib.hid (HN4.out.keep (below_drewN (Below.refl W5.heap.size W5) nq))
            go_roundw
            case rel => exact Lib.hid ⟨k + 1, by rw [HPREV.out], by rw [HWN.out], by go_num, by omega, HA.out, HN6.out⟩
            case measure => simp [intOf]; omega
      · obtain rfl : m = k := by omega
        have HTK := Lib.hid (show ps.take m = ps from List.take_of_length_le (by rw [HP.out]; exact Nat.le_refl _))
        have HF := Lib.hid (worthE_yes HG.out (allF_good (n := ps.length) (p := pairAt l ps) (fun j hj => HALL.out j (by rw [HP.out] at hj; exact hj))))
        go_wp2_with fail
        exact bodyPost_ret (v := .tuple #[.int .i64 (worthF l (ps.take m)), .int .i64 0]) (by simp [results, Tryz.results30, go_sem]) rfl ⟨by rw [HF.out, HTK.out], HR1.out.below⟩
end Go.Proofs.YtcaicgipibcicaaGreat
