/- Chapter 18 in the program: may pairs be, lengths, graphs. -/
import Derived.Test.YtcaicgipibcicaaGreatQClaim
import Derived.WalkMore
import Derived.Test.YtcaicgipibcicaaGreatQRFit3
namespace Go.Proofs.YtcaicgipibcicaaGreat
set_option maxRecDepth 100000
set_option linter.unusedVariables false
set_option linter.unusedSimpArgs false
open Go.RowKit Go.Sort

def matchE (l : List PEdge) (ps : List PPair) : Int := if matchF l ps then 0 else 180
theorem matchE_no {l : List PEdge} {ps : List PPair} (h : matchF l ps = false) : matchE l ps = 180 := by simp [matchE, h]
theorem matchE_yes {l : List PEdge} {ps : List PPair} (h : matchF l ps = true) : matchE l ps = 0 := by simp [matchE, h]
/-- A claim, and the table of the columns that are taken. -/
structure PaRel (w : World) (rows cols : Int) (ev pv yv zv : Value) (ps : List PPair) (i : Nat) (H0 H1 : Nat) (wr : World) : Prop where
  g : wr.heap[H0]? = some (.cells #[.int .i64 rows, .int .i64 cols, ev, pv, yv, zv] 164 (0, 0))
  t : ∃ cs : Array Value, wr.heap[H1]? = some (.cells cs 131 (0, 0)) ∧ cs.size = 64 ∧ ∀ j : Nat, j < 64 → cs[j]? = some (.bool (!freeC ps i j))
  below : Below w.heap.size w wr
theorem PaRel.keep {w : World} {rows cols : Int} {ev pv yv zv : Value} {ps : List PPair} {i : Nat} {H0 H1 : Nat} {wr w' : World} (h : PaRel w rows cols ev pv yv zv ps i H0 H1 wr) (hb : Below wr.heap.size wr w') : PaRel w rows cols ev pv yv zv ps i H0 H1 w' := by
  have hk := Keep.of_below hb (Nat.le_refl _) (fun _ => False)
  obtain ⟨cs, h1, h2, h3⟩ := h.t
  exact ⟨hk.old h.g id, ⟨cs, hk.old h1 id, h2, h3⟩, Below.next h.below hb⟩
theorem PaRel.one {w : World} {rows cols : Int} {ev pv yv zv : Value} {ps : List PPair} {i : Nat} {H0 H1 : Nat} {wr : World} (h : PaRel w rows cols ev pv yv zv ps i H0 H1 wr) (o : Obj) : PaRel w rows cols ev pv yv zv ps i H0 H1 (wr.alloc o) :=
  h.keep ((Below.refl _ _).alloc (Nat.le_refl _) _)
theorem PaRel.taken {w : World} {rows cols : Int} {ev pv yv zv : Value} {ps : List PPair} {i : Nat} {H0 H1 : Nat} {wr : World} (h : PaRel w rows cols ev pv yv zv ps i H0 H1 wr) {c : Nat} (hc : c < 64) : wr.cell? ⟨H1, c, none⟩ = some (.bool (!freeC ps i c)) ∧ wr.frozen? ⟨H1, c, none⟩ = false ∧ H1 < wr.heap.size := by
  obtain ⟨cs, h1, h2, h3⟩ := h.t
  exact ⟨by rw [cell_of_row wr H1 c _ _ (0, 0) h1]; exact h3 c hc, frozen_of_row wr H1 c _ _ h1, lt_of_block h1⟩
theorem PaRel.next {w : World} {rows cols : Int} {ev pv yv zv : Value} {ps : List PPair} {i : Nat} {H0 H1 : Nat} {wr : World} (h : PaRel w rows cols ev pv yv zv ps i H0 H1 wr) (hw : w.heap.size ≤ H1) (hne : H0 ≠ H1) {x : PPair} (hx : ps[i]? = some x) {c : Nat} (hc : x.c = (c : Int)) : PaRel w rows cols ev pv yv zv ps (i + 1) H0 H1 (wr.setCell ⟨H1, c, none⟩ (.bool true)) := by
  obtain ⟨cs, h1, h2, h3⟩ := h.t
  refine ⟨(Keep.setCell _ H1 c _).old h.g hne, ⟨_, row_set h1 c _, by simpa using h2, fun j hj => ?_⟩, h.below.trans ((Keep.setCell _ H1 c _).below h.below.size (fun k hk he => by omega))⟩
  rw [freeC_succ hx, Array.getElem?_setIfInBounds]
  by_cases hj2 : c = j
  · subst hj2
    simp [h2, hj, hc]
  · rw [if_neg hj2, h3 j hj]
    have : decide (x.c ≠ (j : Int)) = true := decide_eq_true (by omega)
    rw [this, Bool.and_true]

set_option maxHeartbeats 8000000 in
theorem cpairs_any (w : World) (rows cols : Int) (eo po : Option Addr) (n c m c' : Nat) (yv zv : Value) (l : List PEdge) (ps : List PPair) (hg : graphF rows cols l = true) (hl : l.length = n) (hr : RdC w eo (cellsOf PEdge.cells l)) (hn : n ≤ 9007199254740992)
    (hp : ps.length = m) (hpr : RdC w po (cellsOf PPair.cells ps)) (hm : m ≤ 9007199254740992) :
    Calls Tryz.prog 89 #[.agg #[.int .i64 rows, .int .i64 cols, .slice eo n c, .slice po m c', yv, zv]] w fun e w' => e = .returned (.int .i64 (matchE l ps)) ∧ Below w.heap.size w w' := by
  have HL := Lib.hid hl
  have HR := Lib.hid hr
  have HG := Lib.hid hg
  have HP := Lib.hid hp
  have HPR := Lib.hid hpr
  clear hl hr hg hp hpr
  go_enter Tryz.func89, Tryz.ntmps89
  go_wp2_with fail
  have hA : ∀ cs : Array Value, cs = #[.bool false, .bool false, .bool false, .bool false, .bool false, .bool false, .bool false, .bool false, .bool false, .bool false, .bool false, .bool false, .bool false, .bool false, .bool false, .bool false, .bool false, .bool false, .bool false, .bool false, .bool false, .bool false, .bool false, .bool false, .bool false, .bool false, .bool false, .bool false, .bool false, .bool false, .bool false, .bool false, .bool false, .bool false, .bool false, .bool false, .bool false, .bool false, .bool false, .bool false, .bool false, .bool false, .bool false, .bool false, .bool false, .bool false, .bool false, .bool false, .bool false, .bool false, .bool false, .bool false, .bool false, .bool false, .bool false, .bool false, .bool false, .bool false, .bool false, .bool false, .bool false, .bool false, .bool false, .bool false] → cs.size = 64 ∧ ∀ j : Nat, j < 64 → cs[j]? = some (.bool (!freeC ps 0 j)) := fun cs h => by
    rw [show cs = Array.replicate 64 (.bool false) from h]
    exact ⟨by simp, fun j hj => by rw [Array.getElem?_replicate, if_pos hj, freeC_zero]; rfl⟩
  generalize hcs : (#[.bool false, .bool false, .bool false, .bool false, .bool false, .bool false, .bool false, .bool false, .bool false, .bool false, .bool false, .bool false, .bool false, .bool false, .bool false, .bool false, .bool false, .bool false, .bool false, .bool false, .bool false, .bool false, .bool false, .bool false, .bool false, .bool false, .bool false, .bool false, .bool false, .bool false, .bool false, .bool false, .bool false, .bool false, .bool false, .bool false, .bool false, .bool false, .bool false, .bool false, .bool false, .bool false, .bool false, .bool false, .bool false, .bool false, .bool false, .bool false, .bool false, .bool false, .bool false, .bool false, .bool false, .bool false, .bool false, .bool false, .bool false, .bool false, .bool false, .bool false, .bool false, .bool false, .bool false, .bool false] : Array Value) = cs0
  have HA := Lib.hid (hA cs0 hcs.symm)
  clear hA hcs
  have HW := Lib.hid (show PaRel w rows cols (.slice eo n c) (.slice po m c') yv zv ps 0 w.heap.size (w.heap.size + 1) ((w.alloc (.cells #[.int .i64 rows, .int .i64 cols, .slice eo n c, .slice po m c', yv, zv] 164)).alloc (.cells cs0 131)) from by
    refine ⟨(Keep.alloc (fun _ => False) _ _).old (heap_alloc_new w _) id, ⟨cs0, ?_, HA.out⟩, ((Below.refl w.heap.size w).alloc (Nat.le_refl _) _).alloc (by simp) _⟩
    have := heap_alloc_new (w.alloc (.cells #[.int .i64 rows, .int .i64 cols, .slice eo n c, .slice po m c', yv, zv] 164)) (.cells cs0 131)
    rw [show (w.alloc (.cells #[.int .i64 rows, .int .i64 cols, .slice eo n c, .slice po m c', yv, zv] 164)).heap.size = w.heap.size + 1 by simp] at this
    exact this)
  clear HA
  generalize (w.alloc (.cells #[.int .i64 rows, .int .i64 cols, .slice eo n c, .slice po m c', yv, zv] 164)).alloc (.cells cs0 131) = W at *
  have HHE := Lib.hid (show ∃ H0 H1, w.heap.size = H0 ∧ w.heap.size + 1 = H1 from ⟨_, _, rfl, rfl⟩)
  obtain ⟨H0, H1, hH0, hH1⟩ := HHE.out
  have HH1 := Lib.hid (show w.heap.size ≤ H1 by omega)
  have hne : ¬ H0 = H1 := by omega
  rw [hH1, hH0] at HW
  rw [hH1, hH0]
  have HH := Lib.hid hH0
  clear hH0 hH1 HHE
  go_loopw [4, 11] (fun v i wr => Hid (∃ k : Nat, v = .int .i64 (prevR ps k) ∧ i = .int .i64 k ∧ k ≤ m ∧ (∀ j, j < k → pairAt l ps j = true) ∧ PaRel w rows cols (.slice eo n c) (.slice po m c') yv zv ps k H0 H1 wr)) (fun _ i _ => m - (intOf i).toNat)
  case atStart => exact Lib.hid ⟨0, rfl, rfl, Nat.zero_le _, upto_none, HW.out⟩
  case round =>
    obtain ⟨k, rfl, rfl, hk, hall, hrel1⟩ := hrel.out
    clear hrel
    obtain ⟨g0, g1, g2, g3, g4, g5⟩ := cells6 hrel1.g
    have hs0 : H0 < wr.heap.size := lt_of_block hrel1.g
    have hs1 : H1 < wr.heap.size := by obtain ⟨cs, h1, _⟩ := hrel1.t; exact lt_of_block h1
    have HR1 := Lib.hid hrel1
    have HALL := Lib.hid hall
    clear hrel1 hall
    by_cases hlt : k < m
    · obtain ⟨x, hx⟩ : ∃ x, ps[k]? = some x := ⟨ps[k]'(by rw [HP.out]; exact hlt), List.getElem?_eq_getElem _⟩
      obtain ⟨b, o, rfl, _⟩ := HPR.out.place (by rw [cellsOf_length _ 2 PPair.cells_length, HP.out]; omega)
      obtain ⟨x0, x1⟩ := pair_at (HPR.out.keep (Keep.of_below HR1.out.below (Nat.le_refl _) (fun _ => False)) (fun _ _ _ => id)) hx
      have HX := Lib.hid hx
      clear hx
      have HBAD := Lib.hid (fun h => matchE_no (matchF_bad (es := l) HX.out h))
      have HEQ := Lib.hid (pairAt_eq (es := l) HX.out)
      have HPREV := Lib.hid (prevR_succ HX.out)
      have HWT := Lib.hid (fun wx hb => weight_any wx rows cols eo n c (.slice (some ⟨b, o, none⟩) m c') yv zv x.r x.c l HG.out HL.out (HR.out.below (Below.next HR1.out.below hb)) hn)
      generalize prevR ps k = pr at *
      by_cases h1 : x.r ≤ pr
      · have HF := Lib.hid (HBAD.out (by rw [HEQ.out, decide_eq_false (show ¬ pr < x.r by omega)]; rfl))
        go_wp2_with fail
        go_ret
        exact ⟨by rw [HF.out]; rfl, (HR1.out.one _).below⟩
      have h1' : pr < x.r := by omega
      have HE1 := Lib.hid (show pairAt l ps k = (decide (worthAt l x.r x.c ≠ 0) && freeC ps k x.c) by rw [HEQ.out, decide_eq_true h1', Bool.true_and])
      have h1d : decide (x.r ≤ pr) = false := decide_eq_false h1
      clear h1 HEQ
      go_wp2_with fail
      have hW2 : ∀ W2, W2 = wr.alloc (.cells #[.int .i64 x.r, .int .i64 x.c] 69) → W2.cell? ⟨wr.heap.size, 0, none⟩ = some (.int .i64 x.r) ∧ W2.cell? ⟨wr.heap.size, 1, none⟩ = some (.int .i64 x.c) ∧ Below wr.heap.size wr W2 := fun W2 h => by
        subst h
        exact ⟨by go_simp, by go_simp, (Below.refl _ _).alloc (Nat.le_refl _) _⟩
      generalize wr.alloc (.cells #[.int .i64 x.r, .int .i64 x.c] 69) = W2 at *
      obtain ⟨q0, q1, hbw⟩ := hW2 W2 rfl
      clear hW2
      have HBW := Lib.hid hbw
      have HRB := Lib.hid (HR1.out.keep hbw)
      clear hbw
      have hs2 : wr.heap.size < W2.heap.size := World.block_lt_of_cell? W2 _ q0
      refine (HWT.out W2 HBW.out).mono ?_
      rintro e w2 ⟨rfl, hb2⟩
      have hk2 := Keep.of_below hb2 (Nat.le_refl _) (fun _ => False)
      have r0 := hk2.cell q0 id
      have r1 := hk2.cell q1 id
      have HR2 := Lib.hid (HRB.out.keep hb2)
      have HIN := Lib.hid (worthAt_in HG.out x.r x.c)
      have hbx : 0 ≤ (0 : Int) := by omega
      clear hb2 hk2 q0 q1 hs2 hs0 g0 g1 g2 g3 g4 g5 x0 x1
      generalize wr.heap.size = H2 at *
      by_cases h2 : worthAt l x.r x.c = 0
      · have HF := Lib.hid (HBAD.out (by rw [HE1.out, h2]; rfl))
        generalize worthAt l x.r x.c = wt at *
        have h2d : (wt == 0) = true := by simp [h2]
        clear h2
        go_wp2_with fail
        go_ret
        exact ⟨by rw [HF.out]; rfl, HR2.out.below⟩
      · have HE2 := Lib.hid (show pairAt l ps k = freeC ps k x.c by rw [HE1.out, decide_eq_true h2, Bool.true_and])
        have hin : 0 ≤ x.c ∧ x.c < 64 := by
          rcases HIN.out with ⟨h0, _⟩ | ⟨_, _, _, _, h3, h4, _⟩
          · exact absurd h0 h2
          · have := graphF_hdr HG.out; omega
        obtain ⟨hc1, hc2⟩ := hin
        obtain ⟨t0, t1, t2⟩ := HR2.out.taken (show x.c.toNat < 64 by omega)
        have HCC := Lib.hid (show ((x.c.toNat : Nat) : Int) = x.c by omega)
        rw [HCC.out] at t0
        generalize worthAt l x.r x.c = wt at *
        have h2d : (wt == 0) = false := by simp [h2]
        clear h2
        cases hfr : freeC ps k x.c with
        | false =>
          have HF := Lib.hid (HBAD.out (by rw [HE2.out, hfr]))
          rw [hfr] at t0
          clear hfr
          go_wp2_with fail
          go_ret
          exact ⟨by rw [HF.out]; rfl, HR2.out.below⟩
        | true =>
          have HA := Lib.hid (upto_next HALL.out (by rw [HE2.out, hfr]))
          rw [hfr] at t0
          clear hfr
          have HNX := Lib.hid (HR2.out.next HH1.out hne HX.out (HCC.out.symm))
          go_wp2_with fail
          go_roundw
          case rel => exact Lib.hid ⟨k + 1, by rw [HPREV.out], by go_num, by omega, HA.out, HNX.out⟩
          case measure => simp [intOf]; omega
    · obtain rfl : m = k := by omega
      have HF := Lib.hid (matchE_yes (l := l) (ps := ps) (allF_good (fun j hj => HALL.out j (by rw [HP.out] at hj; exact hj))))
      go_wp2_with fail
      go_ret
      exact ⟨by rw [HF.out]; rfl, HR1.out.below⟩
end Go.Proofs.YtcaicgipibcicaaGreat

/- Chapter 18 in the program: the first error of some looks. -/
namespace Go.Proofs.YtcaicgipibcicaaGreat
set_option maxRecDepth 100000
set_option linter.unusedVariables false
set_option linter.unusedSimpArgs false
open Go.RowKit Go.Sort

/-- The first one that is not 0. -/
def firstE : List Int → Int
  | [] => 0
  | e :: l => if e ≠ 0 then e else firstE l
theorem firstE_zero {l : List Int} (h : ∀ e ∈ l, e = 0) : firstE l = 0 := by
  induction l with
  | nil => rfl
  | cons e l ih => rw [firstE, h e (by simp), if_neg (by simp)]; exact ih (fun x hx => h x (by simp [hx]))
theorem firstE_at : ∀ {l : List Int} {k : Nat} {e : Int}, l[k]? = some e → e ≠ 0 → (∀ j, j < k → l[j]? = some 0) → firstE l = e
  | [], k, e, h, _, _ => by simp at h
  | a :: l, 0, e, h, hne, _ => by
    simp only [List.getElem?_cons_zero, Option.some.injEq] at h
    subst h
    rw [firstE, if_pos hne]
  | a :: l, k + 1, e, h, hne, hz => by
    simp only [List.getElem?_cons_succ] at h
    have h0 := hz 0 (by omega)
    simp only [List.getElem?_cons_zero, Option.some.injEq] at h0
    subst h0
    rw [firstE, if_neg (by simp)]
    exact firstE_at h hne (fun j hj => by have := hz (j + 1) (by omega); simpa using this)

set_option maxHeartbeats 4000000 in
theorem first_any (w : World) (b n c : Nat) (cl : Value) (gs : List Nat) (es : List Int) (hgn : gs.length = n) (hen : es.length = n) (hn : n ≤ 9007199254740992)
    (hcell : ∀ (k : Nat) (g : Nat), gs[k]? = some g → w.cell? ⟨b, k, none⟩ = some (.func (.func g) #[cl] #[]))
    (hent : ∀ g ∈ gs, ∀ args w, (callFunc g args).run Tryz.prog w = .ok (.enter g args) w)
    (hfn : ∀ (k : Nat) (g : Nat) (e : Int), gs[k]? = some g → es[k]? = some e → (∀ j : Nat, j < k → es[j]? = some 0) → ∀ wx, Below w.heap.size w wx → Calls Tryz.prog g #[cl] wx fun r w' => r = .returned (.int .i64 e) ∧ Below wx.heap.size wx w') :
    Calls Tryz.prog 87 #[.slice (some ⟨b, 0, none⟩) n c] w fun e w' => e = .returned (.int .i64 (firstE es)) ∧ Below w.heap.size w w' := by
  have HGN := Lib.hid hgn
  have HEN := Lib.hid hen
  have HC := Lib.hid hcell
  have HF := Lib.hid hfn
  have HT := Lib.hid hent
  clear hgn hen hcell hfn hent
  go_enter Tryz.func87, Tryz.ntmps87
  go_wp2_with fail
  go_loopw [8] (fun i wr => Hid (∃ k : Nat, i = .int .i64 k ∧ k ≤ n ∧ (∀ j : Nat, j < k → es[j]? = some 0) ∧ Below w.heap.size w wr)) (fun i _ => n - (intOf i).toNat)
  case atStart => exact Lib.hid ⟨0, rfl, Nat.zero_le _, fun j hj => absurd hj (Nat.not_lt_zero j), Below.refl _ _⟩
  case round =>
    obtain ⟨k, rfl, hk, hall, hbel⟩ := hrel.out
    clear hrel
    have HALL := Lib.hid hall
    have HB := Lib.hid hbel
    clear hall hbel
    by_cases hlt : k < n
    · obtain ⟨g, hg⟩ : ∃ g, gs[k]? = some g := ⟨gs[k]'(by rw [HGN.out]; exact hlt), List.getElem?_eq_getElem _⟩
      obtain ⟨e, he⟩ : ∃ e, es[k]? = some e := ⟨es[k]'(by rw [HEN.out]; exact hlt), List.getElem?_eq_getElem _⟩
      have hc := (Keep.of_below HB.out (Nat.le_refl _) (fun _ => False)).cell (HC.out k g hg) id
      have HCALL := Lib.hid (HF.out k g e hg he HALL.out wr HB.out)
      have HE := Lib.hid he
      have hrun := HT.out g (List.mem_of_getElem? hg)
      clear hg he
      go_wp2_with fail
      refine HCALL.out.mono ?_
      rintro r w2 ⟨rfl, hb2⟩
      have HB2 := Lib.hid (Below.next HB.out hb2)
      clear hb2 hc hrun
      by_cases h0 : e = 0
      · have HZ := Lib.hid (show ∀ j : Nat, j < k + 1 → es[j]? = some 0 from fun j hj => by
          rcases Nat.lt_succ_iff_lt_or_eq.1 hj with hj | rfl
          · exact HALL.out j hj
          · rw [HE.out, h0])
        have h1 : (e == 0) = true := by simp [h0]
        have h2 : (e != 0) = false := by simp [h0]
        clear h0
        go_wp2_with fail
        go_roundw
        case rel => exact Lib.hid ⟨k + 1, by go_num, by omega, HZ.out, HB2.out⟩
        case measure => simp [intOf]; omega
      · have HZ := Lib.hid (firstE_at HE.out h0 HALL.out)
        have h1 : (e == 0) = false := by simp [h0]
        have h2 : (e != 0) = true := by simp [h0]
        clear h0
        go_wp2_with fail
        go_ret
        exact ⟨by rw [HZ.out]; rfl, HB2.out⟩
    · obtain rfl : n = k := by omega
      have HZ := Lib.hid (firstE_zero (l := es) (fun e he => by
        obtain ⟨j, hj, rfl⟩ := List.getElem_of_mem he
        have h1 := HALL.out j (by rw [HEN.out] at hj; exact hj)
        rw [List.getElem?_eq_getElem hj] at h1
        exact Option.some.inj h1))
      go_wp2_with fail
      go_ret
      exact ⟨by rw [HZ.out]; rfl, HB.out⟩
theorem enter_graph (args : Array Value) (w : World) : (callFunc 88 args).run Tryz.prog w = .ok (.enter 88 args) w := by kernel_rfl
theorem enter_pairs (args : Array Value) (w : World) : (callFunc 89 args).run Tryz.prog w = .ok (.enter 89 args) w := by kernel_rfl
theorem enter_lengths (args : Array Value) (w : World) : (callFunc 90 args).run Tryz.prog w = .ok (.enter 90 args) w := by kernel_rfl
theorem enter_dual (args : Array Value) (w : World) : (callFunc 91 args).run Tryz.prog w = .ok (.enter 91 args) w := by kernel_rfl
theorem enter_gap (args : Array Value) (w : World) : (callFunc 92 args).run Tryz.prog w = .ok (.enter 92 args) w := by kernel_rfl
end Go.Proofs.YtcaicgipibcicaaGreat

/- Chapter 18 in the program: graphs, lengths, prices. -/
namespace Go.Proofs.YtcaicgipibcicaaGreat
set_option maxRecDepth 100000
set_option linter.unusedVariables false
set_option linter.unusedSimpArgs false
open Go.RowKit Go.Sort

/-- A claim in memory. -/
structure KlRel (w : World) (rows cols : Int) (ev pv yv zv : Value) (H0 : Nat) (wr : World) : Prop where
  g : wr.heap[H0]? = some (.cells #[.int .i64 rows, .int .i64 cols, ev, pv, yv, zv] 164 (0, 0))
  below : Below w.heap.size w wr
theorem KlRel.keep {w : World} {rows cols : Int} {ev pv yv zv : Value} {H0 : Nat} {wr w' : World} (h : KlRel w rows cols ev pv yv zv H0 wr) (hb : Below wr.heap.size wr w') : KlRel w rows cols ev pv yv zv H0 w' :=
  ⟨(Keep.of_below hb (Nat.le_refl _) (fun _ => False)).old h.g id, Below.next h.below hb⟩
theorem KlRel.one {w : World} {rows cols : Int} {ev pv yv zv : Value} {H0 : Nat} {wr : World} (h : KlRel w rows cols ev pv yv zv H0 wr) (o : Obj) : KlRel w rows cols ev pv yv zv H0 (wr.alloc o) :=
  h.keep ((Below.refl _ _).alloc (Nat.le_refl _) _)
theorem KlRel.drewN {w : World} {rows cols : Int} {ev pv yv zv : Value} {H0 : Nat} {wr : World} (h : KlRel w rows cols ev pv yv zv H0 wr) (n : Nat) : KlRel w rows cols ev pv yv zv H0 (wr.drewN n) := ⟨h.g, below_drewN h.below n⟩
theorem KlRel.begin (w : World) (rows cols : Int) (ev pv yv zv : Value) : KlRel w rows cols ev pv yv zv w.heap.size (w.alloc (.cells #[.int .i64 rows, .int .i64 cols, ev, pv, yv, zv] 164)) :=
  ⟨heap_alloc_new w _, (Below.refl w.heap.size w).alloc (Nat.le_refl _) _⟩

set_option maxHeartbeats 4000000 in
theorem cgraph_any (w : World) (rows cols : Int) (eo : Option Addr) (n c : Nat) (pv yv zv : Value) (l : List PEdge) (hl : l.length = n) (hr : RdC w eo (cellsOf PEdge.cells l)) (hn : n ≤ 9007199254740992) :
    Calls Tryz.prog 88 #[.agg #[.int .i64 rows, .int .i64 cols, .slice eo n c, pv, yv, zv]] w fun e w' => e = .returned (.int .i64 (graphE rows cols l)) ∧ Below w.heap.size w w' := by
  have HW := Lib.hid (KlRel.begin w rows cols (.slice eo n c) pv yv zv)
  have HC := Lib.hid (fun wx hb => gcheck_any wx rows cols eo n c l hl (hr.below hb) hn)
  clear hl hr
  go_enter Tryz.func88, Tryz.ntmps88
  go_wp2_with fail
  refine (HC.out _ HW.out.below).mono ?_
  rintro e w1 ⟨rfl, hb1⟩
  have HB := Lib.hid (Below.next HW.out.below hb1)
  clear hb1
  go_wp2_with fail
  go_ret
  exact ⟨rfl, HB.out⟩

def lengthsE (rows cols : Int) (n m : Nat) : Int := if (n : Int) = rows ∧ (m : Int) = cols then 0 else 1
set_option maxHeartbeats 4000000 in
theorem clengths_any (w : World) (rows cols : Int) (yo zo : Option Addr) (n m c c' : Nat) (ev pv : Value) :
    Calls Tryz.prog 90 #[.agg #[.int .i64 rows, .int .i64 cols, ev, pv, .slice yo n c, .slice zo m c']] w fun e w' => e = .returned (.int .i64 (lengthsE rows cols n m)) ∧ Below w.heap.size w w' := by
  have HW := Lib.hid (KlRel.begin w rows cols ev pv (.slice yo n c) (.slice zo m c'))
  by_cases h1 : (n : Int) = rows
  · by_cases h2 : (m : Int) = cols
    · have HE := Lib.hid (show lengthsE rows cols n m = 0 from if_pos ⟨h1, h2⟩)
      have b1 : ((n : Int) != rows) = false := by simp [h1]
      have b2 : ((m : Int) != cols) = false := by simp [h2]
      clear h1 h2
      go_enter Tryz.func90, Tryz.ntmps90
      go_wp2_with fail
      go_ret
      exact ⟨by rw [HE.out]; rfl, HW.out.below⟩
    · have HE := Lib.hid (show lengthsE rows cols n m = 1 from if_neg (fun h => h2 h.2))
      have b1 : ((n : Int) != rows) = false := by simp [h1]
      have b2 : ((m : Int) != cols) = true := by simp [h2]
      clear h1 h2
      go_enter Tryz.func90, Tryz.ntmps90
      go_wp2_with fail
      go_ret
      exact ⟨by rw [HE.out]; rfl, HW.out.below⟩
  · have HE := Lib.hid (show lengthsE rows cols n m = 1 from if_neg (fun h => h1 h.1))
    have b1 : ((n : Int) != rows) = true := by simp [h1]
    clear h1
    go_enter Tryz.func90, Tryz.ntmps90
    go_wp2_with fail
    go_ret
    exact ⟨by rw [HE.out]; rfl, HW.out.below⟩

def dualE (es : List PEdge) (ys zs : List Int) : Int := if holdF es ys zs then 0 else 181
theorem allNat_bad {l : List Int} {k : Nat} {x : Int} (hx : l[k]? = some x) (h : x < 0) : allNat l = false := by
  unfold allNat
  rw [List.all_eq_false]
  exact ⟨x, List.mem_of_getElem? hx, by simpa using h⟩
theorem allNat_good {l : List Int} (h : ∀ (j : Nat) (x : Int), l[j]? = some x → 0 ≤ x) : allNat l = true := by
  unfold allNat
  rw [List.all_eq_true]
  intro x hx
  obtain ⟨j, hj, rfl⟩ := List.getElem_of_mem hx
  exact decide_eq_true (h j _ (List.getElem?_eq_getElem hj))
theorem allNat_at {l : List Int} (h : allNat l = true) {j : Nat} {x : Int} (hx : l[j]? = some x) : 0 ≤ x := of_decide_eq_true (List.all_eq_true.1 h x (List.mem_of_getElem? hx))
theorem dualE_y {es : List PEdge} {ys zs : List Int} (h : allNat ys = false) : dualE es ys zs = 181 := by simp [dualE, holdF, h]
theorem dualE_z {es : List PEdge} {ys zs : List Int} (h : allNat zs = false) : dualE es ys zs = 181 := by simp [dualE, holdF, h]
theorem dualE_e {es : List PEdge} {ys zs : List Int} {k : Nat} (hk : k < es.length) (h : priceAt es ys zs k = false) : dualE es ys zs = 181 := by
  have : allF es.length (priceAt es ys zs) = false := allF_bad hk h
  simp [dualE, holdF, this]
theorem dualE_yes {es : List PEdge} {ys zs : List Int} (hy : allNat ys = true) (hz : allNat zs = true) (h : ∀ j, j < es.length → priceAt es ys zs j = true) : dualE es ys zs = 0 := by
  have : allF es.length (priceAt es ys zs) = true := allF_good h
  simp [dualE, holdF, this, hy, hz]
theorem priceAt_eq {es : List PEdge} {ys zs : List Int} {k : Nat} {x : PEdge} {a b : Int} (hx : es[k]? = some x) (ha : ys[x.r.toNat]? = some a) (hb : zs[x.c.toNat]? = some b) : priceAt es ys zs k = decide (x.w - a ≤ b) := by
  simp [priceAt, hx, ha, hb, List.getD]

set_option maxHeartbeats 8000000 in
theorem cdual_any (w : World) (rows cols : Int) (eo yo zo : Option Addr) (n c m c' k c'' : Nat) (pv : Value) (l : List PEdge) (ys zs : List Int) (hg : graphF rows cols l = true) (hl : l.length = n) (hr : RdC w eo (cellsOf PEdge.cells l)) (hn : n ≤ 9007199254740992)
    (hy : ys.length = m) (hyr : RdC w yo (cellsOf icell ys)) (hm : (m : Int) = rows) (hz : zs.length = k) (hzr : RdC w zo (cellsOf icell zs)) (hk : (k : Int) = cols) (hyo : ∀ x ∈ ys, i64ok x) :
    Calls Tryz.prog 91 #[.agg #[.int .i64 rows, .int .i64 cols, .slice eo n c, pv, .slice yo m c', .slice zo k c'']] w fun e w' => e = .returned (.int .i64 (dualE l ys zs)) ∧ Below w.heap.size w w' := by
  have hhd := graphF_hdr hg
  have hm' : m ≤ 64 := by omega
  have hk' : k ≤ 64 := by omega
  have HMR := Lib.hid hm
  have HKC := Lib.hid hk
  have HL := Lib.hid hl
  have HR := Lib.hid hr
  have HG := Lib.hid hg
  have HY := Lib.hid hy
  have HYR := Lib.hid hyr
  have HZ := Lib.hid hz
  have HZR := Lib.hid hzr
  have HYO := Lib.hid hyo
  clear hl hr hg hy hyr hz hzr hm hk hhd hyo
  have i0 : ∀ w, (Instr.index 205 (.agg #[.slice yo m c', .slice zo k c'']) (.int .i64 0)).run Tryz.prog w = .ok (.slice yo m c') w := fun _ => by kernel_rfl
  have i1 : ∀ w, (Instr.index 205 (.agg #[.slice yo m c', .slice zo k c'']) (.int .i64 1)).run Tryz.prog w = .ok (.slice zo k c'') w := fun _ => by kernel_rfl
  have HW := Lib.hid (KlRel.begin w rows cols (.slice eo n c) pv (.slice yo m c') (.slice zo k c''))
  go_enter Tryz.func91, Tryz.ntmps91
  go_wp2_with fail
  generalize w.alloc (.cells #[.int .i64 rows, .int .i64 cols, .slice eo n c, pv, .slice yo m c', .slice zo k c''] 164) = W at *
  have HHE := Lib.hid (show ∃ H0, w.heap.size = H0 from ⟨_, rfl⟩)
  obtain ⟨H0, hH0⟩ := HHE.out
  rw [hH0] at HW ⊢
  have HH := Lib.hid hH0
  clear hH0 HHE
  go_loop [16] (fun i => Hid (∃ p : Nat, i = .int .i64 p ∧ p ≤ 2 ∧ (1 ≤ p → allNat ys = true) ∧ (2 ≤ p → allNat zs = true))) (fun i => 2 - (intOf i).toNat)
  case atStart => exact Lib.hid ⟨0, rfl, by omega, fun h => absurd h (by omega), fun h => absurd h (by omega)⟩
  case round =>
    obtain ⟨p, rfl, hp, hya, hza⟩ := hrel.out
    clear hrel
    have HYA := Lib.hid hya
    have HZA := Lib.hid hza
    clear hya hza
    have hp3 : p = 0 ∨ p = 1 ∨ p = 2 := by omega
    rcases hp3 with rfl | rfl | rfl
    · go_wp2_with fail
      go_loop [21] (fun i => Hid (∃ j : Nat, i = .int .i64 j ∧ j ≤ m ∧ ∀ (q : Nat) (x : Int), q < j → ys[q]? = some x → 0 ≤ x)) (fun i => m - (intOf i).toNat)
      case atStart => exact Lib.hid ⟨0, rfl, Nat.zero_le _, fun q x h => absurd h (Nat.not_lt_zero q)⟩
      case round =>
        obtain ⟨j, rfl, hj, hall⟩ := hrel.out
        clear hrel
        have HALL := Lib.hid hall
        clear hall
        by_cases hlt : j < m
        · obtain ⟨x, hx⟩ : ∃ x, ys[j]? = some x := ⟨ys[j]'(by rw [HY.out]; exact hlt), List.getElem?_eq_getElem _⟩
          obtain ⟨b, o, rfl, _⟩ := HYR.out.place (by rw [cellsOf_length _ 1 icell_length, HY.out]; omega)
          have hc := int_at (HYR.out.keep (Keep.of_below HW.out.below (Nat.le_refl _) (fun _ => False)) (fun _ _ _ => id)) hx
          have HX := Lib.hid hx
          clear hx
          by_cases h0 : x < 0
          · have HE := Lib.hid (dualE_y (es := l) (ys := ys) (zs := zs) (allNat_bad HX.out h0))
            go_wp2_with fail
            go_ret
            exact ⟨by rw [HE.out]; rfl, HW.out.below⟩
          · have h0' : 0 ≤ x := by omega
            have HA := Lib.hid (show ∀ (q : Nat) (y : Int), q < j + 1 → ys[q]? = some y → 0 ≤ y from fun q y hq hy => by
              rcases Nat.lt_succ_iff_lt_or_eq.1 hq with hq | rfl
              · exact HALL.out q y hq hy
              · rw [HX.out] at hy; cases hy; exact h0')
            clear h0
            go_wp2_with fail
            go_round
            case rel => exact Lib.hid ⟨j + 1, by go_num, by omega, HA.out⟩
            case measure => simp [intOf]; omega
        · obtain rfl : m = j := by omega
          have HA := Lib.hid (allNat_good (l := ys) (fun q x hx => HALL.out q x (by rw [← HY.out]; exact (List.getElem?_eq_some_iff.1 hx).1) hx))
          go_wp2_with fail
          go_round
          case rel => exact Lib.hid ⟨1, by go_num, by omega, fun _ => HA.out, fun h => absurd h (by omega)⟩
          case measure => simp [intOf]
    · go_wp2_with fail
      go_loop [21] (fun i => Hid (∃ j : Nat, i = .int .i64 j ∧ j ≤ k ∧ ∀ (q : Nat) (x : Int), q < j → zs[q]? = some x → 0 ≤ x)) (fun i => k - (intOf i).toNat)
      case atStart => exact Lib.hid ⟨0, rfl, Nat.zero_le _, fun q x h => absurd h (Nat.not_lt_zero q)⟩
      case round =>
        obtain ⟨j, rfl, hj, hall⟩ := hrel.out
        clear hrel
        have HALL := Lib.hid hall
        clear hall
        by_cases hlt : j < k
        · obtain ⟨x, hx⟩ : ∃ x, zs[j]? = some x := ⟨zs[j]'(by rw [HZ.out]; exact hlt), List.getElem?_eq_getElem _⟩
          obtain ⟨b, o, rfl, _⟩ := HZR.out.place (by rw [cellsOf_length _ 1 icell_length, HZ.out]; omega)
          have hc := int_at (HZR.out.keep (Keep.of_below HW.out.below (Nat.le_refl _) (fun _ => False)) (fun _ _ _ => id)) hx
          have HX := Lib.hid hx
          clear hx
          by_cases h0 : x < 0
          · have HE := Lib.hid (dualE_z (es := l) (ys := ys) (zs := zs) (allNat_bad HX.out h0))
            go_wp2_with fail
            go_ret
            exact ⟨by rw [HE.out]; rfl, HW.out.below⟩
          · have h0' : 0 ≤ x := by omega
            have HA := Lib.hid (show ∀ (q : Nat) (y : Int), q < j + 1 → zs[q]? = some y → 0 ≤ y from fun q y hq hy => by
              rcases Nat.lt_succ_iff_lt_or_eq.1 hq with hq | rfl
              · exact HALL.out q y hq hy
              · rw [HX.out] at hy; cases hy; exact h0')
            clear h0
            go_wp2_with fail
            go_round
            case rel => exact Lib.hid ⟨j + 1, by go_num, by omega, HA.out⟩
            case measure => simp [intOf]; omega
        · obtain rfl : k = j := by omega
          have HA := Lib.hid (allNat_good (l := zs) (fun q x hx => HALL.out q x (by rw [← HZ.out]; exact (List.getElem?_eq_some_iff.1 hx).1) hx))
          go_wp2_with fail
          go_round
          case rel => exact Lib.hid ⟨2, by go_num, by omega, fun _ => HYA.out (Nat.le_refl _), fun _ => HA.out⟩
          case measure => simp [intOf]
    · have HYN := Lib.hid (HYA.out (by omega))
      have HZN := Lib.hid (HZA.out (by omega))
      obtain ⟨g0, g1, g2, g3, g4, g5⟩ := cells6 HW.out.g
      go_wp2_with fail
      go_loopw [33] (fun i wr => Hid (∃ j : Nat, i = .int .i64 j ∧ j ≤ n ∧ (∀ q, q < j → priceAt l ys zs q = true) ∧ KlRel w rows cols (.slice eo n c) pv (.slice yo m c') (.slice zo k c'') H0 wr)) (fun i _ => n - (intOf i).toNat)
      case atStart => exact Lib.hid ⟨0, rfl, Nat.zero_le _, upto_none, HW.out⟩
      case round =>
        obtain ⟨j, rfl, hj, hall, hrel1⟩ := hrel.out
        clear hrel g0 g1 g2 g3 g4 g5
        obtain ⟨g0, g1, g2, g3, g4, g5⟩ := cells6 hrel1.g
        have hs0 : H0 < wr.heap.size := lt_of_block hrel1.g
        have HR1 := Lib.hid hrel1
        have HALL := Lib.hid hall
        clear hrel1 hall
        by_cases hlt : j < n
        · obtain ⟨x, hx⟩ : ∃ x, l[j]? = some x := ⟨l[j]'(by rw [HL.out]; exact hlt), List.getElem?_eq_getElem _⟩
          have hin := graphF_at HG.out hx
          have hr1 : x.r.toNat < m := by have := HMR.out; omega
          have hr2 : x.c.toNat < k := by have := HKC.out; omega
          obtain ⟨y, hyx⟩ : ∃ y, ys[x.r.toNat]? = some y := ⟨ys[x.r.toNat]'(by rw [HY.out]; exact hr1), List.getElem?_eq_getElem _⟩
          obtain ⟨z, hzx⟩ : ∃ z, zs[x.c.toNat]? = some z := ⟨zs[x.c.toNat]'(by rw [HZ.out]; exact hr2), List.getElem?_eq_getElem _⟩
          obtain ⟨b, o, rfl, _⟩ := HR.out.place (by rw [cellsOf_length _ 3 PEdge.cells_length, HL.out]; omega)
          obtain ⟨b1, o1, rfl, _⟩ := HYR.out.place (by rw [cellsOf_length _ 1 icell_length, HY.out]; omega)
          obtain ⟨b2, o2, rfl, _⟩ := HZR.out.place (by rw [cellsOf_length _ 1 icell_length, HZ.out]; omega)
          have hkb := Keep.of_below HR1.out.below (Nat.le_refl _) (fun _ => False)
          obtain ⟨x0, x1, x2⟩ := edge_at (HR.out.keep hkb (fun _ _ _ => id)) hx
          have yc := int_at (HYR.out.keep hkb (fun _ _ _ => id)) hyx
          have zc := int_at (HZR.out.keep hkb (fun _ _ _ => id)) hzx
          have hb0 : b < wr.heap.size := World.block_lt_of_cell? wr _ x0
          have hb1 : b1 < wr.heap.size := World.block_lt_of_cell? wr _ yc
          have hb2 : b2 < wr.heap.size := World.block_lt_of_cell? wr _ zc
          have hyb := HYO.out y (List.mem_of_getElem? hyx)
          obtain ⟨hyb1, hyb2⟩ := hyb
          have hyn := allNat_at HYN.out hyx
          obtain ⟨e1, e2, e3, e4, e5, e6⟩ := hin
          have HX := Lib.hid hx
          have HEQ := Lib.hid (priceAt_eq hx hyx hzx)
          clear hx hyx hzx hkb
          by_cases h0 : z < x.w - y
          · have HE := Lib.hid (dualE_e (es := l) (ys := ys) (zs := zs) (by rw [HL.out]; exact hlt) (show priceAt l ys zs j = false by rw [HEQ.out]; exact decide_eq_false (by omega)))
            go_wp2_with fail
            go_quiet (fail)
            go_wp2_with fail
            go_ret
            exact ⟨by rw [HE.out]; rfl, below_drewN (HR1.out.one _).below _⟩
          · have h0' : x.w - y ≤ z := by omega
            have HE := Lib.hid (show priceAt l ys zs j = true by rw [HEQ.out]; exact decide_eq_true h0')
            clear h0
            go_wp2_with fail
            go_quiet (fail)
            have HN := Lib.hid (HR1.out.one (.cells #[.int .i64 x.r, .int .i64 x.c, .int .i64 x.w] 114))
            go_wp2_with fail
            go_roundw
            case rel => exact Lib.hid ⟨j + 1, by go_num, by omega, upto_next HALL.out HE.out, HN.out.drewN _⟩
            case measure => simp [intOf]; omega
        · obtain rfl : n = j := by omega
          have HE := Lib.hid (dualE_yes (es := l) HYN.out HZN.out (fun q hq => HALL.out q (by rw [HL.out] at hq; exact hq)))
          go_wp2_with fail
          go_ret
          exact ⟨by rw [HE.out]; rfl, HR1.out.below⟩
end Go.Proofs.YtcaicgipibcicaaGreat
