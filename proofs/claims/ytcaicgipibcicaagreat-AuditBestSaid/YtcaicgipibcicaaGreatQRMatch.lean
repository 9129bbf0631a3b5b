/- Chapter 18 in the reference: bounds, the whole check; windows that close. -/
import Derived.Test.YtcaicgipibcicaaGreatQRCert3
import Derived.Test.YtcaicgipibcicaaGreatQRFit3
namespace Go.Proofs.YtcaicgipibcicaaGreat
set_option maxRecDepth 100000
set_option linter.unusedVariables false
set_option linter.unusedSimpArgs false
open Go.RowKit Go.Sort

def boundQ (rows cols : Int) (es : List PEdge) (ys zs : List Int) (m k : Nat) : Int × Int :=
  if lengthsE rows cols m k ≠ 0 then (0, 1) else if holdF es ys zs then (match sumAll ys zs with
    | none => (0, 3)
    | some n => (n, 0)) else (0, 181)
def boundP (rows cols : Int) (es : List PEdge) (ys zs : List Int) : Int × Int := boundQ rows cols es ys zs ys.length zs.length
theorem lengthsE_no {rows cols : Int} {n m : Nat} (h : ¬ ((n : Int) = rows ∧ (m : Int) = cols)) : lengthsE rows cols n m = 1 := if_neg h
theorem lengthsE_yes {rows cols : Int} {n m : Nat} (h : (n : Int) = rows ∧ (m : Int) = cols) : lengthsE rows cols n m = 0 := if_pos h
theorem holdF_ok {es : List PEdge} {ys zs : List Int} (h : holdF es ys zs = true) : allNat ys = true ∧ allNat zs = true := by
  unfold holdF at h
  rw [Bool.and_eq_true, Bool.and_eq_true] at h
  exact h.1

set_option maxHeartbeats 8000000 in
theorem rbound_any (w : World) (rows cols : Int) (eo yo zo : Option Addr) (n c m c' k c'' : Nat) (l : List PEdge) (ys zs : List Int) (hg : graphF rows cols l = true) (hl : l.length = n) (hr : RdC w eo (cellsOf PEdge.cells l)) (hn : n ≤ 9007199254740992) (hm : m ≤ 9007199254740992) (hk : k ≤ 9007199254740992)
    (hy : ys.length = m) (hyr : RdC w yo (cellsOf icell ys)) (hz : zs.length = k) (hzr : RdC w zo (cellsOf icell zs)) (hyo : ∀ x ∈ ys, i64ok x) :
    Calls Tryz.prog 102 #[.agg #[.int .i64 rows, .int .i64 cols, .slice eo n c], .slice yo m c', .slice zo k c''] w fun e w' => e = .returned (.tuple #[.int .i64 (boundP rows cols l ys zs).1, .int .i64 (boundP rows cols l ys zs).2]) ∧ Below w.heap.size w w' := by
  have hg0 : graphE rows cols l = 0 := by simp [graphE, hg]
  have HCH := Lib.hid (fun wx hb => by have := rgcheck_any wx rows cols eo n c l hl (hr.below hb) hn; rw [hg0] at this; exact this)
  have HHO := Lib.hid (fun wx hb h1 h2 => rhold_any wx rows cols eo yo zo n c m c' k c'' l ys zs hg hl (hr.below hb) hn hy (hyr.below hb) h1 hz (hzr.below hb) h2 hyo)
  have HSU := Lib.hid (fun wx hb h1 h2 => rsum_any wx yo zo m c' k c'' ys zs hm hk hy (hyr.below hb) hz (hzr.below hb) h1 h2)
  have HBP := Lib.hid (show boundP rows cols l ys zs = boundQ rows cols l ys zs m k by unfold boundP; rw [hy, hz])
  clear hl hr hg hg0 hy hyr hz hzr hyo hm hk
  obtain ⟨A, E, hAE⟩ : ∃ A E, boundP rows cols l ys zs = (A, E) := ⟨_, _, rfl⟩
  rw [hAE] at HBP ⊢
  clear hAE
  unfold boundQ at HBP
  have HW := Lib.hid (GrRel.begin w rows cols (.slice eo n c))
  go_enter Tryz.func102, Tryz.ntmps102
  go_wp2_with fail
  generalize w.alloc (.cells #[.int .i64 rows, .int .i64 cols, .slice eo n c] 28) = W at *
  have HHE := Lib.hid (show ∃ H0, w.heap.size = H0 from ⟨_, rfl⟩)
  obtain ⟨H0, hH0⟩ := HHE.out
  rw [hH0] at HW
  rw [hH0]
  have HH := Lib.hid hH0
  clear hH0 HHE
  refine (HCH.out W HW.out.below).mono ?_
  rintro e w1 ⟨rfl, hb1⟩
  have HW1 := Lib.hid (HW.out.keep hb1)
  obtain ⟨g0, g1, g2, gf⟩ := cells3 HW1.out.g
  clear hb1 HW HCH gf
  by_cases h1 : (m : Int) = rows
  · have b1 : ((m : Int) != rows) = false := by simp [h1]
    by_cases h2 : (k : Int) = cols
    · have b2 : ((k : Int) != cols) = false := by simp [h2]
      have HB2 := Lib.hid (HBP.out.trans (if_neg (by rw [lengthsE_yes ⟨h1, h2⟩]; simp)))
      have HHQ := Lib.hid (fun wx hb => HHO.out wx hb h1 h2)
      clear h1 h2 HBP HHO
      go_wp2_with fail
      refine (HHQ.out w1 HW1.out.below).mono ?_
      rintro e w2 ⟨rfl, hb2⟩
      have HW2 := Lib.hid (HW1.out.keep hb2)
      clear hb2 HW1 HHQ g0 g1 g2
      cases hh : holdF l ys zs with
      | false =>
        rw [hh] at HB2
        have HE := Lib.hid (Prod.mk.inj HB2.out)
        clear HB2 hh
        go_wp2_with fail
        go_ret2
        exact ⟨by rw [HE.out.1, HE.out.2]; rfl, HW2.out.below⟩
      | true =>
        rw [hh] at HB2
        have hnn := holdF_ok hh
        have HSQ := Lib.hid (HSU.out w2 HW2.out.below hnn.1 hnn.2)
        clear hh hnn HSU
        go_wp2_with fail
        refine HSQ.out.mono ?_
        rintro e w3 ⟨rfl, rfl⟩
        cases hs : sumAll ys zs with
        | none =>
          rw [hs] at HB2
          have HE := Lib.hid (Prod.mk.inj HB2.out)
          clear HB2 hs HSQ
          simp only [sumV]
          go_wp2_with fail
          go_ret2
          exact ⟨by rw [HE.out.1, HE.out.2]; rfl, HW2.out.below⟩
        | some t =>
          rw [hs] at HB2
          have HE := Lib.hid (Prod.mk.inj HB2.out)
          clear HB2 hs HSQ
          simp only [sumV]
          go_wp2_with fail
          go_ret2
          exact ⟨by rw [HE.out.1, HE.out.2]; rfl, HW2.out.below⟩
    · have b2 : ((k : Int) != cols) = true := by simp [h2]
      have HB2 := Lib.hid (HBP.out.trans (if_pos (by rw [lengthsE_no (fun h => h2 h.2)]; simp)))
      have HE := Lib.hid (Prod.mk.inj HB2.out)
      clear h1 h2 HBP HHO HSU HB2
      go_wp2_with fail
      go_ret2
      exact ⟨by rw [HE.out.1, HE.out.2]; rfl, HW1.out.below⟩
  · have b1 : ((m : Int) != rows) = true := by simp [h1]
    have HB2 := Lib.hid (HBP.out.trans (if_pos (by rw [lengthsE_no (fun h => h1 h.1)]; simp)))
    have HE := Lib.hid (Prod.mk.inj HB2.out)
    clear h1 HBP HHO HSU HB2
    go_wp2_with fail
    go_ret2
    exact ⟨by rw [HE.out.1, HE.out.2]; rfl, HW1.out.below⟩
end Go.Proofs.YtcaicgipibcicaaGreat

/- Chapter 18 in the reference: the whole check; windows that close. -/
namespace Go.Proofs.YtcaicgipibcicaaGreat
set_option maxRecDepth 100000
set_option linter.unusedVariables false
set_option linter.unusedSimpArgs false
open Go.RowKit Go.Sort

theorem cert_of_bound {rows cols : Int} {es : List PEdge} {ps : List PPair} {ys zs : List Int} (h : pairsE rows cols es ps = 0) : ((boundP rows cols es ys zs).2 = 3 → certE rows cols es ps ys zs = 182) ∧ ((boundP rows cols es ys zs).2 ≠ 0 → (boundP rows cols es ys zs).2 ≠ 3 → certE rows cols es ps ys zs = (boundP rows cols es ys zs).2) ∧
    ((boundP rows cols es ys zs).2 = 0 → (boundP rows cols es ys zs).1 = worthF es ps → certE rows cols es ps ys zs = 0) ∧ ((boundP rows cols es ys zs).2 = 0 → (boundP rows cols es ys zs).1 ≠ worthF es ps → certE rows cols es ps ys zs = 182) := by
  have hb : lengthsE rows cols ys.length zs.length = if lengthsB rows cols ys zs then 0 else 1 := by
    unfold lengthsE lengthsB
    by_cases h1 : (ys.length : Int) = rows <;> by_cases h2 : (zs.length : Int) = cols <;> simp [h1, h2]
  unfold certE boundE boundP boundQ gapB
  rw [hb]
  cases lengthsB rows cols ys zs <;> cases holdF es ys zs <;> cases sumAll ys zs <;> simp [h]
theorem pairsE_zero {rows cols : Int} {es : List PEdge} {ps : List PPair} (h : pairsE rows cols es ps = 0) : graphF rows cols es = true := by
  unfold pairsE at h
  cases hg : graphF rows cols es with
  | true => rfl
  | false => simp [hg] at h

set_option maxHeartbeats 8000000 in
theorem rcertcheck_any (w : World) (rows cols : Int) (eo po yo zo : Option Addr) (n c q d m c' k c'' : Nat) (l : List PEdge) (ps : List PPair) (ys zs : List Int) (hl : l.length = n) (hr : RdC w eo (cellsOf PEdge.cells l)) (hn : n ≤ 9007199254740992)
    (hp : ps.length = q) (hpr : RdC w po (cellsOf PPair.cells ps)) (hq : q ≤ 1048576) (hm : m ≤ 9007199254740992) (hk : k ≤ 9007199254740992)
    (hy : ys.length = m) (hyr : RdC w yo (cellsOf icell ys)) (hz : zs.length = k) (hzr : RdC w zo (cellsOf icell zs)) (hyo : ∀ x ∈ ys, i64ok x) :
    Calls Tryz.prog 58 #[.agg #[.int .i64 rows, .int .i64 cols, .slice eo n c], .agg #[.slice po q d, .slice yo m c', .slice zo k c'']] w fun e w' => e = .returned (.int .i64 (certE rows cols l ps ys zs)) ∧ Below w.heap.size w w' := by
  have HPA := Lib.hid (fun wx hb => rmatch_any wx rows cols eo po n c q d l ps hl (hr.below hb) hn hp (hpr.below hb) (by omega))
  have HBO := Lib.hid (fun wx hb hg => rbound_any wx rows cols eo yo zo n c m c' k c'' l ys zs hg hl (hr.below hb) hn hm hk hy (hyr.below hb) hz (hzr.below hb) hyo)
  have HWO := Lib.hid (fun wx hb hg => rworth_any wx rows cols eo po n c q d l ps hg hl (hr.below hb) hn hp (hpr.below hb) hq)
  have HCB := Lib.hid (fun h => cert_of_bound (rows := rows) (cols := cols) (es := l) (ps := ps) (ys := ys) (zs := zs) h)
  have HCN := Lib.hid (fun (h : pairsE rows cols l ps ≠ 0) => show certE rows cols l ps ys zs = pairsE rows cols l ps by unfold certE; rw [if_pos h])
  have HZG := Lib.hid (fun h => pairsE_zero (rows := rows) (cols := cols) (es := l) (ps := ps) h)
  clear hl hr hn hp hpr hq hm hk hy hyr hz hzr hyo
  have HW : Hid (∃ W, W = (w.alloc (.cells #[.int .i64 rows, .int .i64 cols, .slice eo n c] 28)).alloc (.cells #[.slice po q d, .slice yo m c', .slice zo k c''] 32) ∧ W.heap[w.heap.size]? = some (.cells #[.int .i64 rows, .int .i64 cols, .slice eo n c] 28 (0, 0)) ∧ W.heap[w.heap.size + 1]? = some (.cells #[.slice po q d, .slice yo m c', .slice zo k c''] 32 (0, 0)) ∧ Below w.heap.size w W) := Lib.hid (by
    refine ⟨_, rfl, (Keep.alloc (fun _ => False) _ _).old (heap_alloc_new w _) id, ?_, ((Below.refl w.heap.size w).alloc (Nat.le_refl _) _).alloc (by simp) _⟩
    have := heap_alloc_new (w.alloc (.cells #[.int .i64 rows, .int .i64 cols, .slice eo n c] 28)) (.cells #[.slice po q d, .slice yo m c', .slice zo k c''] 32)
    rw [show (w.alloc (.cells #[.int .i64 rows, .int .i64 cols, .slice eo n c] 28)).heap.size = w.heap.size + 1 by simp] at this
    exact this)
  go_enter Tryz.func58, Tryz.ntmps58
  go_wp2_with fail
  obtain ⟨W, hWE, hg0, hc0, hbW⟩ := HW.out
  rw [← hWE]
  have HG0 := Lib.hid hg0
  have HC0 := Lib.hid hc0
  have HBW := Lib.hid hbW
  clear HW hWE hg0 hc0 hbW
  generalize w.heap.size + 1 = H1 at *
  have HHE := Lib.hid (show ∃ H0, w.heap.size = H0 from ⟨_, rfl⟩)
  obtain ⟨H0, hH0⟩ := HHE.out
  rw [hH0] at HG0
  rw [hH0]
  have HH := Lib.hid hH0
  clear hH0 HHE
  refine (HPA.out W HBW.out).mono ?_
  rintro e w1 ⟨rfl, hb1⟩
  have hk1 := Keep.of_below hb1 (Nat.le_refl _) (fun _ => False)
  have HG1 := Lib.hid (hk1.old HG0.out id)
  have HC1 := Lib.hid (hk1.old HC0.out id)
  have HB1 := Lib.hid (Below.next HBW.out hb1)
  clear hb1 hk1 HG0 HC0 HBW HPA
  obtain ⟨g0, g1, g2, gf⟩ := cells3 HG1.out
  obtain ⟨d0, d1, d2, df⟩ := cells3 HC1.out
  clear gf df
  by_cases hpe : pairsE rows cols l ps = 0
  · have hgg := HZG.out hpe
    have HCC := Lib.hid (HCB.out hpe)
    have HBQ := Lib.hid (fun wx hb => HBO.out wx hb hgg)
    have HWQ := Lib.hid (fun wx hb => HWO.out wx hb hgg)
    rw [hpe]
    clear hpe hgg HCB HBO HWO HCN HZG
    go_wp2_with fail
    refine (HBQ.out w1 HB1.out).mono ?_
    rintro e w2 ⟨rfl, hb2⟩
    have hk2 := Keep.of_below hb2 (Nat.le_refl _) (fun _ => False)
    have HG2 := Lib.hid (hk2.old HG1.out id)
    have HC2 := Lib.hid (hk2.old HC1.out id)
    have HB2 := Lib.hid (Below.next HB1.out hb2)
    clear hb2 hk2 HG1 HC1 HB1 HBQ g0 g1 g2 d0 d1 d2
    obtain ⟨g0, g1, g2, gf⟩ := cells3 HG2.out
    obtain ⟨d0, d1, d2, df⟩ := cells3 HC2.out
    clear gf df
    obtain ⟨A, hA⟩ : ∃ A, (boundP rows cols l ys zs).1 = A := ⟨_, rfl⟩
    obtain ⟨E, hE⟩ : ∃ E, (boundP rows cols l ys zs).2 = E := ⟨_, rfl⟩
    rw [hA, hE] at HCC ⊢
    clear hA hE
    obtain ⟨f1, f2, f3, f4⟩ := HCC.out
    by_cases h3 : E = 3
    · have HF := Lib.hid (f1 h3)
      have b3 : (E == 3) = true := by simp [h3]
      clear h3 f1 f2 f3 f4 HCC
      go_wp2_with fail
      go_ret
      exact ⟨by rw [HF.out]; rfl, HB2.out⟩
    have b3 : (E == 3) = false := by simp [h3]
    by_cases h0 : E = 0
    · have b0 : (E == 0) = true := by simp [h0]
      have HF3 := Lib.hid (f3 h0)
      have HF4 := Lib.hid (f4 h0)
      have HE0 := Lib.hid h0
      clear h3 h0 f1 f2 f3 f4 HCC
      go_wp2_with fail
      refine (HWQ.out w2 HB2.out).mono ?_
      rintro e w3 ⟨rfl, hb3⟩
      have HB3 := Lib.hid (Below.next HB2.out hb3)
      clear hb3 HG2 HC2 HB2 HWQ g0 g1 g2 d0 d1 d2
      generalize worthF l ps = B at *
      by_cases hab : A = B
      · have HF := Lib.hid (HF3.out hab)
        have b5 : (A != B) = false := by simp [hab]
        clear hab HF3 HF4
        go_wp2_with fail
        go_ret
        exact ⟨by rw [HF.out, ← HE0.out]; rfl, HB3.out⟩
      · have HF := Lib.hid (HF4.out hab)
        have b5 : (A != B) = true := by simp [hab]
        clear hab HF3 HF4
        go_wp2_with fail
        go_ret
        exact ⟨by rw [HF.out]; rfl, HB3.out⟩
    · have b0 : (E == 0) = false := by simp [h0]
      have HF := Lib.hid (f2 h0 h3)
      clear h3 h0 f1 f2 f3 f4 HCC
      go_wp2_with fail
      go_ret
      exact ⟨by rw [HF.out]; rfl, HB2.out⟩
  · have HF := Lib.hid (HCN.out hpe)
    have b1 : (pairsE rows cols l ps == 0) = false := by simp [hpe]
    have b2 : (pairsE rows cols l ps != 0) = true := by simp [hpe]
    clear hpe HCN HCB HBO HWO HZG
    generalize pairsE rows cols l ps = E at *
    go_wp2_with fail
    go_ret
    exact ⟨by rw [HF.out]; rfl, HB1.out⟩
end Go.Proofs.YtcaicgipibcicaaGreat

/- Matchings in the reference of chapter 17; graphs that are the same; windows that close. Printed by wip/genrmatch.py. -/
namespace Go.Proofs.YtcaicgipibcicaaGreat
set_option maxRecDepth 100000
set_option linter.unusedVariables false
set_option linter.unusedSimpArgs false
open Go.RowKit Go.Sort

/-- Is there an edge among the first j? -/
def edgeUpto (es : List PEdge) (r c : Int) (j : Nat) : Bool := (es.take j).any (isE r c)
theorem edgeUpto_zero (es : List PEdge) (r c : Int) : edgeUpto es r c 0 = false := by simp [edgeUpto]
theorem edgeUpto_succ {es : List PEdge} {r c : Int} {j : Nat} {x : PEdge} (hx : es[j]? = some x) : edgeUpto es r c (j + 1) = (edgeUpto es r c j || isE r c x) := by
  have hj := (List.getElem?_eq_some_iff.1 hx).1
  unfold edgeUpto
  rw [List.take_succ_eq_append_getElem hj, (List.getElem?_eq_some_iff.1 hx).2, List.any_append]
  simp
theorem edgeUpto_all (es : List PEdge) (r c : Int) : edgeUpto es r c es.length = edgeIs es r c := by simp [edgeUpto, edgeIs]

set_option maxHeartbeats 8000000 in
theorem rmatching_any (w : World) (rows cols : Int) (eo po : Option Addr) (n c q d : Nat) (l : List PEdge) (ps : List PPair) (hg : graphF rows cols l = true) (hl : l.length = n) (hr : RdC w eo (cellsOf PEdge.cells l)) (hn : n ≤ 9007199254740992)
    (hp : ps.length = q) (hpr : RdC w po (cellsOf PPair.cells ps)) (hq : q ≤ 9007199254740992) :
    Calls Tryz.prog 95 #[.agg #[.int .i64 rows, .int .i64 cols, .slice eo n c], .slice po q d] w fun e w' => e = .returned (.bool (matchF l ps)) ∧ Below w.heap.size w w' := by
  have HP := Lib.hid hp
  have HPR := Lib.hid hpr
  have HL := Lib.hid hl
  have HR := Lib.hid hr
  have HG := Lib.hid hg
  clear hl hr hp hpr hg
  have HW := Lib.hid (GrRel.begin w rows cols (.slice eo n c))
  go_enter Tryz.func95, Tryz.ntmps95
  go_wp2_with fail
  generalize w.alloc (.cells #[.int .i64 rows, .int .i64 cols, .slice eo n c] 28) = W at *
  have HHE := Lib.hid (show ∃ H0, w.heap.size = H0 from ⟨_, rfl⟩)
  obtain ⟨H0, hH0⟩ := HHE.out
  rw [hH0] at HW
  rw [hH0]
  have HH := Lib.hid hH0
  clear hH0 HHE
  go_loopw [5] (fun i wr => Hid (∃ k : Nat, i = .int .i64 k ∧ k ≤ q ∧ (∀ j, j < k → pairAt l ps j = true) ∧ GrRel w rows cols (.slice eo n c) H0 wr)) (fun i _ => q - (intOf i).toNat)
  case atStart => exact Lib.hid ⟨0, rfl, Nat.zero_le _, upto_none, HW.out⟩
  case round =>
    obtain ⟨k, rfl, hk, hall, hrel1⟩ := hrel.out
    clear hrel
    have HR1 := Lib.hid hrel1
    have HALL := Lib.hid hall
    clear hrel1 hall
    by_cases hlt : k < q
    · obtain ⟨x, hx⟩ : ∃ x, ps[k]? = some x := ⟨ps[k]'(by rw [HP.out]; exact hlt), List.getElem?_eq_getElem _⟩
      obtain ⟨b, o, rfl, _⟩ := HPR.out.place (by rw [cellsOf_length _ 2 PPair.cells_length, HP.out]; omega)
      have HX := Lib.hid hx
      have HBAD := Lib.hid (fun h => matchF_bad (es := l) HX.out h)
      have HEQ := Lib.hid (pairAt_eq (es := l) HX.out)
      have HIN := Lib.hid (worthAt_in HG.out x.r x.c)
      have HEI := Lib.hid (edgeIs_eq HG.out x.r x.c)
      clear hx
      go_wp2_with fail
      go_loopw [6, 7] (fun v i wr => Hid (∃ j : Nat, v = .bool (edgeUpto l x.r x.c j) ∧ i = .int .i64 j ∧ j ≤ n ∧ GrRel w rows cols (.slice eo n c) H0 wr)) (fun _ i _ => n - (intOf i).toNat)
      case atStart => exact Lib.hid ⟨0, by rw [edgeUpto_zero], rfl, Nat.zero_le _, HR1.out⟩
      case round =>
        obtain ⟨j, rfl, rfl, hj, hrel1⟩ := hrel.out
        clear hrel
        obtain ⟨g0, g1, g2, gf⟩ := cells3 hrel1.g
        have HR2 := Lib.hid hrel1
        clear hrel1 g0 g1 gf
        by_cases hjn : j < n
        · obtain ⟨y, hy⟩ : ∃ y, l[j]? = some y := ⟨l[j]'(by rw [HL.out]; exact hjn), List.getElem?_eq_getElem _⟩
          obtain ⟨b2, o2, rfl, _⟩ := HR.out.place (by rw [cellsOf_length _ 3 PEdge.cells_length, HL.out]; omega)
          have hkb := Keep.of_below HR2.out.below (Nat.le_refl _) (fun _ => False)
          obtain ⟨y0, y1, y2⟩ := edge_at (HR.out.keep hkb (fun _ _ _ => id)) hy
          obtain ⟨x0, x1⟩ := pair_at (HPR.out.keep hkb (fun _ _ _ => id)) HX.out
          have HSU := Lib.hid (edgeUpto_succ (r := x.r) (c := x.c) hy)
          clear hy hkb
          cases heu : edgeUpto l x.r x.c j with
          | true =>
            have HNX := Lib.hid (show edgeUpto l x.r x.c (j + 1) = true by rw [HSU.out, heu]; rfl)
            clear heu
            go_wp2_with fail
            go_quiet (fail)
            go_wp2_with fail
            go_roundw
            case rel => exact Lib.hid ⟨j + 1, by rw [HNX.out], by go_num, by omega, HR2.out.drewN _⟩
            case measure => simp [intOf]; omega
          | false =>
            by_cases h1 : y.r = x.r
            · by_cases h2 : y.c = x.c
              · have HNX := Lib.hid (show edgeUpto l x.r x.c (j + 1) = true by rw [HSU.out, heu, isE, decide_eq_true ⟨h1, h2⟩]; rfl)
                have b1 : (y.r == x.r) = true := by simp [h1]
                have b2 : (y.c == x.c) = true := by simp [h2]
                clear heu h1 h2
                go_wp2_with fail
                go_quiet (fail)
                go_wp2_with fail
                go_roundw
                case rel => exact Lib.hid ⟨j + 1, by rw [HNX.out], by go_num, by omega, HR2.out.drewN _⟩
                case measure => simp [intOf]; omega
              · have HNX := Lib.hid (show edgeUpto l x.r x.c (j + 1) = false by rw [HSU.out, heu, isE, decide_eq_false (fun h => h2 h.2)]; rfl)
                have b1 : (y.r == x.r) = true := by simp [h1]
                have b2 : (y.c == x.c) = false := by simp [h2]
                clear heu h1 h2
                go_wp2_with fail
                go_quiet (fail)
                go_wp2_with fail
                go_roundw
                case rel => exact Lib.hid ⟨j + 1, by rw [HNX.out], by go_num, by omega, HR2.out.drewN _⟩
                case measure => simp [intOf]; omega
            · have HNX := Lib.hid (show edgeUpto l x.r x.c (j + 1) = false by rw [HSU.out, heu, isE, decide_eq_false (fun h => h1 h.1)]; rfl)
              have b1 : (y.r == x.r) = false := by simp [h1]
              clear heu h1
              go_wp2_with fail
              go_quiet (fail)
              go_wp2_with fail
              go_roundw
              case rel => exact Lib.hid ⟨j + 1, by rw [HNX.out], by go_num, by omega, HR2.out.drewN _⟩
              case measure => simp [intOf]; omega
        · obtain rfl : n = j := by omega
          have HEU := Lib.hid (show edgeUpto l x.r x.c n = decide (worthAt l x.r x.c ≠ 0) by rw [← HEI.out, ← edgeUpto_all, HL.out])
          obtain ⟨x0, x1⟩ := pair_at (HPR.out.keep (Keep.of_below HR2.out.below (Nat.le_refl _) (fun _ => False)) (fun _ _ _ => id)) HX.out
          by_cases h1 : worthAt l x.r x.c = 0
          · have HF := Lib.hid (HBAD.out (by rw [HEQ.out, h1]; simp))
            rw [HEU.out, decide_eq_false (fun h => h h1)]
            clear h1
            go_wp2_with fail
            go_quiet (fail)
            go_wp2_with fail
            go_ret
            exact ⟨by rw [HF.out]; rfl, (HR2.out.drewN _).below⟩
          · have hrow : 0 ≤ x.r := by
              rcases HIN.out with ⟨h0, _⟩ | ⟨_, _, h3, _⟩
              · exact absurd h0 h1
              · exact h3
            have HEQ2 := Lib.hid (show pairAt l ps k = (decide (prevR ps k < x.r) && freeC ps k x.c) by rw [HEQ.out, decide_eq_true (show worthAt l x.r x.c ≠ 0 from h1), Bool.and_true])
            rw [HEU.out, decide_eq_true h1]
            have HROW : Hid ((k = 0 ∧ prevR ps k < x.r) ∨ (0 < k ∧ ∃ y, ps[k - 1]? = some y ∧ prevR ps k = y.r)) := Lib.hid (by
              have hcase : k = 0 ∨ 0 < k := by omega
              rcases hcase with rfl | h
              · exact .inl ⟨rfl, by simp only [prevR]; omega⟩
              · right
                obtain ⟨y, hy⟩ : ∃ y, ps[k - 1]? = some y := ⟨ps[k - 1]'(by rw [HP.out]; omega), List.getElem?_eq_getElem _⟩
                have := prevR_succ hy
                rw [show k - 1 + 1 = k by omega] at this
                exact ⟨h, y, hy, this⟩)
            clear h1 HEQ HIN
            rcases HROW.out with ⟨h2, h3⟩ | ⟨h2, y, hy, h3⟩
            · have HEQ3 := Lib.hid (show pairAt l ps k = freeC ps k x.c by rw [HEQ2.out, decide_eq_true h3, Bool.true_and])
              have b2 : decide (0 < k) = false := by simp [h2]
              clear h2 h3 HROW HEQ2
              go_wp2_with fail
              go_quiet (fail)
              go_wp2_with fail
              go_loopw [8] (fun i wr => Hid (∃ j : Nat, i = .int .i64 j ∧ j ≤ k ∧ (∀ (p : Nat) (y : PPair), p < j → ps[p]? = some y → y.c ≠ x.c) ∧ GrRel w rows cols (.slice eo n c) H0 wr)) (fun i _ => k - (intOf i).toNat)
              case atStart => exact Lib.hid ⟨0, rfl, Nat.zero_le _, fun p y h => absurd h (Nat.not_lt_zero p), HR2.out.drewN _⟩
              case round =>
                obtain ⟨j, rfl, hj, hfree, hrel1⟩ := hrel.out
                clear hrel
                have HR3 := Lib.hid hrel1
                have HFR := Lib.hid hfree
                clear hrel1 hfree
                by_cases hjk : j < k
                · obtain ⟨z, hz⟩ : ∃ z, ps[j]? = some z := ⟨ps[j]'(by rw [HP.out]; omega), List.getElem?_eq_getElem _⟩
                  have hkb := Keep.of_below HR3.out.below (Nat.le_refl _) (fun _ => False)
                  obtain ⟨z0, z1⟩ := pair_at (HPR.out.keep hkb (fun _ _ _ => id)) hz
                  obtain ⟨v0, v1⟩ := pair_at (HPR.out.keep hkb (fun _ _ _ => id)) HX.out
                  have HZ := Lib.hid hz
                  clear hz hkb
                  by_cases h5 : z.c = x.c
                  · have HF := Lib.hid (HBAD.out (by rw [HEQ3.out]; exact freeC_bad hjk HZ.out h5))
                    have b5 : (z.c == x.c) = true := by simp [h5]
                    clear h5
                    go_wp2_with fail
                    go_quiet (fail)
                    go_wp2_with fail
                    go_ret
                    exact ⟨by rw [HF.out]; rfl, (HR3.out.drewN _).below⟩
                  · have HA := Lib.hid (show ∀ (p : Nat) (y : PPair), p < j + 1 → ps[p]? = some y → y.c ≠ x.c from fun p y hp hy => by
                      rcases Nat.lt_succ_iff_lt_or_eq.1 hp with hp | rfl
                      · exact HFR.out p y hp hy
                      · rw [HZ.out] at hy; cases hy; exact h5)
                    have b5 : (z.c == x.c) = false := by simp [h5]
                    clear h5
                    go_wp2_with fail
                    go_quiet (fail)
                    go_wp2_with fail
                    go_roundw
                    case rel => exact Lib.hid ⟨j + 1, by go_num, by omega, HA.out, HR3.out.drewN _⟩
                    case measure => simp [intOf]; omega
                · obtain rfl : k = j := by omega
                  have HA := Lib.hid (upto_next HALL.out (by rw [HEQ3.out]; exact freeC_good HFR.out))
                  go_wp2_with fail
                  go_roundw
                  case rel => exact Lib.hid ⟨k + 1, by go_num, by omega, HA.out, HR3.out⟩
                  case measure => simp [intOf]; omega
            · obtain ⟨y0, y1⟩ := pair_at (HPR.out.keep (Keep.of_below HR2.out.below (Nat.le_refl _) (fun _ => False)) (fun _ _ _ => id)) hy
              have b2 : decide (0 < k) = true := by simp [h2]
              by_cases h4 : x.r ≤ y.r
              · have HF := Lib.hid (HBAD.out (by rw [HEQ2.out, h3, decide_eq_false (show ¬ y.r < x.r by omega)]; rfl))
                have b4 : decide (x.r ≤ y.r) = true := decide_eq_true h4
                clear h3 hy HROW HEQ2
                go_wp2_with fail
                go_quiet (fail)
                go_wp2_with fail
                go_ret
                exact ⟨by rw [HF.out]; rfl, (HR2.out.drewN _).below⟩
              · have HEQ3 := Lib.hid (show pairAt l ps k = freeC ps k x.c by rw [HEQ2.out, h3, decide_eq_true (show y.r < x.r by omega), Bool.true_and])
                have b4 : decide (x.r ≤ y.r) = false := decide_eq_false h4
                clear h3 h4 hy HROW HEQ2
                go_wp2_with fail
                go_quiet (fail)
                go_wp2_with fail
                go_loopw [8] (fun i wr => Hid (∃ j : Nat, i = .int .i64 j ∧ j ≤ k ∧ (∀ (p : Nat) (y : PPair), p < j → ps[p]? = some y → y.c ≠ x.c) ∧ GrRel w rows cols (.slice eo n c) H0 wr)) (fun i _ => k - (intOf i).toNat)
                case atStart => exact Lib.hid ⟨0, rfl, Nat.zero_le _, fun p y h => absurd h (Nat.not_lt_zero p), HR2.out.drewN _⟩
                case round =>
                  obtain ⟨j, rfl, hj, hfree, hrel1⟩ := hrel.out
                  clear hrel
                  have HR3 := Lib.hid hrel1
                  have HFR := Lib.hid hfree
                  clear hrel1 hfree
                  by_cases hjk : j < k
                  · obtain ⟨z, hz⟩ : ∃ z, ps[j]? = some z := ⟨ps[j]'(by rw [HP.out]; omega), List.getElem?_eq_getElem _⟩
                    have hkb := Keep.of_below HR3.out.below (Nat.le_refl _) (fun _ => False)
                    obtain ⟨z0, z1⟩ := pair_at (HPR.out.keep hkb (fun _ _ _ => id)) hz
                    obtain ⟨v0, v1⟩ := pair_at (HPR.out.keep hkb (fun _ _ _ => id)) HX.out
                    have HZ := Lib.hid hz
                    clear hz hkb
                    by_cases h5 : z.c = x.c
                    · have HF := Lib.hid (HBAD.out (by rw [HEQ3.out]; exact freeC_bad hjk HZ.out h5))
                      have b5 : (z.c == x.c) = true := by simp [h5]
                      clear h5
                      go_wp2_with fail
                      go_quiet (fail)
                      go_wp2_with fail
                      go_ret
                      exact ⟨by rw [HF.out]; rfl, (HR3.out.drewN _).below⟩
                    · have HA := Lib.hid (show ∀ (p : Nat) (y : PPair), p < j + 1 → ps[p]? = some y → y.c ≠ x.c from fun p y hp hy => by
                        rcases Nat.lt_succ_iff_lt_or_eq.1 hp with hp | rfl
                        · exact HFR.out p y hp hy
                        · rw [HZ.out] at hy; cases hy; exact h5)
                      have b5 : (z.c == x.c) = false := by simp [h5]
                      clear h5
                      go_wp2_with fail
                      go_quiet (fail)
                      go_wp2_with fail
                      go_roundw
                      case rel => exact Lib.hid ⟨j + 1, by go_num, by omega, HA.out, HR3.out.drewN _⟩
                      case measure => simp [intOf]; omega
                  · obtain rfl : k = j := by omega
                    have HA := Lib.hid (upto_next HALL.out (by rw [HEQ3.out]; exact freeC_good HFR.out))
                    go_wp2_with fail
                    go_roundw
                    case rel => exact Lib.hid ⟨k + 1, by go_num, by omega, HA.out, HR3.out⟩
                    case measure => simp [intOf]; omega
    · obtain rfl : q = k := by omega
      have HF := Lib.hid (show matchF l ps = true from allF_good (fun j hj => HALL.out j (by rw [HP.out] at hj; exact hj)))
      go_wp2_with fail
      go_ret
      exact ⟨by rw [HF.out]; rfl, HR1.out.below⟩
end Go.Proofs.YtcaicgipibcicaaGreat
