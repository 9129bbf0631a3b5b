/- Chapter 18 in the program: sums of prices, the gap, the whole check. Printed by wip/genclaim4.py. -/
import Derived.Test.YtcaicgipibcicaaGreatQClaim3
namespace Go.Proofs.YtcaicgipibcicaaGreat
set_option maxRecDepth 100000
set_option linter.unusedVariables false
set_option linter.unusedSimpArgs false
open Go.RowKit Go.Sort

def sumV (o : Option Int) : Value := match o with
  | none => .tuple #[.int .i64 0, .bool false]
  | some n => .tuple #[.int .i64 n, .bool true]
theorem take_next {l : List Int} {j : Nat} {x : Int} (hx : l[j]? = some x) : l.take (j + 1) = l.take j ++ [x] := by
  have hj := (List.getElem?_eq_some_iff.1 hx).1
  rw [List.take_succ_eq_append_getElem hj, (List.getElem?_eq_some_iff.1 hx).2]
theorem allNat_append {l m : List Int} : allNat (l ++ m) = (allNat l && allNat m) := by simp [allNat]
theorem allNat_take {l : List Int} (h : allNat l = true) (j : Nat) : allNat (l.take j) = true :=
  allNat_good (fun i x hx => allNat_at h (j := i) (by
    rw [List.getElem?_take] at hx
    split at hx
    · exact hx
    · cases hx))
/-- A sum that is some number yet. -/
theorem sum_step {pre l : List Int} (hp : allNat pre = true) (hl : allNat l = true) {j : Nat} {x s : Int} (hx : l[j]? = some x) (hs : sumF 0 (pre ++ l.take j) = some s) : 0 ≤ s ∧ s ≤ 4611686018427387903 ∧ 0 ≤ x ∧
    (4611686018427387903 - s < x → ∀ post, sumF 0 (pre ++ l ++ post) = none) ∧ (x ≤ 4611686018427387903 - s → sumF 0 (pre ++ l.take (j + 1)) = some (s + x)) := by
  have h1 := sumF_in (pre ++ l.take j) 0 (by omega) (by omega) (by rw [allNat_append, hp, allNat_take hl]; rfl) s hs
  have hj := (List.getElem?_eq_some_iff.1 hx).1
  have hn : sumF 0 (pre ++ l.take (j + 1)) = if 4611686018427387903 - s < x then none else some (s + x) := by
    rw [take_next hx, ← List.append_assoc, sumF_snoc, hs]; rfl
  refine ⟨h1.1, h1.2, allNat_at hl hx, fun h post => ?_, fun h => by rw [hn, if_neg (by omega)]⟩
  rw [if_pos h] at hn
  have e : pre ++ l ++ post = (pre ++ l.take (j + 1)) ++ (l.drop (j + 1) ++ post) := by
    rw [List.append_assoc, List.append_assoc, ← List.append_assoc (l.take (j + 1)), List.take_append_drop]
  rw [e]
  exact sumF_none_append hn

set_option maxHeartbeats 8000000 in
theorem csum_any (w : World) (rows cols : Int) (yo zo : Option Addr) (m c' k c'' : Nat) (ev pv : Value) (ys zs : List Int) (hm : m ≤ 9007199254740992) (hk : k ≤ 9007199254740992)
    (hy : ys.length = m) (hyr : RdC w yo (cellsOf icell ys)) (hz : zs.length = k) (hzr : RdC w zo (cellsOf icell zs)) (hyn : allNat ys = true) (hzn : allNat zs = true) :
    Calls Tryz.prog 132 #[.agg #[.int .i64 rows, .int .i64 cols, ev, pv, .slice yo m c', .slice zo k c'']] w fun e w' => e = .returned (sumV (sumAll ys zs)) ∧ Below w.heap.size w w' := by
  have HY := Lib.hid hy
  have HYR := Lib.hid hyr
  have HZ := Lib.hid hz
  have HZR := Lib.hid hzr
  have HYN := Lib.hid hyn
  have HZN := Lib.hid hzn
  clear hy hyr hz hzr hyn hzn
  have i0 : ∀ w, (Instr.index 205 (.agg #[.slice yo m c', .slice zo k c'']) (.int .i64 0)).run Tryz.prog w = .ok (.slice yo m c') w := fun _ => by kernel_rfl
  have i1 : ∀ w, (Instr.index 205 (.agg #[.slice yo m c', .slice zo k c'']) (.int .i64 1)).run Tryz.prog w = .ok (.slice zo k c'') w := fun _ => by kernel_rfl
  have HW := Lib.hid (KlRel.begin w rows cols ev pv (.slice yo m c') (.slice zo k c''))
  go_enter Tryz.func132, Tryz.ntmps132
  go_wp2_with fail
  generalize w.alloc (.cells #[.int .i64 rows, .int .i64 cols, ev, pv, .slice yo m c', .slice zo k c''] 164) = W at *
  go_loop [4, 16] (fun a i => Hid (∃ (p : Nat) (s : Int), a = .int .i64 s ∧ i = .int .i64 p ∧ ((p = 0 ∧ sumF 0 [] = some s) ∨ (p = 1 ∧ sumF 0 ys = some s) ∨ (p = 2 ∧ sumF 0 (ys ++ zs) = some s)))) (fun _ i => 2 - (intOf i).toNat)
  case atStart => exact Lib.hid ⟨0, 0, rfl, rfl, .inl ⟨rfl, rfl⟩⟩
  case round =>
    obtain ⟨p, s, rfl, rfl, hp⟩ := hrel.out
    clear hrel
    rcases hp with ⟨rfl, hs⟩ | ⟨rfl, hs⟩ | ⟨rfl, hs⟩
    · have HS0 := Lib.hid hs
      clear hs
      go_wp2_with fail
      go_loop [4, 21] (fun a i => Hid (∃ (j : Nat) (t : Int), a = .int .i64 t ∧ i = .int .i64 j ∧ j ≤ m ∧ sumF 0 (([] : List Int) ++ ys.take j) = some t)) (fun _ i => m - (intOf i).toNat)
      case atStart => exact Lib.hid ⟨0, s, rfl, rfl, Nat.zero_le _, by rw [List.take_zero, List.append_nil]; exact HS0.out⟩
      case round =>
        obtain ⟨j, t, rfl, rfl, hj, ht⟩ := hrel.out
        clear hrel
        have HT := Lib.hid ht
        clear ht
        by_cases hlt : j < m
        · obtain ⟨x, hx⟩ : ∃ x, ys[j]? = some x := ⟨ys[j]'(by rw [HY.out]; exact hlt), List.getElem?_eq_getElem _⟩
          obtain ⟨b, o, rfl, _⟩ := HYR.out.place (by rw [cellsOf_length _ 1 icell_length, HY.out]; omega)
          have hc := int_at (HYR.out.keep (Keep.of_below HW.out.below (Nat.le_refl _) (fun _ => False)) (fun _ _ _ => id)) hx
          obtain ⟨s1, s2, s3, s4, s5⟩ := sum_step (pre := ([] : List Int)) rfl HYN.out hx HT.out
          have S4 := Lib.hid s4
          have S5 := Lib.hid s5
          clear hx s4 s5
          by_cases h0 : 4611686018427387903 - t < x
          · have HE := Lib.hid (show sumAll ys zs = none by have := S4.out h0 zs; simpa [sumAll] using this)
            go_wp2_with fail
            go_ret2
            exact ⟨by rw [HE.out]; rfl, HW.out.below⟩
          · have h0' : x ≤ 4611686018427387903 - t := by omega
            have HA := Lib.hid (S5.out h0')
            clear h0
            go_wp2_with fail
            go_round
            case rel => exact Lib.hid ⟨j + 1, t + x, by first | rfl | go_num, by go_num, by omega, HA.out⟩
            case measure => simp [intOf]; omega
        · obtain rfl : m = j := by omega
          have HA := Lib.hid (show sumF 0 (ys) = some t by
            have := HT.out
            rw [List.take_of_length_le (by rw [HY.out]; exact Nat.le_refl _)] at this
            simpa using this)
          go_wp2_with fail
          go_round
          case rel => exact Lib.hid ⟨1, t, rfl, by go_num, .inr <| .inl ⟨rfl, HA.out⟩⟩
          case measure => simp [intOf]
    · have HS0 := Lib.hid hs
      clear hs
      go_wp2_with fail
      go_loop [4, 21] (fun a i => Hid (∃ (j : Nat) (t : Int), a = .int .i64 t ∧ i = .int .i64 j ∧ j ≤ k ∧ sumF 0 (ys ++ zs.take j) = some t)) (fun _ i => k - (intOf i).toNat)
      case atStart => exact Lib.hid ⟨0, s, rfl, rfl, Nat.zero_le _, by rw [List.take_zero, List.append_nil]; exact HS0.out⟩
      case round =>
        obtain ⟨j, t, rfl, rfl, hj, ht⟩ := hrel.out
        clear hrel
        have HT := Lib.hid ht
        clear ht
        by_cases hlt : j < k
        · obtain ⟨x, hx⟩ : ∃ x, zs[j]? = some x := ⟨zs[j]'(by rw [HZ.out]; exact hlt), List.getElem?_eq_getElem _⟩
          obtain ⟨b, o, rfl, _⟩ := HZR.out.place (by rw [cellsOf_length _ 1 icell_length, HZ.out]; omega)
          have hc := int_at (HZR.out.keep (Keep.of_below HW.out.below (Nat.le_refl _) (fun _ => False)) (fun _ _ _ => id)) hx
          obtain ⟨s1, s2, s3, s4, s5⟩ := sum_step (pre := ys) HYN.out HZN.out hx HT.out
          have S4 := Lib.hid s4
          have S5 := Lib.hid s5
          clear hx s4 s5
          by_cases h0 : 4611686018427387903 - t < x
          · have HE := Lib.hid (show sumAll ys zs = none by have := S4.out h0 []; simpa [sumAll] using this)
            go_wp2_with fail
            go_ret2
            exact ⟨by rw [HE.out]; rfl, HW.out.below⟩
          · have h0' : x ≤ 4611686018427387903 - t := by omega
            have HA := Lib.hid (S5.out h0')
            clear h0
            go_wp2_with fail
            go_round
            case rel => exact Lib.hid ⟨j + 1, t + x, by first | rfl | go_num, by go_num, by omega, HA.out⟩
            case measure => simp [intOf]; omega
        · obtain rfl : k = j := by omega
          have HA := Lib.hid (show sumF 0 (ys ++ zs) = some t by
            have := HT.out
            rw [List.take_of_length_le (by rw [HZ.out]; exact Nat.le_refl _)] at this
            simpa using this)
          go_wp2_with fail
          go_round
          case rel => exact Lib.hid ⟨2, t, rfl, by go_num, .inr <| .inr ⟨rfl, HA.out⟩⟩
          case measure => simp [intOf]
    · have HE := Lib.hid (show sumAll ys zs = some s from hs)
      clear hs
      go_wp2_with fail
      go_ret2
      exact ⟨by rw [HE.out]; rfl, HW.out.below⟩

def gapE (es : List PEdge) (ps : List PPair) (ys zs : List Int) : Int := if gapB es ps ys zs then 0 else 182
set_option maxHeartbeats 8000000 in
theorem cgap_any (w : World) (rows cols : Int) (eo po yo zo : Option Addr) (n c q d m c' k c'' : Nat) (l : List PEdge) (ps : List PPair) (ys zs : List Int) (hg : graphF rows cols l = true) (hl : l.length = n) (hr : RdC w eo (cellsOf PEdge.cells l)) (hn : n ≤ 9007199254740992)
    (hp : ps.length = q) (hpr : RdC w po (cellsOf PPair.cells ps)) (hq : q ≤ 1048576) (hm : m ≤ 9007199254740992) (hk : k ≤ 9007199254740992)
    (hy : ys.length = m) (hyr : RdC w yo (cellsOf icell ys)) (hz : zs.length = k) (hzr : RdC w zo (cellsOf icell zs)) (hyn : allNat ys = true) (hzn : allNat zs = true) :
    Calls Tryz.prog 92 #[.agg #[.int .i64 rows, .int .i64 cols, .slice eo n c, .slice po q d, .slice yo m c', .slice zo k c'']] w fun e w' => e = .returned (.int .i64 (gapE l ps ys zs)) ∧ Below w.heap.size w w' := by
  have HG := Lib.hid hg
  have HP := Lib.hid hp
  have HPR := Lib.hid hpr
  have HWT := Lib.hid (fun wx hb r kk => weight_any wx rows cols eo n c (.slice po q d) (.slice yo m c') (.slice zo k c'') r kk l hg hl (hr.below hb) hn)
  have HSU := Lib.hid (fun wx hb => csum_any wx rows cols yo zo m c' k c'' (.slice eo n c) (.slice po q d) ys zs hm hk hy (hyr.below hb) hz (hzr.below hb) hyn hzn)
  clear hl hr hg hp hpr hy hyr hz hzr hyn hzn hm hk
  have HW := Lib.hid (KlRel.begin w rows cols (.slice eo n c) (.slice po q d) (.slice yo m c') (.slice zo k c''))
  go_enter Tryz.func92, Tryz.ntmps92
  go_wp2_with fail
  generalize w.alloc (.cells #[.int .i64 rows, .int .i64 cols, .slice eo n c, .slice po q d, .slice yo m c', .slice zo k c''] 164) = W at *
  have HHE := Lib.hid (show ∃ H0, w.heap.size = H0 from ⟨_, rfl⟩)
  obtain ⟨H0, hH0⟩ := HHE.out
  rw [hH0] at HW
  rw [hH0]
  have HH := Lib.hid hH0
  clear hH0 HHE
  go_loopw [3, 12] (fun a i wr => Hid (∃ j : Nat, a = .int .i64 (worthF l (ps.take j)) ∧ i = .int .i64 j ∧ j ≤ q ∧ KlRel w rows cols (.slice eo n c) (.slice po q d) (.slice yo m c') (.slice zo k c'') H0 wr)) (fun _ i _ => q - (intOf i).toNat)
  case atStart => exact Lib.hid ⟨0, rfl, rfl, Nat.zero_le _, HW.out⟩
  case round =>
    obtain ⟨j, rfl, rfl, hj, hrel1⟩ := hrel.out
    clear hrel
    obtain ⟨g0, g1, g2, g3, g4, g5⟩ := cells6 hrel1.g
    have hs0 : H0 < wr.heap.size := lt_of_block hrel1.g
    have HR1 := Lib.hid hrel1
    clear hrel1
    have hwb := worthF_bd HG.out (ps.take j)
    have hlen : (ps.take j).length ≤ 1048576 := by rw [List.length_take]; omega
    have hw1 := hwb.1
    have hw2 : worthF l (ps.take j) ≤ 1152923703634296211 := by have := hwb.2; omega
    clear hwb hlen
    by_cases hlt : j < q
    · obtain ⟨x, hx⟩ : ∃ x, ps[j]? = some x := ⟨ps[j]'(by rw [HP.out]; exact hlt), List.getElem?_eq_getElem _⟩
      obtain ⟨b, o, rfl, _⟩ := HPR.out.place (by rw [cellsOf_length _ 2 PPair.cells_length, HP.out]; omega)
      obtain ⟨x0, x1⟩ := pair_at (HPR.out.keep (Keep.of_below HR1.out.below (Nat.le_refl _) (fun _ => False)) (fun _ _ _ => id)) hx
      have hb0 : b < wr.heap.size := World.block_lt_of_cell? wr _ x0
      have HNX := Lib.hid (show worthF l (ps.take (j + 1)) = worthF l (ps.take j) + worthAt l x.r x.c by
        rw [List.take_succ_eq_append_getElem (List.getElem?_eq_some_iff.1 hx).1, (List.getElem?_eq_some_iff.1 hx).2, worthF_snoc])
      obtain ⟨v1, v2⟩ := worthAt_bd HG.out x.r x.c
      clear hx
      generalize worthF l (ps.take j) = A at *
      go_wp2_with fail
      have HR2 := Lib.hid (HR1.out.one (.cells #[.int .i64 x.r, .int .i64 x.c] 69))
      generalize wr.alloc (.cells #[.int .i64 x.r, .int .i64 x.c] 69) = W2 at *
      refine (HWT.out W2 HR2.out.below x.r x.c).mono ?_
      rintro e w2 ⟨rfl, hb2⟩
      have HR3 := Lib.hid (HR2.out.keep hb2)
      clear hb2 g0 g1 g2 g3 g4 g5 hs0 x0 x1 hb0
      generalize worthAt l x.r x.c = wt at *
      go_wp2_with fail
      go_roundw
      case rel => exact Lib.hid ⟨j + 1, by rw [HNX.out], by go_num, by omega, HR3.out⟩
      case measure => simp [intOf]; omega
    · obtain rfl : q = j := by omega
      have HFULL := Lib.hid (show worthF l (ps.take q) = worthF l ps by rw [List.take_of_length_le (by rw [HP.out]; exact Nat.le_refl _)])
      rw [HFULL.out] at hw1 hw2 ⊢
      clear HFULL
      have HGE := Lib.hid (show gapE l ps ys zs = if sumAll ys zs = some (worthF l ps) then 0 else 182 by unfold gapE gapB; by_cases h : sumAll ys zs = some (worthF l ps) <;> simp [h])
      generalize worthF l ps = A at *
      go_wp2_with fail
      refine (HSU.out wr HR1.out.below).mono ?_
      rintro e w2 ⟨rfl, hb2⟩
      have HB2 := Lib.hid (Below.next HR1.out.below hb2)
      clear hb2 g0 g1 g2 g3 g4 g5 hs0 HSU
      cases hsum : sumAll ys zs with
      | none =>
        rw [hsum] at HGE
        clear hsum
        have HE := Lib.hid (HGE.out.trans (if_neg (by simp)))
        simp only [sumV]
        go_wp2_with fail
        go_ret
        exact ⟨by rw [HE.out]; rfl, HB2.out⟩
      | some s =>
        rw [hsum] at HGE
        clear hsum
        simp only [sumV]
        by_cases h0 : s = A
        · have HE := Lib.hid (HGE.out.trans (if_pos (by rw [h0])))
          have h1 : (s != A) = false := by simp [h0]
          clear h0
          go_wp2_with fail
          go_ret
          exact ⟨by rw [HE.out]; rfl, HB2.out⟩
        · have HE := Lib.hid (HGE.out.trans (if_neg (by simp [h0])))
          have h1 : (s != A) = true := by simp [h0]
          clear h0
          go_wp2_with fail
          go_ret
          exact ⟨by rw [HE.out]; rfl, HB2.out⟩
end Go.Proofs.YtcaicgipibcicaaGreat

/- Chapter 18 in the program: pairs, and the whole check. -/
namespace Go.Proofs.YtcaicgipibcicaaGreat
set_option maxRecDepth 100000
set_option linter.unusedVariables false
set_option linter.unusedSimpArgs false
open Go.RowKit Go.Sort

theorem graphE_ok {rows cols : Int} {l : List PEdge} (h : graphE rows cols l = 0) : graphF rows cols l = true := by
  cases hg : graphF rows cols l with
  | true => rfl
  | false => simp [graphE, hg] at h
theorem pairsE_first (rows cols : Int) (es : List PEdge) (ps : List PPair) : firstE [graphE rows cols es, matchE es ps] = pairsE rows cols es ps := by
  unfold firstE firstE firstE pairsE matchE graphE
  cases graphF rows cols es <;> cases matchF es ps <;> rfl
theorem dualE_ok {es : List PEdge} {ys zs : List Int} (h : dualE es ys zs = 0) : allNat ys = true ∧ allNat zs = true := by
  unfold dualE holdF at h
  cases hy : allNat ys <;> cases hz : allNat zs <;> simp [hy, hz] at h ⊢
theorem lengthsE_ok {rows cols : Int} {n m : Nat} (h : lengthsE rows cols n m = 0) : (n : Int) = rows ∧ (m : Int) = cols := by
  unfold lengthsE at h
  split at h
  · assumption
  · cases h
theorem certE_first (rows cols : Int) (es : List PEdge) (ps : List PPair) (ys zs : List Int) : firstE [graphE rows cols es, matchE es ps, lengthsE rows cols ys.length zs.length, dualE es ys zs, gapE es ps ys zs] = certE rows cols es ps ys zs := by
  unfold certE
  rw [← pairsE_first]
  have hl : lengthsE rows cols ys.length zs.length = if lengthsB rows cols ys zs then 0 else 1 := by
    unfold lengthsE lengthsB
    by_cases h1 : (ys.length : Int) = rows <;> by_cases h2 : (zs.length : Int) = cols <;> simp [h1, h2]
  rw [hl]
  unfold boundE dualE gapE
  simp only [firstE]
  generalize graphE rows cols es = a
  generalize matchE es ps = b
  by_cases ha : a = 0 <;> by_cases hb : b = 0 <;> cases lengthsB rows cols ys zs <;> cases holdF es ys zs <;> cases gapB es ps ys zs <;> simp [ha, hb]

/-- The first error of some looks that have just been laid. -/
theorem first_laid (w W1 : World) (A n : Nat) (cl : Value) (gs : List Nat) (es : List Int) (cs : Array Value) (t : TypeId) (hgn : gs.length = n) (hen : es.length = n) (hn : n ≤ 9007199254740992) (hA : A = W1.heap.size) (hB : Below w.heap.size w W1)
    (hcs : cs = (gs.map fun g => Value.func (.func g) #[cl] #[]).toArray) (hent : ∀ g ∈ gs, ∀ args w, (callFunc g args).run Tryz.prog w = .ok (.enter g args) w)
    (hfn : ∀ (k : Nat) (g : Nat) (e : Int), gs[k]? = some g → es[k]? = some e → (∀ j : Nat, j < k → es[j]? = some 0) → ∀ wx, Below w.heap.size w wx → Calls Tryz.prog g #[cl] wx fun r w' => r = .returned (.int .i64 e) ∧ Below wx.heap.size wx w') :
    Calls Tryz.prog 87 #[.slice (some ⟨A, 0, none⟩) n n] (W1.alloc (.cells cs t)) fun e w' => e = .returned (.int .i64 (firstE es)) ∧ Below w.heap.size w w' := by
  subst hA
  have hb2 : Below w.heap.size w (W1.alloc (.cells cs t)) := hB.alloc hB.size _
  refine (first_any (W1.alloc (.cells cs t)) W1.heap.size n n cl gs es hgn hen hn (fun k g hg => ?_) hent (fun k g e hg he hz wx hb => hfn k g e hg he hz wx (Below.next hb2 hb))).mono ?_
  · rw [World.cell?_alloc_mark, hcs]
    simp [hg]
  · rintro e w' ⟨rfl, hb⟩
    exact ⟨rfl, Below.next hb2 hb⟩

set_option maxHeartbeats 8000000 in
theorem certpairs_any (w : World) (rows cols : Int) (eo po : Option Addr) (n c q d : Nat) (l : List PEdge) (ps : List PPair) (hl : l.length = n) (hr : RdC w eo (cellsOf PEdge.cells l)) (hn : n ≤ 9007199254740992)
    (hp : ps.length = q) (hpr : RdC w po (cellsOf PPair.cells ps)) (hq : q ≤ 9007199254740992) :
    Calls Tryz.prog 162 #[.agg #[.int .i64 rows, .int .i64 cols, .slice eo n c], .slice po q d] w fun e w' => e = .returned (.int .i64 (pairsE rows cols l ps)) ∧ Below w.heap.size w w' := by
  have hmf : ∀ (fn : Fn) (first cap : Array Value) (w : World), (Instr.makeFunc fn first cap).run Tryz.prog w = .ok (.func fn first cap) w := fun _ _ _ _ => rfl
  have HB := Lib.hid (((Below.refl w.heap.size w).alloc (Nat.le_refl _) (.cells #[.int .i64 rows, .int .i64 cols, .slice eo n c] 28)).alloc (by simp) (.cells #[.int .i64 rows, .int .i64 cols, .slice eo n c, .slice po q d, .slice none 0 0, .slice none 0 0] 164))
  have HF := Lib.hid (fun (k : Nat) (g : Nat) (e : Int) (hg : [88, 89][k]? = some g) (he : [graphE rows cols l, matchE l ps][k]? = some e) (hz : ∀ j : Nat, j < k → [graphE rows cols l, matchE l ps][j]? = some 0) (wy : World) (hby : Below w.heap.size w wy) => show Calls Tryz.prog g #[.agg #[.int .i64 rows, .int .i64 cols, .slice eo n c, .slice po q d, .slice none 0 0, .slice none 0 0]] wy (fun r w' => r = .returned (.int .i64 e) ∧ Below wy.heap.size wy w') from by
      match k, hg, he, hz with
      | 0, hg, he, hz =>
        simp at hg he; subst hg; subst he
        exact cgraph_any wy rows cols eo n c _ _ _ l hl (hr.below hby) hn
      | 1, hg, he, hz =>
        simp at hg he; subst hg; subst he
        have h0 := hz 0 (by omega)
        simp at h0
        exact cpairs_any wy rows cols eo po n c q d _ _ l ps (graphE_ok h0) hl (hr.below hby) hn hp (hpr.below hby) hq)
  have HFE := Lib.hid (pairsE_first rows cols l ps)
  clear hl hr hp hpr
  go_enter Tryz.func162, Tryz.ntmps162
  go_wp2_with fail
  refine (first_laid w _ _ 2 _ _ _ _ _ rfl rfl (by omega) (by simp) HB.out rfl (fun g hg args w => by
      simp only [List.mem_cons, List.not_mem_nil, or_false] at hg
      rcases hg with rfl | rfl
      · exact enter_graph args w
      · exact enter_pairs args w) HF.out).mono ?_
  rintro e w' ⟨rfl, hb⟩
  have HB2 := Lib.hid hb
  rw [HFE.out]
  clear hb HF HB HFE
  go_wp2_with fail
  go_ret
  exact ⟨rfl, HB2.out⟩

set_option maxHeartbeats 8000000 in
theorem certcheck_any (w : World) (rows cols : Int) (eo po yo zo : Option Addr) (n c q d m c' k c'' : Nat) (l : List PEdge) (ps : List PPair) (ys zs : List Int) (hl : l.length = n) (hr : RdC w eo (cellsOf PEdge.cells l)) (hn : n ≤ 9007199254740992)
    (hp : ps.length = q) (hpr : RdC w po (cellsOf PPair.cells ps)) (hq : q ≤ 1048576) (hm : m ≤ 9007199254740992) (hk : k ≤ 9007199254740992)
    (hy : ys.length = m) (hyr : RdC w yo (cellsOf icell ys)) (hz : zs.length = k) (hzr : RdC w zo (cellsOf icell zs)) (hyo : ∀ x ∈ ys, i64ok x) :
    Calls Tryz.prog 51 #[.agg #[.int .i64 rows, .int .i64 cols, .slice eo n c], .agg #[.slice po q d, .slice yo m c', .slice zo k c'']] w fun e w' => e = .returned (.int .i64 (certE rows cols l ps ys zs)) ∧ Below w.heap.size w w' := by
  have hmf : ∀ (fn : Fn) (first cap : Array Value) (w : World), (Instr.makeFunc fn first cap).run Tryz.prog w = .ok (.func fn first cap) w := fun _ _ _ _ => rfl
  have HB := Lib.hid ((((Below.refl w.heap.size w).alloc (Nat.le_refl _) (.cells #[.int .i64 rows, .int .i64 cols, .slice eo n c] 28)).alloc (by simp) (.cells #[.slice po q d, .slice yo m c', .slice zo k c''] 32)).alloc (by simp; omega) (.cells #[.int .i64 rows, .int .i64 cols, .slice eo n c, .slice po q d, .slice yo m c', .slice zo k c''] 164))
  have HFE := Lib.hid (certE_first rows cols l ps ys zs)
  rw [hy, hz] at HFE
  have HF := Lib.hid (fun (p : Nat) (g : Nat) (e : Int) (hg : [88, 89, 90, 91, 92][p]? = some g) (he : [graphE rows cols l, matchE l ps, lengthsE rows cols m k, dualE l ys zs, gapE l ps ys zs][p]? = some e) (hzz : ∀ j : Nat, j < p → [graphE rows cols l, matchE l ps, lengthsE rows cols m k, dualE l ys zs, gapE l ps ys zs][j]? = some 0) (wy : World) (hby : Below w.heap.size w wy) => show Calls Tryz.prog g #[.agg #[.int .i64 rows, .int .i64 cols, .slice eo n c, .slice po q d, .slice yo m c', .slice zo k c'']] wy (fun r w' => r = .returned (.int .i64 e) ∧ Below wy.heap.size wy w') from by
      match p, hg, he, hzz with
      | 0, hg, he, hzz =>
        simp at hg he; subst hg; subst he
        exact cgraph_any wy rows cols eo n c _ _ _ l hl (hr.below hby) hn
      | 1, hg, he, hzz =>
        simp at hg he; subst hg; subst he
        have h0 := hzz 0 (by omega)
        simp at h0
        exact cpairs_any wy rows cols eo po n c q d _ _ l ps (graphE_ok h0) hl (hr.below hby) hn hp (hpr.below hby) (by omega)
      | 2, hg, he, hzz =>
        simp at hg he; subst hg; subst he
        exact clengths_any wy rows cols yo zo m k c' c'' _ _
      | 3, hg, he, hzz =>
        simp at hg he; subst hg; subst he
        have h0 := hzz 0 (by omega)
        have h2 := hzz 2 (by omega)
        simp at h0 h2
        have h3 := lengthsE_ok h2
        exact cdual_any wy rows cols eo yo zo n c m c' k c'' _ l ys zs (graphE_ok h0) hl (hr.below hby) hn hy (hyr.below hby) h3.1 hz (hzr.below hby) h3.2 hyo
      | 4, hg, he, hzz =>
        simp at hg he; subst hg; subst he
        have h0 := hzz 0 (by omega)
        have h3 := hzz 3 (by omega)
        simp at h0 h3
        have h4 := dualE_ok h3
        exact cgap_any wy rows cols eo po yo zo n c q d m c' k c'' l ps ys zs (graphE_ok h0) hl (hr.below hby) hn hp (hpr.below hby) hq hm hk hy (hyr.below hby) hz (hzr.below hby) h4.1 h4.2)
  clear hl hr hp hpr hy hyr hz hzr hyo hm hk
  go_enter Tryz.func51, Tryz.ntmps51
  go_wp2_with fail
  refine (first_laid w _ _ 5 _ _ _ _ _ rfl rfl (by omega) (by simp) HB.out rfl (fun g hg args w => by
      simp only [List.mem_cons, List.not_mem_nil, or_false] at hg
      rcases hg with rfl | rfl | rfl | rfl | rfl
      · exact enter_graph args w
      · exact enter_pairs args w
      · exact enter_lengths args w
      · exact enter_dual args w
      · exact enter_gap args w) HF.out).mono ?_
  rintro e w' ⟨rfl, hb⟩
  have HB2 := Lib.hid hb
  rw [HFE.out]
  clear hb HF HB HFE
  go_wp2_with fail
  go_ret
  exact ⟨rfl, HB2.out⟩
end Go.Proofs.YtcaicgipibcicaaGreat
