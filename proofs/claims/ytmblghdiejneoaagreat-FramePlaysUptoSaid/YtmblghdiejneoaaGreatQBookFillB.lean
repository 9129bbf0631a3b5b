/- The Book fills the lists of bytes with marks. (Printed by genbytes.py.) -/
import Derived.Test.YtmblghdiejneoaaGreatQBookFill
import Derived.Test.YtmblghdiejneoaaGreatQTwin
namespace Go.Proofs.YtmblghdiejneoaaGreat
set_option maxRecDepth 100000
open Go.RowKit

/-- The mark of a list of bytes. -/
def bm (n : Nat) : Nat := 1 + n % 255
def bmark (n : Nat) : List Value := [.int .u8 ((bm n : Nat) : Int)]
theorem markByte_bel (n : Nat) (w : World) (hn : n ≤ 10000000) : Calls Tryz.prog 24 #[.int .i64 n] w fun e w' => e = .returned (.int .u8 ((bm n : Nat) : Int)) ∧ Below w.heap.size w w' :=
  (markByte_any n w (by omega)).mono fun _ _ ⟨h, hw⟩ => ⟨h, by subst hw; exact Below.refl _ _⟩
theorem isByte_bel (n : Nat) (w : World) (hn : n ≤ 10000000) : Calls Tryz.prog 27 #[.int .u8 ((bm n : Nat) : Int), .int .i64 n] w fun e w' => e = .returned (.bool true) ∧ Below w.heap.size w w' :=
  (isByte_any n w (by omega)).mono fun _ _ ⟨h, hw⟩ => ⟨h, by subst hw; exact Below.refl _ _⟩

/-- The cell of an element that a row has. -/
theorem Own.elem1 {w : World} {g cap n : Nat} {xs : List Value} (h : Own w 1 (.slice (some ⟨g, 0, none⟩) n cap) n xs) {k : Nat} (hk : k < n) :
    ∃ a0, w.cell? ⟨g, k, none⟩ = some a0 ∧ w.frozen? ⟨g, k, none⟩ = false := by
  rcases h.2 with ⟨h0, _⟩ | ⟨g', cap', he, hn, hm, hr⟩
  · cases h0
  · cases he
    obtain ⟨u, hu⟩ := Option.isSome_iff_exists.1 (hr.there k (by omega))
    exact ⟨u, hu, hr.free k (by omega)⟩

set_option maxHeartbeats 4000000 in
theorem fillByte_any (w : World) (K n m : Nat) (B F : Value) (f : Nat → Held) (hb : BookAt w K n F B) (hF : Own w 3 F m (hcells f L0 m)) (hk : Kept K F f m)
    (hl : ∀ i, i < m → ∃ xs, Own w 1 (f i).v (f i).k xs) :
    Calls Tryz.prog 31 #[.pointer (some ⟨K, 0, none⟩)] w fun e w' => e = .returned (.tuple #[]) ∧ (∀ i, i < m → Own w' 1 (f i).v (f i).k (marks (bmark (f i).n) (f i).k)) ∧ Keep (fun k => ∃ i, i < m ∧ (f i).v.ownBlock = some k) w w' := by
  have HB := Lib.hid hb
  have HF := Lib.hid hF
  have HK := Lib.hid hk
  have HL := Lib.hid hl
  have hms := hk.small
  clear hb hF hk hl
  obtain ⟨fa, fc, rfl, hfs⟩ := own_shape HF.out
  have HFS := Lib.hid hfs
  clear hfs
  have keep : ∀ wr, Keep (fun k => ∃ i, i < m ∧ (f i).v.ownBlock = some k) w wr → BookAt wr K n (.slice fa m fc) B ∧ Own wr 3 (.slice fa m fc) m (hcells f L0 m) := fun wr h =>
    ⟨h.old HB.out (fun ⟨i, hi, hg⟩ => (HK.out.off i hi K hg).1 rfl), HF.out.keep h (fun g hg ⟨i, hi, hg'⟩ => (HK.out.off i hi g hg').2 hg)⟩
  have KP := Lib.hid keep
  clear keep
  go_enter Tryz.func31, Tryz.ntmps31
  go_wp2_with fail
  go_loopw [2] (fun i wr => Hid (∃ j : Nat, i = .int .i64 j ∧ j ≤ m ∧ (∀ i, i < j → Own wr 1 (f i).v (f i).k (marks (bmark (f i).n) (f i).k)) ∧ (∀ i, j ≤ i → i < m → ∃ xs, Own wr 1 (f i).v (f i).k xs) ∧ Keep (fun k => ∃ i, i < m ∧ (f i).v.ownBlock = some k) w wr)) (fun i _ => m - (intOf i).toNat)
  case atStart => exact Lib.hid ⟨0, rfl, Nat.zero_le _, fun _ h => absurd h (Nat.not_lt_zero _), fun i _ hi => HL.out i hi, Keep.refl _ _⟩
  case round =>
    obtain ⟨j, rfl, hj, hdone, hrest, hkw⟩ := hrel.out
    have HD := Lib.hid hdone
    have HR := Lib.hid hrest
    have HW := Lib.hid hkw
    clear hdone hrest hkw hrel
    obtain ⟨HB1, HF1⟩ := KP.out _ HW.out
    obtain ⟨c0, c2, c20, cf, hKl⟩ := book_cells HB1
    have HF2 := Lib.hid HF1
    clear HB1 HF1
    by_cases hlt : j < m
    · obtain ⟨g0, rfl⟩ := HFS.out (by omega)
      obtain ⟨e0, e1, e2⟩ := hcells_get f L0 m j hlt
      have d0 := HF2.out.cellAt e0
      have d1 := HF2.out.cellAt e1
      have d2 := HF2.out.cellAt e2
      clear e0 e1 e2
      obtain ⟨xs, hxs⟩ := HR.out j (Nat.le_refl _) hlt
      obtain ⟨la, lc, hv, hls⟩ := own_shape hxs
      have hoff := HK.out.off j hlt
      have hXS := Lib.hid hxs
      have hLS := Lib.hid hls
      have HV := Lib.hid hv
      rw [hv] at d0
      rw [show L0 j = Value.slice none 0 0 from rfl] at d1
      clear hls hxs hv
      have hgl : ∀ g, (f j).v.ownBlock = some g → g < w.heap.size := by
        obtain ⟨ys, hy⟩ := HL.out j hlt
        exact hy.lt
      have hkn := HK.out.num j hlt
      have hkl := HK.out.len j hlt
      go_wp2_with fail
      have hHw := HW.out.size
      have HH := Lib.hid (heap_alloc_new wr (.cells #[Value.slice la (f j).k lc, Value.slice none 0 0, Value.int IntKind.i64 ((f j).n : Int)] 107))
      have HA := Lib.hid (Keep.alloc (fun _ => False) wr (.cells #[Value.slice la (f j).k lc, Value.slice none 0 0, Value.int IntKind.i64 ((f j).n : Int)] 107))
      generalize wr.alloc (.cells #[Value.slice la (f j).k lc, Value.slice none 0 0, Value.int IntKind.i64 ((f j).n : Int)] 107) = W1 at *
      have HD1 := Lib.hid (show ∀ i, i < j → Own W1 1 (f i).v (f i).k (marks (bmark (f i).n) (f i).k) from fun i hi => (HD.out i hi).keep HA.out (fun _ _ => id))
      have HR1 := Lib.hid (show ∀ i, j ≤ i → i < m → ∃ xs, Own W1 1 (f i).v (f i).k xs from fun i hi him => (HR.out i hi him).imp fun _ h => h.keep HA.out (fun _ _ => id))
      have HX1 := Lib.hid (hXS.out.keep HA.out (fun _ _ => id))
      have HW1 := Lib.hid (HW.out.trans HA.out (fun _ _ h => h) (fun _ _ h => h.elim))
      generalize wr.heap.size = H at *
      clear HD HR hXS HW HA HF2 c0 c2 c20 cf hKl d0 d1 d2
      go_loopw [4] (fun i wx => Hid (∃ q : Nat, i = .int .i64 q ∧ q ≤ (f j).k ∧ Keep (fun k => (f j).v.ownBlock = some k) W1 wx ∧ ∃ r, Own wx 1 (f j).v (f j).k (marks (bmark (f j).n) q ++ r))) (fun i _ => (f j).k - (intOf i).toNat)
      case atStart => exact Lib.hid ⟨0, rfl, Nat.zero_le _, Keep.refl _ _, xs, HX1.out.first _⟩
      case round =>
        obtain ⟨q, rfl, hq, hkq, r, hoq⟩ := hrel.out
        have hbH := hkq.old HH.out (fun h => by have := hgl _ h; omega)
        have h0 : wr.cell? ⟨H, 0, none⟩ = some (.slice la (f j).k lc) := by simp [World.cell?, hbH]
        have h2 : wr.cell? ⟨H, 2, none⟩ = some (.int .i64 ((f j).n : Int)) := by simp [World.cell?, hbH]
        have HKQ := Lib.hid hkq
        have HOQ := Lib.hid hoq
        have HbH := Lib.hid hbH
        clear hrel hkq hoq hbH
        by_cases hltq : q < (f j).k
        · obtain ⟨g, rfl⟩ := hLS.out (by omega)
          have hov := HOQ.out
          rw [HV.out] at hov
          obtain ⟨a0, b0, hfz⟩ := hov.elem1 hltq
          have HOV := Lib.hid hov
          have hgw : g < w.heap.size := hgl g (by rw [HV.out]; rfl)
          clear hov
          go_wp2_with fail
          go_region_with (go_at_call 24; refine (markByte_bel _ _ hkn).mono ?_; rintro e w3 ⟨rfl, hb3⟩; have hk3 := (Keep.drew (fun _ => False) wr).trans (Keep.of_below hb3 (Nat.le_refl _) (fun _ => False)) (Z := fun _ => False) (fun _ _ h => h) (fun _ _ h => h); obtain ⟨x0, y0, z0⟩ := (HOV.out.keep hk3 (fun _ _ => id)).elem1 hltq; have e0 := hk3.cell h0 id; have e2 := hk3.cell h2 id; have HK3 := Lib.hid hk3; clear hb3 hk3)
          all_goals
            have hm := Own.mark (size := 1) (c := bmark (f j).n) rfl (HOV.out.keep HK3.out (fun _ _ => id)) hltq
            rw [← HV.out, Nat.mul_one] at hm
            have HN := Lib.hid (show Own (w3.setCell ⟨g, q, none⟩ (.int .u8 ((bm (f j).n : Nat) : Int))) 1 (f j).v (f j).k (marks (bmark (f j).n) (q + 1) ++ r.drop 1) from hm)
            have HKN := Lib.hid (show Keep (fun k => (f j).v.ownBlock = some k) W1 (w3.setCell ⟨g, q, none⟩ (.int .u8 ((bm (f j).n : Nat) : Int))) from (HKQ.out.trans HK3.out (fun _ _ h => h) (fun _ _ h => h.elim)).trans (Keep.setCells w3 g q (bmark (f j).n)) (fun _ _ h => h) (fun k _ h => by rw [HV.out, h]; rfl))
            clear hm
            generalize w3.setCell ⟨g, q, none⟩ (.int .u8 ((bm (f j).n : Nat) : Int)) = W4 at *
            go_wp2_with fail
            go_roundw
            case rel => exact Lib.hid ⟨q + 1, by go_num, by omega, HKN.out, _, HN.out⟩
            case measure => simp [intOf]; omega
        · obtain rfl : q = (f j).k := by omega
          have HF3 := Lib.hid (HOQ.out.full rfl)
          go_wp2_with fail
          go_roundw
          case rel =>
            refine Lib.hid ⟨j + 1, by go_num, by omega, fun i hi => ?_, fun i hi him => (HR1.out i (by omega) him).imp fun _ h => h.keep HKQ.out (fun g hg => HK.out.apart i j him hlt (by omega) g hg), HW1.out.trans HKQ.out (fun _ _ h => h) (fun k _ h => ⟨j, hlt, h⟩)⟩
            by_cases hij : i = j
            · subst hij; exact HF3.out
            · exact (HD1.out i (by omega)).keep HKQ.out (fun g hg => HK.out.apart i j (by omega) hlt hij g hg)
          case measure => simp [intOf]; omega
    · obtain rfl : j = m := by omega
      go_wp2_with fail
      refine bodyPost_end (v := .tuple #[]) (by simp [results, Tryz.results31, go_sem]) rfl ⟨rfl, HD.out, HW.out⟩
end Go.Proofs.YtmblghdiejneoaaGreat
