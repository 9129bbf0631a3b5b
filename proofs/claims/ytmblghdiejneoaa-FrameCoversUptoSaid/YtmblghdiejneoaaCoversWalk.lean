/- FrameCovers: the walk. -/
import Derived.Test.YtmblghdiejneoaaCovers
namespace Go.Proofs.Ytmblghdiejneoaa
open Go.RowKit

/-- Was the frame ahead of place i a bad stretch? -/
def pbOf (L : List Fr) (i : Nat) : Bool := match i with
  | 0 => false
  | i + 1 => match L[i]? with
    | some x => x.kind == 2
    | none => false

def CovRel (w1 : World) (b : List UInt8) (L : List Fr) (at_ i : Value) (wr : World) : Prop :=
  ∃ p j : Nat, at_ = .int .i64 p ∧ i = .int .i64 j ∧ j ≤ L.length ∧ p ≤ b.length ∧ Cov b p (pbOf L j) (L.drop j) ∧ Below w1.heap.size w1 wr

theorem Cov.le {b : List UInt8} : ∀ {L : List Fr} {p : Nat} {pb : Bool}, p ≤ b.length → Cov b p pb L → ∀ x ∈ L, x.pos ≤ b.length ∧ x.size ≤ b.length
  | [], _, _, _, _, _, hx => by cases hx
  | y :: L, p, pb, hp, h, x, hx => by
    obtain ⟨h1, h2, h3, h4⟩ := h
    rcases List.mem_cons.1 hx with rfl | hx
    · exact ⟨by omega, by omega⟩
    · rcases h4 with ⟨_, _, _, h5⟩ | ⟨_, _, _, _, h5⟩
      · exact Cov.le (by omega) h5 x hx
      · exact Cov.le (by omega) h5 x hx

theorem splitF_len (b : List UInt8) : (splitF b).length ≤ 4 * b.length + 1 := by
  have h1 := feedF_len d0 b
  have h2 := closeF_len (feedF d0 b).2
  unfold splitF
  rw [List.length_append]
  simp [d0] at h1
  simp only [d0] at h2 ⊢
  omega

theorem pb_false {L : List Fr} {j : Nat} (h : pbOf L (j + 1) = false) (y : Fr) (hy : L[j]? = some y) : ((y.kind : Int) == 2) = false := by
  unfold pbOf at h
  simp only [hy] at h
  have : ¬ y.kind = 2 := by simpa using h
  simp; omega

theorem four_block {w : World} {D : Nat} {a b c d : Value} {t : TypeId} (h : w.heap[D]? = some (.cells #[a, b, c, d] t (0, 0))) :
    w.cell? ⟨D, 0, none⟩ = some a ∧ w.cell? ⟨D, 1, none⟩ = some b ∧ w.cell? ⟨D, 2, none⟩ = some c ∧ w.cell? ⟨D, 3, none⟩ = some d ∧ (∀ j, w.frozen? ⟨D, j, none⟩ = false) := by
  refine ⟨?_, ?_, ?_, ?_, fun j => ?_⟩ <;> simp [World.cell?, World.frozen?, h]

set_option maxRecDepth 100000 in
set_option maxHeartbeats 8000000 in
theorem covers_any (w : World) (ao : Option Addr) (k c : Nat) (b : List UInt8) (hbk : b.length = k) (hrb : Rd w ao b) (hkc : k ≤ c) (hk : k ≤ 1048576) :
    Calls Try.prog 4 #[.slice ao k c] w fun e w' => e = .returned (.bool true) ∧ Below w.heap.size w w' := by
  have hlen := Lib.hid hbk
  have HR := Lib.hid hrb
  clear hbk hrb
  go_enter Try.func4, Try.ntmps4
  go_wp2_with fail
  refine (split_any _ ao k c b hlen.out HR.out (by omega)).mono ?_
  rintro e w1 ⟨v, rfl, ho1, hb1, hv1⟩
  have hL : splitF b = total b := split_total b (by rw [hlen.out]; omega)
  have hnle := splitF_len b
  rw [hlen.out] at hnle
  have hcov := cov_total b
  rw [hL] at ho1 hnle
  generalize total b = L at *
  clear hL
  obtain ⟨ao1, cap1, hv, hcap1⟩ : ∃ ao1 cap1, v = .slice ao1 L.length cap1 ∧ (0 < L.length → ∃ g, ao1 = some ⟨g, 0, none⟩) := by
    rcases ho1.2 with ⟨h, h0⟩ | ⟨g, cap, h, _⟩
    · exact ⟨none, 0, by rw [h, h0], fun h => by omega⟩
    · exact ⟨_, cap, h, fun _ => ⟨g, rfl⟩⟩
  subst hv
  have HO1 := Lib.hid ho1
  have HB1 := Lib.hid hb1
  have HC := Lib.hid hcov
  have HA := Lib.hid hcap1
  have HK1 := Lib.hid (show Rd w1 ao b from Below.rd hb1 HR.out (Nat.le_refl _))
  have hst := Lib.hid (show CovRel w1 b L (.int .i64 0) (.int .i64 0) w1 from ⟨0, 0, rfl, rfl, Nat.zero_le _, Nat.zero_le _, hcov, Below.refl _ _⟩)
  clear ho1 hb1 hcov hcap1 hv1
  have heq := eq_frame'
  go_wp2_with fail
  go_loopw [4, 5] (fun a i wr => Hid (CovRel w1 b L a i wr)) (fun _ i _ => L.length - (intOf i).toNat)
  case atStart => exact hst
  case round =>
    obtain ⟨p, j, rfl, rfl, hj, hp, hcv, hbr⟩ := hrel.out
    rw [hlen.out] at hp
    have HBR := Lib.hid hbr
    have HCV := Lib.hid hcv
    have hw1r : w1.heap.size ≤ wr.heap.size := hbr.size
    clear hcv hbr hrel
    by_cases hlt : j < L.length
    · obtain ⟨g, rfl⟩ := HA.out (by omega)
      obtain ⟨x, hx⟩ : ∃ x, L[j]? = some x := ⟨L[j], List.getElem?_eq_getElem hlt⟩
      have hdrop : L.drop j = x :: L.drop (j + 1) := by
        rw [List.drop_eq_getElem_cons hlt]
        rw [List.getElem?_eq_getElem hlt] at hx
        cases hx; rfl
      have hcx := HCV.out
      rw [hdrop] at hcx
      obtain ⟨hpos, hs1, hs2, hcase⟩ := hcx
      rw [hlen.out] at hs2
      obtain ⟨b', o, rfl, hbw⟩ := HR.out.place (by rw [hlen.out]; omega)
      have hrr := Lib.hid (Below.rd HBR.out HK1.out (Nat.le_refl _))
      have hOr := HO1.out.keep (Keep.of_below HBR.out (Nat.le_refl _) (fun _ => False)) (fun _ _ => id)
      obtain ⟨a0, a1, a2, a3⟩ := hOr.frame j x hx
      rw [hpos] at a1
      have hgr : g < wr.heap.size := hOr.lt g rfl
      have HOR := Lib.hid hOr
      have HPOS := Lib.hid hpos
      have HX := Lib.hid hx
      have HCASE := Lib.hid hcase
      have HBX := Lib.hid (show Below w1.heap.size w1 (wr.alloc (.cells #[.int .u8 x.kind, .int .i64 p, .int .i64 x.size, .string ⟨x.content.toArray⟩] 33)) from HBR.out.alloc hw1r _)
      have htk : ((b.drop p).take x.size).length = x.size := by rw [List.length_take, List.length_drop, hlen.out]; omega
      have hcv := conv_str (P := Try.prog) (wr.alloc (.cells #[.int .u8 x.kind, .int .i64 p, .int .i64 x.size, .string ⟨x.content.toArray⟩] 33)) 28 9 5 Try.underlying28 Try.underlying5 Try.underlying9 (some ⟨b', o + p, none⟩) x.size (c - p) _ htk (((hrr.out.drop p).take x.size).keep (Keep.alloc (fun _ => False) _ _) id)
      clear hpos hx hdrop hOr htk
      rcases hcase with ⟨hk1, hc4, htake, hnext⟩ | ⟨hk2, hce, hpb, hbad, hnext⟩
      · rw [htake] at hcv
        have hk1' : ((x.kind : Nat) : Int) = 1 := by rw [hk1]; rfl
        rw [hk1'] at a0 hcv HBX
        have HPK := Lib.hid (fun w => pack_fits ⟨x.content.toArray⟩ w (by simp [ByteArray.size]; exact hc4))
        simp only at HPK
        have HNX := Lib.hid hnext
        generalize hS : (⟨(frameL x.content).toArray⟩ : ByteArray) = S at *
        generalize hCt : (⟨x.content.toArray⟩ : ByteArray) = Ct at *
        clear hnext hc4 htake HCASE
        go_wp2_with fail
        refine (HPK.out _).mono ?_
        rintro e w2 ⟨rfl, hb2⟩
        have HB2 := Lib.hid (show Below w1.heap.size w1 w2 from Below.next HBX.out hb2)
        have hX2 : w2.heap[wr.heap.size]? = some (.cells #[.int .u8 1, .int .i64 p, .int .i64 x.size, .string Ct] 33 (0, 0)) := (Keep.of_below hb2 (Nat.le_refl _) (fun _ => False)).old (heap_alloc_new wr _) id
        obtain ⟨e0, e1, e2, e3, efr⟩ := four_block hX2
        have hrel2 := Lib.hid (show CovRel w1 b L (.int .i64 ((p + x.size : Nat) : Int)) (.int .i64 ((j + 1 : Nat) : Int)) w2 from by
          refine ⟨p + x.size, j + 1, rfl, rfl, by omega, by rw [hlen.out]; omega, ?_, HB2.out⟩
          have : pbOf L (j + 1) = false := by
            unfold pbOf
            simp only [HX.out, hk1]
            rfl
          rw [this]
          exact HNX.out)
        clear hb2 hX2 hcv a0 a1 a2 a3
        go_wp2_with fail
        refine wp_loop_rounds 1 ?_
        rw [rounds_succ]
        go_wp2_with fail
        go_roundw
        case rel => exact hrel2.out
        case measure => simp [intOf]; omega
      · have hk2' : ((x.kind : Nat) : Int) = 2 := by rw [hk2]; rfl
        rw [hk2', hce] at hcv HBX
        rw [hk2'] at a0
        rw [hce] at a3
        have hpre : 0 < j → ∃ q : Int, wr.cell? ⟨g, (j - 1) * 4, none⟩ = some (.int .u8 q) ∧ (q == 2) = false := by
          intro h
          obtain ⟨j', rfl⟩ : ∃ m, j = m + 1 := ⟨j - 1, by omega⟩
          have hy : L[j']? = some L[j'] := List.getElem?_eq_getElem (by omega)
          exact ⟨_, (HOR.out.frame j' _ hy).1, pb_false hpb _ hy⟩
        have HBAD := Lib.hid hbad
        have hrel2 := Lib.hid (show ∀ w2, Below w1.heap.size w1 w2 → CovRel w1 b L (.int .i64 ((p + x.size : Nat) : Int)) (.int .i64 ((j + 1 : Nat) : Int)) w2 from by
          intro w2 hb2
          refine ⟨p + x.size, j + 1, rfl, rfl, by omega, by rw [hlen.out]; omega, ?_, hb2⟩
          have : pbOf L (j + 1) = true := by
            unfold pbOf
            simp only [HX.out, hk2]
            rfl
          rw [this]
          exact hnext)
        have hX0 := Lib.hid (heap_alloc_new wr (.cells #[.int .u8 2, .int .i64 p, .int .i64 x.size, .string ⟨[].toArray⟩] 33))
        generalize hS : (⟨((b.drop p).take x.size).toArray⟩ : ByteArray) = S at *
        have hst2 : ∀ (h : True), ∃ q : Nat, (0 : Nat) = q := fun _ => ⟨0, rfl⟩
        clear hbad hnext hpb HCASE hst2 HOR
        by_cases hj0 : j = 0
        · subst hj0
          clear hpre
          go_wp2_with fail
          rw [Nat.add_sub_cancel_left]
          go_loopw [10] (fun kk wi => Hid (∃ q : Nat, kk = .int .i64 q ∧ q ≤ x.size ∧ Keep (fun _ => False) (wr.alloc (.cells #[.int .u8 2, .int .i64 p, .int .i64 x.size, .string ⟨#[]⟩] 33)) wi)) (fun kk _ => x.size - (intOf kk).toNat)
          case atStart => exact Lib.hid ⟨0, rfl, Nat.zero_le _, Keep.refl _ _⟩
          case round =>
            obtain ⟨q, rfl, hq, hki⟩ := hrel.out
            have hX2 := hki.old hX0.out id
            obtain ⟨e0, e1, e2, e3, efr⟩ := four_block hX2
            have HKI := Lib.hid hki
            have hrb2 : Rd wr (some ⟨b', o, none⟩) b := hki.rd ((Keep.alloc (fun _ => False) _ _).rd hrr.out (fun _ _ _ => id)) (fun _ _ _ => id)
            have HR2 := Lib.hid hrb2
            clear hki hX2 hrel hrb2
            by_cases hqx : q < x.size
            · have hdl : (b.drop (p + q)).length = k - (p + q) := by rw [List.length_drop, hlen.out]
              have hcv2 := conv_str (P := Try.prog) wr 28 9 5 Try.underlying28 Try.underlying5 Try.underlying9 (some ⟨b', o + (p + q), none⟩) (k - (p + q)) (c - (p + q)) _ hdl (HR2.out.drop (p + q))
              have HW0 := Lib.hid (lwhole_any ⟨(b.drop (p + q)).toArray⟩ wr (by simp [ByteArray.size, hlen.out]; omega) (by simpa using HBAD.out q hqx))
              generalize hS2 : (⟨(b.drop (p + q)).toArray⟩ : ByteArray) = S2 at *
              clear hdl
              go_wp2_with fail
              refine HW0.out.mono ?_
              rintro e w2 ⟨rfl, hb2⟩
              have HK2 := Lib.hid (HKI.out.trans (Keep.of_below hb2 (Nat.le_refl _) (fun _ => False)) (fun _ _ h => h) (fun _ _ h => h) : Keep (fun _ => False) _ w2)
              clear hb2
              go_wp2_with fail
              go_roundw
              case rel => exact Lib.hid ⟨q + 1, by go_num, by omega, HK2.out⟩
              case measure => simp [intOf]; omega
            · have hqe : q = x.size := by omega
              subst hqe
              have HB2 := Lib.hid (Below.next HBX.out (HKI.out.below (B := _) (Nat.le_refl _) (fun _ _ => id)))
              go_wp2_with fail
              go_roundw
              case rel => exact hrel2.out _ HB2.out
              case measure => simp [intOf]; omega
        · obtain ⟨q, hq1, hq2⟩ := hpre (by omega)
          have hj1 : (0 : Int) < (j : Int) := by omega
          clear hpre
          go_wp2_with fail
          go_loopw [10] (fun kk wi => Hid (∃ q : Nat, kk = .int .i64 q ∧ q ≤ x.size ∧ Keep (fun _ => False) (wr.alloc (.cells #[.int .u8 2, .int .i64 p, .int .i64 x.size, .string ⟨#[]⟩] 33)) wi)) (fun kk _ => x.size - (intOf kk).toNat)
          case atStart => exact Lib.hid ⟨0, rfl, Nat.zero_le _, Keep.refl _ _⟩
          case round =>
            obtain ⟨q, rfl, hq, hki⟩ := hrel.out
            have hX2 := hki.old hX0.out id
            obtain ⟨e0, e1, e2, e3, efr⟩ := four_block hX2
            have HKI := Lib.hid hki
            have hrb2 : Rd wr (some ⟨b', o, none⟩) b := hki.rd ((Keep.alloc (fun _ => False) _ _).rd hrr.out (fun _ _ _ => id)) (fun _ _ _ => id)
            have HR2 := Lib.hid hrb2
            clear hki hX2 hrel hrb2
            by_cases hqx : q < x.size
            · have hdl : (b.drop (p + q)).length = k - (p + q) := by rw [List.length_drop, hlen.out]
              have hcv2 := conv_str (P := Try.prog) wr 28 9 5 Try.underlying28 Try.underlying5 Try.underlying9 (some ⟨b', o + (p + q), none⟩) (k - (p + q)) (c - (p + q)) _ hdl (HR2.out.drop (p + q))
              have HW0 := Lib.hid (lwhole_any ⟨(b.drop (p + q)).toArray⟩ wr (by simp [ByteArray.size, hlen.out]; omega) (by simpa using HBAD.out q hqx))
              generalize hS2 : (⟨(b.drop (p + q)).toArray⟩ : ByteArray) = S2 at *
              clear hdl
              go_wp2_with fail
              refine HW0.out.mono ?_
              rintro e w2 ⟨rfl, hb2⟩
              have HK2 := Lib.hid (HKI.out.trans (Keep.of_below hb2 (Nat.le_refl _) (fun _ => False)) (fun _ _ h => h) (fun _ _ h => h) : Keep (fun _ => False) _ w2)
              clear hb2
              go_wp2_with fail
              go_roundw
              case rel => exact Lib.hid ⟨q + 1, by go_num, by omega, HK2.out⟩
              case measure => simp [intOf]; omega
            · have hqe : q = x.size := by omega
              subst hqe
              have HB2 := Lib.hid (Below.next HBX.out (HKI.out.below (B := _) (Nat.le_refl _) (fun _ _ => id)))
              go_wp2_with fail
              go_roundw
              case rel => exact hrel2.out _ HB2.out
              case measure => simp [intOf]; omega
    · have hjn : j = L.length := by omega
      have hcx := HCV.out
      rw [hjn, List.drop_length] at hcx
      have hpe : p = b.length := hcx
      rw [hlen.out] at hpe
      subst hpe
      go_wp2_with fail
      refine (alive_any _).mono ?_
      rintro e w2 ⟨rfl, hb2⟩
      have HB2 := Lib.hid (Below.next (Below.next HB1.out HBR.out) hb2)
      clear hb2
      go_wp2_with fail
      go_ret
      exact ⟨rfl, HB2.out⟩
end Go.Proofs.Ytmblghdiejneoaa
