/- FrameSplits: the walk. (Printed by gensplits.py.) -/
import Derived.Test.YtmblghdiejneoaaGreatBookUse
import Derived.Test.YtmblghdiejneoaaGreatRSplit
import Derived.Test.YtmblghdiejneoaaGreatAlive
namespace Go.Proofs.YtmblghdiejneoaaGreat
set_option maxRecDepth 100000
open Go.RowKit

theorem splitF_len (b : List UInt8) : (splitF b).length ≤ 4 * b.length + 1 := by
  have h1 := feedF_len d0 b
  have h2 := closeF_len (feedF d0 b).2
  have h0 : d0.rest.length = 0 := rfl
  unfold splitF
  rw [List.length_append]
  omega

/-- A byte, turned. -/
def neg (x : UInt8) : UInt8 := 255 - x
theorem neg_val (x : UInt8) : ((neg x).toNat : Int) = 255 - (x.toNat : Int) := by
  have h : (255 - x).toNat = 255 - x.toNat := by
    rw [UInt8.toNat_sub]
    have := x.toNat_lt
    simp
    omega
  have := x.toNat_lt
  unfold neg
  rw [h]
  omega
/-- The first j bytes turned. -/
def turn (b : List UInt8) (j : Nat) : List UInt8 := (b.take j).map neg ++ b.drop j
theorem turn_length (b : List UInt8) (j : Nat) : (turn b j).length = b.length := by simp [turn]; omega
theorem turn_zero (b : List UInt8) : turn b 0 = b := by simp [turn]
theorem turn_get (b : List UInt8) (j : Nat) (hj : j < b.length) : (turn b j)[j]? = some b[j] := by
  unfold turn
  rw [List.getElem?_append_right (by simp; omega)]
  simp [Nat.min_eq_left (Nat.le_of_lt hj), hj]
theorem turn_set (b : List UInt8) (j : Nat) (hj : j < b.length) : (turn b j).set j (neg b[j]) = turn b (j + 1) := by
  unfold turn
  rw [List.set_append_right _ _ (by simp; omega)]
  have h1 : j - ((b.take j).map neg).length = 0 := by simp; omega
  rw [h1, List.drop_eq_getElem_cons hj, List.set_cons_zero, List.take_succ_eq_append_getElem hj, List.map_append, List.append_assoc]
  rfl

theorem row_own {w : World} {g k : Nat} {l : List UInt8} {x : UInt8} (h : Row w g (k + 1) 1 (bcells (l ++ [x]))) (hl : l.length = k) (hk : k + 1 ≤ maxLen) : Own w 1 (.slice (some ⟨g, 0, none⟩) k (k + 1)) k (bcells l) := by
  refine ⟨by simp [hl], .inr ⟨g, k + 1, rfl, by omega, hk, h.lt, fun j u hu => h.cell j u ?_, h.there, h.free⟩⟩
  rw [bcells_append, List.getElem?_append_left (List.getElem?_eq_some_iff.1 hu).1]
  exact hu
theorem own_rd {w : World} {n cap : Nat} {ao : Option Addr} {l : List UInt8} (h : Own w 1 (.slice ao n cap) n (bcells l)) : Rd w ao l := by
  rcases h.2 with ⟨_, h0⟩ | ⟨g, c, he, hn, hm, hr⟩
  · have : l.length = 0 := by have := h.1; simp at this; omega
    exact .inl (List.eq_nil_of_length_eq_zero this)
  · cases he
    refine .inr ⟨g, 0, rfl, fun i hi => hr.cell _ _ ?_⟩
    rw [Nat.zero_add]
    simp [bcells, hi]

theorem own_empty (w : World) : Own (w.alloc (.cells #[] 5)) 1 (.slice (some ⟨w.heap.size, 0, none⟩) 0 0) 0 [] :=
  ⟨rfl, .inr ⟨w.heap.size, 0, rfl, Nat.le_refl _, by unfold maxLen; omega, Row.made w #[] _ (0, 0) 0 1 [] rfl (.inl rfl) (fun j u h => by simp at h)⟩⟩

theorem rd_two (w : World) : Rd (w.alloc (.cells #[.int .u8 1, .int .u8 2] 5)) (some ⟨w.heap.size, 0, none⟩) [1, 2] := by
  refine .inr ⟨w.heap.size, 0, rfl, fun i hi => ?_⟩
  rw [Nat.zero_add, World.cell?_alloc_mark]
  simp at hi
  match i, hi with
  | 0, _ => rfl
  | 1, _ => rfl

set_option maxHeartbeats 8000000 in
theorem splits_any (w : World) (ao : Option Addr) (k c : Nat) (b : List UInt8) (hbk : b.length = k) (hrb : Rd w ao b) (hk : k ≤ 1048576) :
    Calls Tryz.prog 3 #[.slice ao k c] w fun e w' => e = .returned (.bool true) ∧ Below w.heap.size w w' := by
  obtain ⟨i5, hi, hz0, hz1, hz2⟩ := info_parts info_u8
  have HN := Lib.hid hbk
  have RB := Lib.hid hrb
  have hlen := Lib.hid (splitF_len b)
  clear hbk hrb
  go_enter Tryz.func3, Tryz.ntmps3
  go_wp2_with fail
  refine (twin_any w ao k c b HN.out RB.out (by omega)).mono ?_
  rintro e w1 ⟨rfl, hr1, hb1⟩
  have RI := Lib.hid hr1
  have HB := Lib.hid hb1
  have s1 := hr1.lt
  have RB := Lib.hid (Below.rd hb1 RB.out (Nat.le_refl _))
  clear hr1 hb1
  go_wp2_with fail
  refine (rsplit_any w1 ao k c b HN.out RB.out (by omega)).mono ?_
  rintro e w2 ⟨vW, rfl, ho2, hb2, hv2⟩
  have HK := Lib.hid (Keep.of_below hb2 (Nat.le_refl _) (fun _ => False))
  have HB := Lib.hid (Below.next HB.out hb2)
  have s2 := hb2.size
  have RI := Lib.hid (RI.out.keep HK.out id)
  have RB := Lib.hid (HK.out.rd RB.out (fun _ _ _ => id))
  have OW := Lib.hid ho2
  have hlW : ∀ g, vW.ownBlock = some g → w1.heap.size ≤ g ∧ g < w2.heap.size := fun g h => ⟨hv2 g h, ho2.lt g h⟩
  have IW := Lib.hid hlW
  clear ho2 hb2 hv2 hlW
  go_wp2_with fail
  refine (split_any w2 (some ⟨w.heap.size, 0, none⟩) k (k + 1) b HN.out (.inr ⟨_, 0, rfl, fun i hi => by rw [Nat.zero_add]; exact RI.out.cell i _ (by simp only [bcells, List.getElem?_map]; rw [List.getElem?_append_left hi, List.getElem?_eq_getElem hi]; rfl)⟩) (by omega)).mono ?_
  rintro e w3 ⟨vL, rfl, ho3, hb3, hv3⟩
  have HK := Lib.hid (Keep.of_below hb3 (Nat.le_refl _) (fun _ => False))
  have HB := Lib.hid (Below.next HB.out hb3)
  have s3 := hb3.size
  have OW := Lib.hid (OW.out.keep HK.out (fun _ _ => id))
  have RI := Lib.hid (RI.out.keep HK.out id)
  have RB := Lib.hid (HK.out.rd RB.out (fun _ _ _ => id))
  have OL := Lib.hid ho3
  have hlL : ∀ g, vL.ownBlock = some g → w2.heap.size ≤ g ∧ g < w3.heap.size := fun g h => ⟨hv3 g h, ho3.lt g h⟩
  have IL := Lib.hid hlL
  clear ho3 hb3 hv3 hlL
  go_wp2_with fail
  have hb4 := (Below.refl w3.heap.size w3).alloc (Nat.le_refl _) (.cells #[.int .u8 1, .int .u8 2] 5)
  have hr4 : Rd (w3.alloc (.cells #[.int .u8 1, .int .u8 2] 5)) (some ⟨w3.heap.size, 0, none⟩) [1, 2] := rd_two w3
  generalize w3.alloc (.cells #[.int .u8 1, .int .u8 2] 5) = w4 at *
  have HK := Lib.hid (Keep.of_below hb4 (Nat.le_refl _) (fun _ => False))
  have HB := Lib.hid (Below.next HB.out hb4)
  have s4 := hb4.size
  have OW := Lib.hid (OW.out.keep HK.out (fun _ _ => id))
  have OL := Lib.hid (OL.out.keep HK.out (fun _ _ => id))
  have RI := Lib.hid (RI.out.keep HK.out id)
  have RB := Lib.hid (HK.out.rd RB.out (fun _ _ _ => id))
  have R2 := Lib.hid hr4
  clear hb4 hr4
  go_wp2_with fail
  refine (split_any w4 _ 2 2 [1, 2] rfl R2.out (by omega)).mono ?_
  rintro e w5 ⟨vM, rfl, ho5, hb5, hv5⟩
  have HK := Lib.hid (Keep.of_below hb5 (Nat.le_refl _) (fun _ => False))
  have HB := Lib.hid (Below.next HB.out hb5)
  have s5 := hb5.size
  have OW := Lib.hid (OW.out.keep HK.out (fun _ _ => id))
  have OL := Lib.hid (OL.out.keep HK.out (fun _ _ => id))
  have RI := Lib.hid (RI.out.keep HK.out id)
  have RB := Lib.hid (HK.out.rd RB.out (fun _ _ _ => id))
  have OM := Lib.hid ho5
  have hlM : ∀ g, vM.ownBlock = some g → w4.heap.size ≤ g ∧ g < w5.heap.size := fun g h => ⟨hv5 g h, ho5.lt g h⟩
  have IM := Lib.hid hlM
  clear ho5 hb5 hv5 hlM
  go_wp2_with fail
  refine (split_any w5 (some ⟨w.heap.size, 0, none⟩) k (k + 1) b HN.out (.inr ⟨_, 0, rfl, fun i hi => by rw [Nat.zero_add]; exact RI.out.cell i _ (by simp only [bcells, List.getElem?_map]; rw [List.getElem?_append_left hi, List.getElem?_eq_getElem hi]; rfl)⟩) (by omega)).mono ?_
  rintro e w6 ⟨vN, rfl, ho6, hb6, hv6⟩
  have HK := Lib.hid (Keep.of_below hb6 (Nat.le_refl _) (fun _ => False))
  have HB := Lib.hid (Below.next HB.out hb6)
  have s6 := hb6.size
  have OW := Lib.hid (OW.out.keep HK.out (fun _ _ => id))
  have OL := Lib.hid (OL.out.keep HK.out (fun _ _ => id))
  have OM := Lib.hid (OM.out.keep HK.out (fun _ _ => id))
  have RI := Lib.hid (RI.out.keep HK.out id)
  have RB := Lib.hid (HK.out.rd RB.out (fun _ _ _ => id))
  have ON := Lib.hid ho6
  have hlN : ∀ g, vN.ownBlock = some g → w5.heap.size ≤ g ∧ g < w6.heap.size := fun g h => ⟨hv6 g h, ho6.lt g h⟩
  have IN := Lib.hid hlN
  clear ho6 hb6 hv6 hlN
  go_wp2_with fail
  refine (left_any w6 w.heap.size ao k c b HN.out RI.out RB.out (by omega)).mono ?_
  rintro e w7 ⟨rfl, hb7⟩
  have HK := Lib.hid (Keep.of_below hb7 (Nat.le_refl _) (fun _ => False))
  have HB := Lib.hid (Below.next HB.out hb7)
  have s7 := hb7.size
  have OW := Lib.hid (OW.out.keep HK.out (fun _ _ => id))
  have OL := Lib.hid (OL.out.keep HK.out (fun _ _ => id))
  have OM := Lib.hid (OM.out.keep HK.out (fun _ _ => id))
  have ON := Lib.hid (ON.out.keep HK.out (fun _ _ => id))
  have RI := Lib.hid (RI.out.keep HK.out id)
  have RB := Lib.hid (HK.out.rd RB.out (fun _ _ _ => id))
  clear hb7
  go_wp2_with fail
  refine (same_any w7 vL vW (splitF b) OL.out OW.out).mono ?_
  rintro e w8 ⟨rfl, hb8⟩
  have HK := Lib.hid (Keep.of_below hb8 (Nat.le_refl _) (fun _ => False))
  have HB := Lib.hid (Below.next HB.out hb8)
  have s8 := hb8.size
  have OW := Lib.hid (OW.out.keep HK.out (fun _ _ => id))
  have OL := Lib.hid (OL.out.keep HK.out (fun _ _ => id))
  have OM := Lib.hid (OM.out.keep HK.out (fun _ _ => id))
  have ON := Lib.hid (ON.out.keep HK.out (fun _ _ => id))
  have RI := Lib.hid (RI.out.keep HK.out id)
  have RB := Lib.hid (HK.out.rd RB.out (fun _ _ _ => id))
  clear hb8
  go_wp2_with fail
  refine (same_any w8 vN vW (splitF b) ON.out OW.out).mono ?_
  rintro e w9 ⟨rfl, hb9⟩
  have HK := Lib.hid (Keep.of_below hb9 (Nat.le_refl _) (fun _ => False))
  have HB := Lib.hid (Below.next HB.out hb9)
  have s9 := hb9.size
  have OW := Lib.hid (OW.out.keep HK.out (fun _ _ => id))
  have OL := Lib.hid (OL.out.keep HK.out (fun _ _ => id))
  have OM := Lib.hid (OM.out.keep HK.out (fun _ _ => id))
  have ON := Lib.hid (ON.out.keep HK.out (fun _ _ => id))
  have RI := Lib.hid (RI.out.keep HK.out id)
  have RB := Lib.hid (HK.out.rd RB.out (fun _ _ _ => id))
  clear hb9
  go_wp2_with fail
  have hb10 := (Below.refl w9.heap.size w9).alloc (Nat.le_refl _) (.cells #[.int .u8 1, .int .u8 2] 5)
  have hr10 : Rd (w9.alloc (.cells #[.int .u8 1, .int .u8 2] 5)) (some ⟨w9.heap.size, 0, none⟩) [1, 2] := rd_two w9
  generalize w9.alloc (.cells #[.int .u8 1, .int .u8 2] 5) = w10 at *
  have HK := Lib.hid (Keep.of_below hb10 (Nat.le_refl _) (fun _ => False))
  have HB := Lib.hid (Below.next HB.out hb10)
  have s10 := hb10.size
  have OW := Lib.hid (OW.out.keep HK.out (fun _ _ => id))
  have OL := Lib.hid (OL.out.keep HK.out (fun _ _ => id))
  have OM := Lib.hid (OM.out.keep HK.out (fun _ _ => id))
  have ON := Lib.hid (ON.out.keep HK.out (fun _ _ => id))
  have RI := Lib.hid (RI.out.keep HK.out id)
  have RB := Lib.hid (HK.out.rd RB.out (fun _ _ _ => id))
  have R2 := Lib.hid hr10
  clear hb10 hr10
  go_wp2_with fail
  refine (rsplit_any w10 _ 2 2 [1, 2] rfl R2.out (by omega)).mono ?_
  rintro e w11 ⟨vP, rfl, ho11, hb11, hv11⟩
  have HK := Lib.hid (Keep.of_below hb11 (Nat.le_refl _) (fun _ => False))
  have HB := Lib.hid (Below.next HB.out hb11)
  have s11 := hb11.size
  have OW := Lib.hid (OW.out.keep HK.out (fun _ _ => id))
  have OL := Lib.hid (OL.out.keep HK.out (fun _ _ => id))
  have OM := Lib.hid (OM.out.keep HK.out (fun _ _ => id))
  have ON := Lib.hid (ON.out.keep HK.out (fun _ _ => id))
  have RI := Lib.hid (RI.out.keep HK.out id)
  have RB := Lib.hid (HK.out.rd RB.out (fun _ _ _ => id))
  have OP := Lib.hid ho11
  have hlP : ∀ g, vP.ownBlock = some g → w10.heap.size ≤ g ∧ g < w11.heap.size := fun g h => ⟨hv11 g h, ho11.lt g h⟩
  have IP := Lib.hid hlP
  clear ho11 hb11 hv11 hlP
  go_wp2_with fail
  refine (same_any w11 vM vP (splitF [1, 2]) OM.out OP.out).mono ?_
  rintro e w12 ⟨rfl, hb12⟩
  have HK := Lib.hid (Keep.of_below hb12 (Nat.le_refl _) (fun _ => False))
  have HB := Lib.hid (Below.next HB.out hb12)
  have s12 := hb12.size
  have OW := Lib.hid (OW.out.keep HK.out (fun _ _ => id))
  have OL := Lib.hid (OL.out.keep HK.out (fun _ _ => id))
  have OM := Lib.hid (OM.out.keep HK.out (fun _ _ => id))
  have ON := Lib.hid (ON.out.keep HK.out (fun _ _ => id))
  have OP := Lib.hid (OP.out.keep HK.out (fun _ _ => id))
  have RI := Lib.hid (RI.out.keep HK.out id)
  have RB := Lib.hid (HK.out.rd RB.out (fun _ _ _ => id))
  clear hb12
  have hst := Lib.hid (show Row w12 w.heap.size (k + 1) 1 (bcells (turn b 0 ++ [spareB])) by rw [turn_zero]; exact RI.out)
  clear RI
  go_wp2_with fail
  go_loopw [8] (fun i wr => Hid (∃ j : Nat, i = .int .i64 j ∧ j ≤ k ∧ Row wr w.heap.size (k + 1) 1 (bcells (turn b j ++ [spareB])) ∧ Keep (fun g => g = w.heap.size) w12 wr)) (fun i _ => k - (intOf i).toNat)
  case atStart => exact Lib.hid ⟨0, rfl, Nat.zero_le _, hst.out, Keep.refl _ _⟩
  case round =>
    obtain ⟨j, rfl, hj, hr, hkw⟩ := hrel.out
    have RR := Lib.hid hr
    have HKR := Lib.hid hkw
    clear hr hkw hrel
    by_cases hlt : j < k
    · have hj' : j < b.length := by rw [HN.out]; exact hlt
      have htl := turn_length b j
      have hc0 : wr.cell? ⟨w.heap.size, j, none⟩ = some (.int .u8 ((b[j]).toNat : Int)) := RR.out.cell j _ (by simp only [bcells, List.getElem?_map]; rw [List.getElem?_append_left (by omega), turn_get b j hj']; rfl)
      have hf0 : wr.frozen? ⟨w.heap.size, j, none⟩ = false := RR.out.free j (by omega)
      have hs := RR.out.set j (.int .u8 (255 - ((b[j]).toNat : Int))) (by omega)
      rw [← neg_val, ← bcells_set, List.set_append_left _ _ (by omega), turn_set b j hj', neg_val] at hs
      have hz := (b[j]).toNat_lt
      have HS := Lib.hid hs
      have HKS := Lib.hid (HKR.out.trans (Keep.setCell wr w.heap.size j (.int .u8 (255 - ((b[j]).toNat : Int)))) (Z := fun g => g = w.heap.size) (fun _ _ h => h) (fun _ _ h => h))
      clear hs htl
      generalize (b[j]).toNat = z at *
      go_wp2_with fail
      go_roundw
      case rel => exact Lib.hid ⟨j + 1, by go_num, by omega, HS.out, HKS.out⟩
      case measure => simp [intOf]; omega
    · obtain rfl : k = j := by omega
      have ht : turn b k = b.map neg := by unfold turn; rw [List.take_of_length_le (by rw [HN.out]; exact Nat.le_refl _), List.drop_of_length_le (by rw [HN.out]; exact Nat.le_refl _), List.append_nil]
      have hbl : (b.map neg).length = k := by rw [List.length_map]; exact HN.out
      have hri := RR.out
      rw [ht] at hri
      have RI := Lib.hid hri
      have HTL := Lib.hid hbl
      generalize hTB : b.map neg = tb at *
      have HB := Lib.hid (HB.out.trans (HKR.out.below HB.out.size (fun i hi h => by omega)))
      have s13 := HKR.out.size
      have OW := Lib.hid (OW.out.keep HKR.out (fun g hg h => by have := IW.out g hg; omega))
      have OL := Lib.hid (OL.out.keep HKR.out (fun g hg h => by have := IL.out g hg; omega))
      have OM := Lib.hid (OM.out.keep HKR.out (fun g hg h => by have := IM.out g hg; omega))
      have ON := Lib.hid (ON.out.keep HKR.out (fun g hg h => by have := IN.out g hg; omega))
      clear hri hbl hTB ht RR
      generalize wr = w13 at *
      go_wp2_with (at_builtin; refine wpList_append_slice rfl (.tmp 59) (.tmp 60) 22 22 rfl 5 i5 (.int .u8 0) 1 1 Tryz.underlying22 hi hz0 hz1 hz2 rfl (.slice (some ⟨w13.heap.size, 0, none⟩) 0 0) 0 [] rfl (own_empty w13) (.slice (some ⟨w.heap.size, 0, none⟩) k (k + 1)) k (bcells tb) rfl (Src.own Tryz.underlying22 (row_own (RI.out.keep (Keep.alloc (fun _ => False) w13 _) id) HTL.out (by unfold maxLen; omega)) (bcells_oneCell _)) (by unfold maxLen; omega) (by omega) ?_)
      intro ao2 q2 w14 ho2 hk2 hb2
      have hb14 : Below w13.heap.size w13 w14 := ((Keep.alloc (fun _ => False) w13 (.cells #[] 5)).trans hk2 (Z := fun _ => False) (fun _ _ h => h) (fun i hi h => by simp [Value.ownBlock] at h; omega)).below (Nat.le_refl _) (fun _ _ => id)
      have ho2' : Own w14 1 (.slice ao2 k q2) k (bcells tb) := by simpa using ho2
      have HK := Lib.hid (Keep.of_below hb14 (Nat.le_refl _) (fun _ => False))
      have HB := Lib.hid (Below.next HB.out hb14)
      have s14 := hb14.size
      have OW := Lib.hid (OW.out.keep HK.out (fun _ _ => id))
      have OL := Lib.hid (OL.out.keep HK.out (fun _ _ => id))
      have OM := Lib.hid (OM.out.keep HK.out (fun _ _ => id))
      have ON := Lib.hid (ON.out.keep HK.out (fun _ _ => id))
      have RI := Lib.hid (RI.out.keep HK.out id)
      have RT := Lib.hid (own_rd ho2')
      clear hb14 ho2 ho2' hk2 hb2
      go_wp2_with fail
      refine (rsplit_any w14 ao2 k q2 tb HTL.out RT.out (by omega)).mono ?_
      rintro e w15 ⟨vT, rfl, ho15, hb15, hv15⟩
      have HK := Lib.hid (Keep.of_below hb15 (Nat.le_refl _) (fun _ => False))
      have HB := Lib.hid (Below.next HB.out hb15)
      have s15 := hb15.size
      have OW := Lib.hid (OW.out.keep HK.out (fun _ _ => id))
      have OL := Lib.hid (OL.out.keep HK.out (fun _ _ => id))
      have OM := Lib.hid (OM.out.keep HK.out (fun _ _ => id))
      have ON := Lib.hid (ON.out.keep HK.out (fun _ _ => id))
      have RI := Lib.hid (RI.out.keep HK.out id)
      have OT := Lib.hid ho15
      have hlT : ∀ g, vT.ownBlock = some g → w14.heap.size ≤ g ∧ g < w15.heap.size := fun g h => ⟨hv15 g h, ho15.lt g h⟩
      have IT := Lib.hid hlT
      clear ho15 hb15 hv15 hlT
      go_wp2_with fail
      refine (split_any w15 (some ⟨w.heap.size, 0, none⟩) k (k + 1) tb HTL.out (.inr ⟨_, 0, rfl, fun i hi => by rw [Nat.zero_add]; exact RI.out.cell i _ (by simp only [bcells, List.getElem?_map]; rw [List.getElem?_append_left hi, List.getElem?_eq_getElem hi]; rfl)⟩) (by omega)).mono ?_
      rintro e w16 ⟨vO, rfl, ho16, hb16, hv16⟩
      have HK := Lib.hid (Keep.of_below hb16 (Nat.le_refl _) (fun _ => False))
      have HB := Lib.hid (Below.next HB.out hb16)
      have s16 := hb16.size
      have OW := Lib.hid (OW.out.keep HK.out (fun _ _ => id))
      have OL := Lib.hid (OL.out.keep HK.out (fun _ _ => id))
      have OM := Lib.hid (OM.out.keep HK.out (fun _ _ => id))
      have ON := Lib.hid (ON.out.keep HK.out (fun _ _ => id))
      have OT := Lib.hid (OT.out.keep HK.out (fun _ _ => id))
      have RI := Lib.hid (RI.out.keep HK.out id)
      have OO := Lib.hid ho16
      have hlO : ∀ g, vO.ownBlock = some g → w15.heap.size ≤ g ∧ g < w16.heap.size := fun g h => ⟨hv16 g h, ho16.lt g h⟩
      have IO := Lib.hid hlO
      clear ho16 hb16 hv16 hlO
      go_wp2_with fail
      refine (same_any w16 vO vT (splitF tb) OO.out OT.out).mono ?_
      rintro e w17 ⟨rfl, hb17⟩
      have HK := Lib.hid (Keep.of_below hb17 (Nat.le_refl _) (fun _ => False))
      have HB := Lib.hid (Below.next HB.out hb17)
      have s17 := hb17.size
      have OW := Lib.hid (OW.out.keep HK.out (fun _ _ => id))
      have OL := Lib.hid (OL.out.keep HK.out (fun _ _ => id))
      have OM := Lib.hid (OM.out.keep HK.out (fun _ _ => id))
      have ON := Lib.hid (ON.out.keep HK.out (fun _ _ => id))
      have OT := Lib.hid (OT.out.keep HK.out (fun _ _ => id))
      have OO := Lib.hid (OO.out.keep HK.out (fun _ _ => id))
      have RI := Lib.hid (RI.out.keep HK.out id)
      clear hb17
      go_wp2_with fail
      refine (same_any w17 vL vW (splitF b) OL.out OW.out).mono ?_
      rintro e w18 ⟨rfl, hb18⟩
      have HK := Lib.hid (Keep.of_below hb18 (Nat.le_refl _) (fun _ => False))
      have HB := Lib.hid (Below.next HB.out hb18)
      have s18 := hb18.size
      have OW := Lib.hid (OW.out.keep HK.out (fun _ _ => id))
      have OL := Lib.hid (OL.out.keep HK.out (fun _ _ => id))
      have OM := Lib.hid (OM.out.keep HK.out (fun _ _ => id))
      have ON := Lib.hid (ON.out.keep HK.out (fun _ _ => id))
      have OT := Lib.hid (OT.out.keep HK.out (fun _ _ => id))
      have OO := Lib.hid (OO.out.keep HK.out (fun _ _ => id))
      have RI := Lib.hid (RI.out.keep HK.out id)
      clear hb18
      go_wp2_with fail
      have hbk := bk_new w18
      have hb19 := (Below.refl w18.heap.size w18).alloc (Nat.le_refl _) (.cells (bookCells 0 (.slice none 0 0) (.slice none 0 0)) 54 (0, 0))
      simp only [bookCells] at hbk hb19
      generalize w18.alloc _ = w19 at *
      have HK := Lib.hid (Keep.of_below hb19 (Nat.le_refl _) (fun _ => False))
      have HB := Lib.hid (Below.next HB.out hb19)
      have s19 := hb19.size
      have OW := Lib.hid (OW.out.keep HK.out (fun _ _ => id))
      have OL := Lib.hid (OL.out.keep HK.out (fun _ _ => id))
      have OM := Lib.hid (OM.out.keep HK.out (fun _ _ => id))
      have ON := Lib.hid (ON.out.keep HK.out (fun _ _ => id))
      have OT := Lib.hid (OT.out.keep HK.out (fun _ _ => id))
      have OO := Lib.hid (OO.out.keep HK.out (fun _ _ => id))
      have RI := Lib.hid (RI.out.keep HK.out id)
      have BK := Lib.hid hbk
      clear hbk hb19
      go_wp2_with fail
      refine (bk_frames w19 w18.heap.size 0 (fun g => g = w18.heap.size) BK.out vL _ _ OL.out (fun g hg => by have := IL.out g hg; omega) (by omega) (by have := hlen.out; have := HN.out; omega)).mono ?_
      rintro e w20 ⟨rfl, hbk, hkk⟩
      have s20 := hkk.size
      have HB := Lib.hid (HB.out.trans (hkk.below HB.out.size (fun i hi h => by omega)))
      have BK := Lib.hid (hbk.mono (V := fun g => (w2.heap.size ≤ g ∧ g < w3.heap.size) ∨ w18.heap.size ≤ g) (fun g h _ => by
        rcases h with h | h | h
        · omega
        · have := IL.out g h; omega
        · omega) (Nat.le_refl _))
      have OM := Lib.hid (OM.out.keep hkk (fun g hg h => by have := IM.out g hg; omega))
      have ON := Lib.hid (ON.out.keep hkk (fun g hg h => by have := IN.out g hg; omega))
      have OO := Lib.hid (OO.out.keep hkk (fun g hg h => by have := IO.out g hg; omega))
      have RI := Lib.hid (RI.out.keep hkk (fun h => by omega))
      clear hbk hkk
      go_wp2_with fail
      refine (bk_frames w20 w18.heap.size 1 (fun g => (w2.heap.size ≤ g ∧ g < w3.heap.size) ∨ w18.heap.size ≤ g) BK.out vM _ _ OM.out (fun g hg => by have := IM.out g hg; omega) (by omega) (by have := splitF_len [1, 2]; simp at this; omega)).mono ?_
      rintro e w21 ⟨rfl, hbk, hkk⟩
      have s21 := hkk.size
      have HB := Lib.hid (HB.out.trans (hkk.below HB.out.size (fun i hi h => by omega)))
      have BK := Lib.hid (hbk.mono (V := fun g => (w2.heap.size ≤ g ∧ g < w5.heap.size) ∨ w18.heap.size ≤ g) (fun g h _ => by
        rcases h with h | h | h
        · omega
        · have := IM.out g h; omega
        · omega) (Nat.le_refl _))
      have ON := Lib.hid (ON.out.keep hkk (fun g hg h => by have := IN.out g hg; omega))
      have OO := Lib.hid (OO.out.keep hkk (fun g hg h => by have := IO.out g hg; omega))
      have RI := Lib.hid (RI.out.keep hkk (fun h => by omega))
      clear hbk hkk
      go_wp2_with fail
      refine (bk_frames w21 w18.heap.size 2 (fun g => (w2.heap.size ≤ g ∧ g < w5.heap.size) ∨ w18.heap.size ≤ g) BK.out vN _ _ ON.out (fun g hg => by have := IN.out g hg; omega) (by omega) (by have := hlen.out; have := HN.out; omega)).mono ?_
      rintro e w22 ⟨rfl, hbk, hkk⟩
      have s22 := hkk.size
      have HB := Lib.hid (HB.out.trans (hkk.below HB.out.size (fun i hi h => by omega)))
      have BK := Lib.hid (hbk.mono (V := fun g => (w2.heap.size ≤ g ∧ g < w6.heap.size) ∨ w18.heap.size ≤ g) (fun g h _ => by
        rcases h with h | h | h
        · omega
        · have := IN.out g h; omega
        · omega) (Nat.le_refl _))
      have OO := Lib.hid (OO.out.keep hkk (fun g hg h => by have := IO.out g hg; omega))
      have RI := Lib.hid (RI.out.keep hkk (fun h => by omega))
      clear hbk hkk
      go_wp2_with fail
      refine (bk_frames w22 w18.heap.size 3 (fun g => (w2.heap.size ≤ g ∧ g < w6.heap.size) ∨ w18.heap.size ≤ g) BK.out vO _ _ OO.out (fun g hg => by have := IO.out g hg; omega) (by omega) (by have := splitF_len tb; have := HTL.out; omega)).mono ?_
      rintro e w23 ⟨rfl, hbk, hkk⟩
      have s23 := hkk.size
      have HB := Lib.hid (HB.out.trans (hkk.below HB.out.size (fun i hi h => by omega)))
      have BK := Lib.hid (hbk.mono (V := fun g => (w2.heap.size ≤ g ∧ g < w6.heap.size) ∨ w15.heap.size ≤ g) (fun g h _ => by
        rcases h with h | h | h
        · omega
        · have := IO.out g h; omega
        · omega) (Nat.le_refl _))
      have RI := Lib.hid (RI.out.keep hkk (fun h => by omega))
      clear hbk hkk
      go_wp2_with fail
      refine (bk_bytes w23 w18.heap.size 4 (fun g => (w2.heap.size ≤ g ∧ g < w6.heap.size) ∨ w15.heap.size ≤ g) BK.out (.slice (some ⟨w.heap.size, 0, none⟩) k (k + 1)) _ _ (row_own RI.out HTL.out (by unfold maxLen; omega)) (fun g hg => by simp [Value.ownBlock] at hg; omega) (by omega) (by omega)).mono ?_
      rintro e w24 ⟨rfl, hbk, hkk⟩
      have s24 := hkk.size
      have HB := Lib.hid (HB.out.trans (hkk.below HB.out.size (fun i hi h => by omega)))
      have BK := Lib.hid (hbk.mono (V := fun g => w.heap.size ≤ g) (fun g h _ => by
        rcases h with h | h | h
        · omega
        · simp [Value.ownBlock] at h; omega
        · omega) (Nat.le_refl _))
      clear hbk hkk
      go_wp2_with fail
      refine (bk_apart w24 w18.heap.size 5 (fun g => w.heap.size ≤ g) BK.out).mono ?_
      rintro e w25 ⟨rfl, hkk⟩
      have HB := Lib.hid (HB.out.trans (hkk.below HB.out.size (fun i hi h => by omega)))
      clear hkk
      go_wp2_with fail
      refine (alive_any w25).mono ?_
      rintro e w26 ⟨rfl, hb26⟩
      have HB := Lib.hid (Below.next HB.out hb26)
      clear hb26
      go_wp2_with fail
      go_ret
      exact ⟨rfl, HB.out⟩
end Go.Proofs.YtmblghdiejneoaaGreat
