/- TwinBytes, LeftBytes: a copy with a mark behind it. -/
import Derived.Test.YtmblghdiejneoaaGreatQRowSet
import Derived.Laws.MakeOwn
namespace Go.Proofs.YtmblghdiejneoaaGreat
set_option maxRecDepth 100000
open Go.RowKit

theorem markByte_any (n : Nat) (w : World) (hn : n ≤ 1000000000000) : Calls Tryz.prog 24 #[.int .i64 n] w fun e w' => e = .returned (.int .u8 ((1 + n % 255 : Nat) : Int)) ∧ w = w' := by
  go_enter Tryz.func24, Tryz.ntmps24
  go_wp2_with fail
  go_ret
  exact ⟨by show Ending.returned (.int .u8 (1 + (n : Int) % 255)) = _; congr 2, rfl⟩

theorem isByte_any (n : Nat) (w : World) (hn : n ≤ 1000000000000) : Calls Tryz.prog 27 #[.int .u8 ((1 + n % 255 : Nat) : Int), .int .i64 n] w fun e w' => e = .returned (.bool true) ∧ w = w' := by
  go_enter Tryz.func27, Tryz.ntmps27
  go_wp2_with fail
  go_ret
  exact ⟨rfl, rfl⟩

/-- The mark of a twin. -/
def spareB : UInt8 := 128

set_option maxHeartbeats 2000000 in
theorem twin_any (w : World) (ao : Option Addr) (k c : Nat) (b : List UInt8) (hbk : b.length = k) (hrb : Rd w ao b) (hk : k ≤ 100000000000) :
    Calls Tryz.prog 5 #[.slice ao k c] w fun e w' => e = .returned (.slice (some ⟨w.heap.size, 0, none⟩) k (k + 1)) ∧ Row w' w.heap.size (k + 1) 1 (bcells (b ++ [spareB])) ∧ Below w.heap.size w w' := by
  obtain ⟨i5, hi, hz0, hz1, hz2⟩ := info_parts info_u8
  have hmk : (Instr.makeSlice 22 (.int .i64 ((k : Int) + 1)) (.int .i64 ((k : Int) + 1))).run Tryz.prog w = .ok (.slice (some ⟨w.heap.size, 0, none⟩) (k + 1) (k + 1)) (w.alloc (.cells (bcells (List.replicate (k + 1) 0)).toArray 5)) := by
    have h := run_make (P := Tryz.prog) w 22 5 i5 (.int .u8 0) Tryz.underlying22 hi hz0 .i64 .i64 ((k : Int) + 1) ((k : Int) + 1) (by omega) (by omega) (by rw [hz2]; omega) (by omega)
    have e : ((k : Int) + 1).toNat = k + 1 := by omega
    rw [e] at h
    rw [h]
    have hc : madeCells (Value.int .u8 0).cells ((k + 1) * i5.size) = (bcells (List.replicate (k + 1) 0)).toArray := by
      apply Array.ext
      · rw [size_madeCells, hz1]; simp [bcells]
      · intro j h1 h2
        simp [madeCells, bcells, Value.cells, Nat.mod_one]
    rw [hc]
  have hrow0 : Row (w.alloc (.cells (bcells (List.replicate (k + 1) 0)).toArray 5)) w.heap.size (k + 1) 1 (bcells (List.replicate (k + 1) 0)) := by
    refine Row.made w _ 5 (0, 0) (k + 1) 1 _ (by simp [bcells]) (.inl rfl) (fun j u hu => by simpa using hu)
  have hb0 := (Below.refl w.heap.size w).alloc (Nat.le_refl _) (.cells (bcells (List.replicate (k + 1) 0)).toArray 5)
  generalize w.alloc (.cells (bcells (List.replicate (k + 1) 0)).toArray 5) = W at *
  have hst := Lib.hid (show Row W w.heap.size (k + 1) 1 (bcells (b.take 0 ++ List.replicate (k + 1 - 0) 0)) ∧ Below w.heap.size w W from ⟨by simpa using hrow0, hb0⟩)
  have HL := Lib.hid hbk
  have HR := Lib.hid hrb
  clear hrow0 hb0 hbk hrb
  go_enter Tryz.func5, Tryz.ntmps5
  go_wp2_with fail
  go_loopw [4] (fun i wr => Hid (∃ j : Nat, i = .int .i64 j ∧ j ≤ k ∧ Row wr w.heap.size (k + 1) 1 (bcells (b.take j ++ List.replicate (k + 1 - j) 0)) ∧ Below w.heap.size w wr)) (fun i _ => k - (intOf i).toNat)
  case atStart => exact Lib.hid ⟨0, rfl, Nat.zero_le _, hst.out.1, hst.out.2⟩
  case round =>
    obtain ⟨j, rfl, hj, hr, hbr⟩ := hrel.out
    have HRR := Lib.hid hr
    have HBR := Lib.hid hbr
    clear hr hbr hrel
    by_cases hlt : j < k
    · have hj' : j < b.length := by rw [HL.out]; exact hlt
      obtain ⟨b', o, rfl, hbw⟩ := HR.out.place (by rw [HL.out]; omega)
      have hcb : wr.cell? ⟨b', o + j, none⟩ = some (.int .u8 ((b[j]).toNat : Int)) := by
        rcases Below.rd HBR.out HR.out (Nat.le_refl _) with h | ⟨b2, o2, h, hc⟩
        · rw [h] at hj'; simp at hj'
        · cases h; exact hc j hj'
      have hlen : (b.take j).length = j := by rw [List.length_take]; omega
      have hget : ((b.take j) ++ List.replicate (k + 1 - j) (0 : UInt8))[j]? = some 0 := by
        rw [List.getElem?_append_right (by omega), hlen, Nat.sub_self, List.getElem?_replicate, if_pos (by omega)]
      have hc0 : wr.cell? ⟨w.heap.size, j, none⟩ = some (.int .u8 0) := HRR.out.cell j _ (by simp only [bcells, List.getElem?_map, hget, Option.map_some]; rfl)
      have hf0 : wr.frozen? ⟨w.heap.size, j, none⟩ = false := HRR.out.free j (by omega)
      have hnext : b.take (j + 1) ++ List.replicate (k + 1 - (j + 1)) (0 : UInt8) = (b.take j ++ List.replicate (k + 1 - j) 0).set j b[j] := by
        rw [List.take_succ_eq_append_getElem hj', List.set_append_right _ _ (by omega), hlen, Nat.sub_self, show k + 1 - j = (k + 1 - (j + 1)) + 1 by omega, List.replicate_succ, List.append_assoc]
        rfl
      have HS := Lib.hid (HRR.out.set j (.int .u8 ((b[j]).toNat : Int)) (by omega))
      have HBS := Lib.hid (HBR.out.setCell (p := ⟨w.heap.size, j, none⟩) (Nat.le_refl _) (.int .u8 ((b[j]).toNat : Int)))
      have hN : Row (wr.setCell ⟨w.heap.size, j, none⟩ (.int .u8 ((b[j]).toNat : Int))) w.heap.size (k + 1) 1 (bcells (b.take (j + 1) ++ List.replicate (k + 1 - (j + 1)) 0)) := by
        rw [hnext, bcells_set]
        exact HS.out
      have HN2 := Lib.hid hN
      have hb8 := (b[j]).toNat_lt
      clear hN hget hlen hnext
      generalize (b[j]).toNat = z at *
      go_wp2_with fail
      go_roundw
      case rel => exact Lib.hid ⟨j + 1, by go_num, by omega, HN2.out, HBS.out⟩
      case measure => simp [intOf]; omega
    · obtain rfl : j = k := by omega
      have htk : b.take j = b := List.take_of_length_le (by rw [HL.out]; exact Nat.le_refl _)
      have hone : List.replicate (j + 1 - j) (0 : UInt8) = [0] := by rw [show j + 1 - j = 1 by omega]; rfl
      have hrw := HRR.out
      rw [htk, hone] at hrw
      have hget : (b ++ [(0 : UInt8)])[j]? = some 0 := by rw [List.getElem?_append_right (by rw [HL.out]; exact Nat.le_refl _), HL.out, Nat.sub_self]; rfl
      have hc0 : wr.cell? ⟨w.heap.size, j, none⟩ = some (.int .u8 0) := hrw.cell j _ (by simp only [bcells, List.getElem?_map, hget, Option.map_some]; rfl)
      have hf0 : wr.frozen? ⟨w.heap.size, j, none⟩ = false := hrw.free j (by omega)
      have hset : (b ++ [(0 : UInt8)]).set j spareB = b ++ [spareB] := by
        rw [List.set_append_right _ _ (by rw [HL.out]; exact Nat.le_refl _), HL.out, Nat.sub_self]; rfl
      have hs := hrw.set j (.int .u8 128) (by omega)
      have hs' : Row (wr.setCell ⟨w.heap.size, j, none⟩ (.int .u8 128)) w.heap.size (j + 1) 1 (bcells (b ++ [spareB])) := by
        rw [← hset, bcells_set]; exact hs
      have HS := Lib.hid hs'
      have HBS := Lib.hid (HBR.out.setCell (p := ⟨w.heap.size, j, none⟩) (Nat.le_refl _) (.int .u8 128))
      have HM := Lib.hid (fun w => markByte_any 7777 w (by omega))
      clear htk hone hrw hget hset hs hs' hst
      go_wp2_with fail
      refine (HM.out _).mono ?_
      rintro e w2 ⟨rfl, rfl⟩
      go_wp2_with fail
      go_ret
      exact ⟨rfl, HS.out, HBS.out⟩

set_option maxHeartbeats 2000000 in
theorem sameBytes_any (w : World) (a1 a2 : Option Addr) (k c1 c2 : Nat) (b : List UInt8) (hbk : b.length = k) (h1 : Rd w a1 b) (h2 : Rd w a2 b) (hk : k ≤ 100000000000) :
    Calls Tryz.prog 26 #[.slice a1 k c1, .slice a2 k c2] w fun e w' => e = .returned (.bool true) ∧ Below w.heap.size w w' := by
  have HL := Lib.hid hbk
  have H1 := Lib.hid h1
  have H2 := Lib.hid h2
  clear hbk h1 h2
  go_enter Tryz.func26, Tryz.ntmps26
  go_wp2_with fail
  go_loopw [5] (fun i wr => Hid (∃ j : Nat, i = .int .i64 j ∧ j ≤ k ∧ Below w.heap.size w wr)) (fun i _ => k - (intOf i).toNat)
  case atStart => exact Lib.hid ⟨0, rfl, Nat.zero_le _, Below.refl _ _⟩
  case round =>
    obtain ⟨j, rfl, hj, hbr⟩ := hrel.out
    have HBR := Lib.hid hbr
    clear hbr hrel
    by_cases hlt : j < k
    · have hj' : j < b.length := by rw [HL.out]; exact hlt
      obtain ⟨b1, o1, rfl, _⟩ := H1.out.place (by rw [HL.out]; omega)
      obtain ⟨b2, o2, rfl, _⟩ := H2.out.place (by rw [HL.out]; omega)
      have hc1 : wr.cell? ⟨b1, o1 + j, none⟩ = some (.int .u8 ((b[j]).toNat : Int)) := by
        rcases Below.rd HBR.out H1.out (Nat.le_refl _) with h | ⟨b2, o2, h, hc⟩
        · rw [h] at hj'; simp at hj'
        · cases h; exact hc j hj'
      have hc2 : wr.cell? ⟨b2, o2 + j, none⟩ = some (.int .u8 ((b[j]).toNat : Int)) := by
        rcases Below.rd HBR.out H2.out (Nat.le_refl _) with h | ⟨b2, o2, h, hc⟩
        · rw [h] at hj'; simp at hj'
        · cases h; exact hc j hj'
      generalize (b[j]).toNat = z at *
      clear hj'
      go_wp2_with fail
      go_quiet (fail)
      go_wp2_with fail
      go_roundw
      case rel => exact Lib.hid ⟨j + 1, by go_num, by omega, below_drewN HBR.out _⟩
      case measure => simp [intOf]; omega
    · obtain rfl : j = k := by omega
      go_wp2_with fail
      go_ret
      exact ⟨rfl, HBR.out⟩

set_option maxHeartbeats 2000000 in
theorem left_any (w : World) (g : Nat) (a2 : Option Addr) (k c2 : Nat) (b : List UInt8) (hbk : b.length = k) (h1 : Row w g (k + 1) 1 (bcells (b ++ [spareB]))) (h2 : Rd w a2 b) (hk : k ≤ 100000000000) :
    Calls Tryz.prog 8 #[.slice (some ⟨g, 0, none⟩) k (k + 1), .slice a2 k c2] w fun e w' => e = .returned (.bool true) ∧ Below w.heap.size w w' := by
  have hr1 : Rd w (some ⟨g, 0, none⟩) b := by
    refine .inr ⟨g, 0, rfl, fun i hi => ?_⟩
    rw [Nat.zero_add]
    refine h1.cell i _ ?_
    simp only [bcells, List.getElem?_map]
    rw [List.getElem?_append_left hi, List.getElem?_eq_getElem hi]
    rfl
  have hcs : w.cell? ⟨g, k, none⟩ = some (.int .u8 128) := by
    refine h1.cell k _ ?_
    simp only [bcells, List.getElem?_map]
    rw [List.getElem?_append_right (by omega), hbk, Nat.sub_self]
    rfl
  have HS := Lib.hid (sameBytes_any w (some ⟨g, 0, none⟩) a2 k (k + 1) c2 b hbk hr1 h2 hk)
  have HI := Lib.hid (fun w => isByte_any 7777 w (by omega))
  clear hr1 h1 h2 hbk
  go_enter Tryz.func8, Tryz.ntmps8
  go_wp2_with fail
  refine HS.out.mono ?_
  rintro e w1 ⟨rfl, hb⟩
  have HB := Lib.hid hb
  have hcs1 := (Keep.of_below hb (Nat.le_refl _) (fun _ => False)).cell hcs id
  clear hb hcs
  go_wp2_with fail
  refine (HI.out _).mono ?_
  rintro e w2 ⟨rfl, rfl⟩
  go_wp2_with fail
  go_ret
  exact ⟨rfl, HB.out⟩
end Go.Proofs.YtmblghdiejneoaaGreat
