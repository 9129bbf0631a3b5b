/- The check sum: both texts come to 'crc'. -/
import Derived.Test.YtmblghdiejneoaaGreatQBase
import Derived.Test.YtmblghdiejneoaaGreatProg
import Derived.Lib.Hide
import Derived.Deep.LoopGhost
namespace Go.Proofs.YtmblghdiejneoaaGreat
open Go.RowKit

theorem and_one_u32 (c : Nat) (h : c < 4294967296) : bits BinOp.and IntKind.u32 (c : Int) 1 = ((c % 2 : Nat) : Int) := by
  have := u32_and_nat c 1 h (by decide)
  rw [Nat.and_one_is_mod] at this
  exact this
theorem xor_u32 (a b : Nat) (ha : a < 4294967296) (hb : b < 4294967296) : bits BinOp.xor IntKind.u32 (a : Int) (b : Int) = ((a ^^^ b : Nat) : Int) := u32_xor_nat a b ha hb

theorem Keep.setCell (w : World) (B o : Nat) (v : Value) : Keep (· = B) w (w.setCell ⟨B, o, none⟩ v) :=
  ⟨rfl, rfl, rfl, by simp [World.setCell], fun k _ hx => Below.heap_setCell _ _ _ _ hx⟩

set_option maxHeartbeats 400000 in
theorem down_any (B c : Nat) (w : World) (hc : c < 4294967296) (hv : w.heap[B]? = some (.cells #[.int .u32 (c : Int)] 277 (0, 0))) :
    Calls Tryz.prog 170 #[.pointer (some ⟨B, 0, none⟩)] w fun e w' => e = .returned (.tuple #[]) ∧ w'.heap[B]? = some (.cells #[.int .u32 (crcBit c : Int)] 277 (0, 0)) ∧ Keep (· = B) w w' := by
  have c0 := cell_of_one hv
  have f0 := free_of_one hv
  by_cases h : c % 2 = 1
  · have ha : (bits BinOp.and IntKind.u32 (c : Int) 1 == 1) = true := by rw [and_one_u32 c hc]; simp [h]
    have hx : bits BinOp.xor IntKind.u32 ((c : Int) / 2) 3988292384 = (crcBit c : Int) := by
      have := xor_u32 (c / 2) 3988292384 (by omega) (by decide)
      rw [crcBit, if_pos h, ← this]; rfl
    have hf := Lib.hid (one_setCell (u := .int .u32 (crcBit c : Int)) (one_setCell (u := .int .u32 ((c : Int) / 2)) hv))
    have hK := Lib.hid ((Keep.setCell w B 0 (.int .u32 ((c : Int) / 2))).trans (Z := (· = B)) (Keep.setCell _ B 0 (.int .u32 (crcBit c : Int))) (fun _ _ h => h) (fun _ _ h => h))
    go_enter Tryz.func170, Tryz.ntmps170
    go_wp2
    go_end0
    exact ⟨rfl, hf.out, hK.out⟩
  · have ha : (bits BinOp.and IntKind.u32 (c : Int) 1 == 1) = false := by rw [and_one_u32 c hc]; simp; omega
    have hx : ((c : Int) / 2) = (crcBit c : Int) := by rw [crcBit, if_neg h]; rfl
    have HX := Lib.hid hx
    clear hx
    have hf := Lib.hid (one_setCell (u := .int .u32 ((c : Int) / 2)) hv)
    have hK := Lib.hid (Keep.setCell w B 0 (.int .u32 ((c : Int) / 2)))
    go_enter Tryz.func170, Tryz.ntmps170
    go_wp2
    go_end0
    rw [← HX.out]
    exact ⟨rfl, hf.out, hK.out⟩

theorem not_u32 (c : Nat) (h : c < 4294967296) : 4294967295 ^^^ c = 4294967295 - c := by
  have h1 : (BitVec.ofNat 32 c ^^^ BitVec.allOnes 32) = ~~~ (BitVec.ofNat 32 c) := BitVec.xor_allOnes
  have h2 := congrArg BitVec.toNat h1
  rw [BitVec.toNat_xor, BitVec.toNat_not, BitVec.toNat_allOnes, BitVec.toNat_ofNat, Nat.mod_eq_of_lt h] at h2
  rw [Nat.xor_comm]
  exact h2
theorem crc_not (l : List UInt8) : bits BinOp.xor IntKind.u32 IntKind.u32.max (crcAcc l : Int) = (crc l : Int) := by
  have := xor_u32 4294967295 (crcAcc l) (by decide) (crcAcc_lt l)
  rw [not_u32 _ (crcAcc_lt l)] at this
  exact this

theorem take_snoc {α : Type} (l : List α) (k : Nat) (h : k < l.length) : l.take (k + 1) = l.take k ++ [l[k]] := by
  rw [List.take_succ_eq_append_getElem h]

set_option maxHeartbeats 800000 in
theorem sum_any (ao : Option Addr) (cap : Nat) (l : List UInt8) (w : World) (hr : Rd w ao l) (hl : l.length ≤ 140737488351232) :
    Calls Tryz.prog 165 #[.slice ao l.length cap] w fun e w' => e = .returned (.int .u32 (crc l : Int)) ∧ Below w.heap.size w w' := by
  have h0 : (w.alloc (.cells #[.int .u32 4294967295] 277)).heap[w.heap.size]? = some (.cells #[.int .u32 (crcAcc (l.take 0) : Int)] 277 (0, 0)) := heap_alloc_new w _
  have H0 := Lib.hid h0
  clear h0
  have hB0 := Lib.hid ((Below.refl w.heap.size w).alloc (Nat.le_refl _) (.cells #[.int .u32 4294967295] 277))
  have HR := Lib.hid hr
  clear hr
  go_enter Tryz.func165, Tryz.ntmps165
  go_wp2_with fail
  go_loopw [10] (fun i wr => ∃ k : Nat, k ≤ l.length ∧ i = .int .i64 k ∧ Hid (wr.heap[w.heap.size]? = some (.cells #[.int .u32 (crcAcc (l.take k) : Int)] 277 (0, 0))) ∧ Hid (Below w.heap.size w wr)) (fun i _ => l.length - (intOf i).toNat)
  case atStart => exact ⟨0, Nat.zero_le _, rfl, H0, hB0⟩
  case round =>
    obtain ⟨k, hk, rfl, hv, hb⟩ := hrel
    by_cases hlt : k < l.length
    · obtain ⟨b, o, rfl, hcell⟩ : ∃ b o, ao = some ⟨b, o, none⟩ ∧ wr.cell? ⟨b, o + k, none⟩ = some (.int .u8 (l[k].toNat : Int)) := by
        have := below_rd hb.out HR.out
        rcases HR.out with h | ⟨b, o, rfl, hc⟩
        · subst h; simp at hlt
        · have hlt' := World.block_lt_of_cell? w _ (hc k hlt)
          exact ⟨b, o, rfl, (hb.out.cell (p := ⟨b, o + k, none⟩) hlt').trans (hc k hlt)⟩
      have c0 := cell_of_one hv.out
      have f0 := free_of_one hv.out
      have hacc := crcAcc_lt (l.take k)
      have hb8 := l[k].toNat_lt
      have hx : bits BinOp.xor IntKind.u32 (crcAcc (l.take k) : Int) (l[k].toNat : Int) = ((crcAcc (l.take k) ^^^ l[k].toNat : Nat) : Int) := xor_u32 _ _ hacc (by omega)
      have hb8' : l[k].toNat < 256 := hb8
      clear hb8
      have hv1 := Lib.hid (one_setCell (u := .int .u32 ((crcAcc (l.take k) ^^^ l[k].toNat : Nat) : Int)) hv.out)
      have hb1 := Lib.hid (hb.out.setCell (p := ⟨w.heap.size, 0, none⟩) (Nat.le_refl _) (.int .u32 ((crcAcc (l.take k) ^^^ l[k].toNat : Nat) : Int)))
      have hlt0 : crcAcc (l.take k) ^^^ l[k].toNat < 4294967296 := Nat.xor_lt_two_pow (n := 32) hacc (by have := l[k].toNat_lt; omega)
      have hlt1 := Lib.hid hlt0
      clear hlt0
      go_wp2_with fail
      go_loopw [18] (fun j wi => ∃ m : Nat, m ≤ 8 ∧ j = .int .i64 m ∧ Hid (wi.heap[w.heap.size]? = some (.cells #[.int .u32 (crcIt m (crcAcc (l.take k) ^^^ l[k].toNat) : Int)] 277 (0, 0))) ∧ Hid (Below w.heap.size w wi)) (fun j _ => 8 - (intOf j).toNat)
      case atStart => exact ⟨0, Nat.zero_le _, rfl, hv1, hb1⟩
      case round =>
        obtain ⟨m, hm, rfl, hvm, hbm⟩ := hrel
        by_cases hm8 : m < 8
        · go_wp2_with (go_at_call 170; refine (down_any w.heap.size _ _ (crcIt_lt m hlt1.out) hvm.out).mono ?_; rintro e w2 ⟨rfl, hv2, hk2⟩; have hv3 := Lib.hid hv2; clear hv2)
          have hb3 := Lib.hid (hbm.out.trans (hk2.below (Nat.le_of_lt (lt_of_block hvm.out)) (fun i hi => by omega)))
          go_roundw
          case rel => exact ⟨m + 1, by omega, by go_num, hv3, hb3⟩
          case measure => simp [intOf]; omega
        · go_wp2_with fail
          go_roundw
          case rel =>
            have : m = 8 := by omega
            subst this
            refine ⟨k + 1, by omega, by go_num, ?_, hbm⟩
            rw [take_snoc l k hlt, crcAcc_snoc]
            exact hvm
          case measure => simp [intOf]; omega
    · have : k = l.length := by omega
      subst this
      have c0 := cell_of_one hv.out
      have hfin := Lib.hid (crc_not l)
      go_wp2_with fail
      go_ret
      rw [hfin.out]
      exact ⟨rfl, hb.out⟩
theorem sum_at (ao : Option Addr) (k cap : Nat) (l : List UInt8) (w : World) (hk : l.length = k) (hr : Rd w ao l) (hl : k ≤ 140737488351232) :
    Calls Tryz.prog 165 #[.slice ao k cap] w fun e w' => e = .returned (.int .u32 (crc l : Int)) ∧ Below w.heap.size w w' := by
  subst hk
  exact sum_any ao cap l w hr hl
end Go.Proofs.YtmblghdiejneoaaGreat
