/- The reference's check sum. -/
import Derived.Test.YtmblghdiejneoaaGreatSum
namespace Go.Proofs.YtmblghdiejneoaaGreat
set_option maxRecDepth 100000
open Go.RowKit

set_option maxHeartbeats 1000000 in
theorem rsum_any (ao : Option Addr) (cap : Nat) (l : List UInt8) (w : World) (hr : Rd w ao l) (hl : l.length ≤ 140737488351232) :
    Calls Tryz.prog 172 #[.slice ao l.length cap] w fun e w' => e = .returned (.int .u32 (crc l : Int)) ∧ w = w' := by
  have HR := Lib.hid hr
  clear hr
  go_enter Tryz.func172, Tryz.ntmps172
  go_wp2_with fail
  go_loop [3, 4] (fun c i => ∃ k : Nat, k ≤ l.length ∧ i = .int .i64 k ∧ c = .int .u32 (crcAcc (l.take k) : Int)) (fun _ i => l.length - (intOf i).toNat)
  case atStart => exact ⟨0, Nat.zero_le _, rfl, rfl⟩
  case round =>
    obtain ⟨k, hk, rfl, rfl⟩ := hrel
    by_cases hlt : k < l.length
    · obtain ⟨b, o, rfl, hcell⟩ : ∃ b o, ao = some ⟨b, o, none⟩ ∧ w.cell? ⟨b, o + k, none⟩ = some (.int .u8 (l[k].toNat : Int)) := by
        rcases HR.out with h | ⟨b, o, rfl, hc⟩
        · subst h; simp at hlt
        · exact ⟨b, o, rfl, hc k hlt⟩
      have hacc := crcAcc_lt (l.take k)
      have hb8 := l[k].toNat_lt
      have hb8' : l[k].toNat < 256 := hb8
      have hx : bits BinOp.xor IntKind.u32 (crcAcc (l.take k) : Int) (l[k].toNat : Int) = ((crcAcc (l.take k) ^^^ l[k].toNat : Nat) : Int) := xor_u32 _ _ hacc (by omega)
      clear hb8
      have hlt0 : crcAcc (l.take k) ^^^ l[k].toNat < 4294967296 := Nat.xor_lt_two_pow (n := 32) hacc (by omega)
      have hlt1 := Lib.hid hlt0
      clear hlt0
      go_wp2_with fail
      go_loop [3, 5] (fun c j => ∃ m : Nat, m ≤ 8 ∧ j = .int .i64 m ∧ c = .int .u32 (crcIt m (crcAcc (l.take k) ^^^ l[k].toNat) : Int)) (fun _ j => 8 - (intOf j).toNat)
      case atStart => exact ⟨0, Nat.zero_le _, rfl, rfl⟩
      case round =>
        obtain ⟨m, hm, rfl, rfl⟩ := hrel
        by_cases hm8 : m < 8
        · have hcl := crcIt_lt m hlt1.out
          have hs : crcIt (m + 1) (crcAcc (l.take k) ^^^ l[k].toNat) = crcBit (crcIt m (crcAcc (l.take k) ^^^ l[k].toNat)) := rfl
          have HS := Lib.hid hs
          clear hs
          generalize hc : crcIt m (crcAcc (l.take k) ^^^ l[k].toNat) = c at *
          have HC := Lib.hid hc
          clear hc
          by_cases h : c % 2 = 1
          · have h' : ((c : Int) % 2 == 1) = true := by simp; omega
            have hx2 : bits BinOp.xor IntKind.u32 ((c : Int) / 2) 3988292384 = (crcBit c : Int) := by
              have := xor_u32 (c / 2) 3988292384 (by omega) (by decide)
              rw [crcBit, if_pos h, ← this]; rfl
            clear h
            go_wp2_with fail
            go_round
            case rel => exact ⟨m + 1, by omega, by go_num, by rw [HS.out]⟩
            case measure => simp [intOf]; omega
          · have h' : ((c : Int) % 2 == 1) = false := by simp; omega
            have hx2 : ((c : Int) / 2) = (crcBit c : Int) := by rw [crcBit, if_neg h]; rfl
            have HX2 := Lib.hid hx2
            clear hx2 h
            go_wp2_with fail
            go_round
            case rel => exact ⟨m + 1, by omega, by go_num, by rw [HS.out, HX2.out]⟩
            case measure => simp [intOf]; omega
        · go_wp2_with fail
          go_round
          case rel =>
            have : m = 8 := by omega
            subst this
            refine ⟨k + 1, by omega, by go_num, ?_⟩
            rw [take_snoc l k hlt, crcAcc_snoc]
            rfl
          case measure => simp [intOf]; omega
    · have : k = l.length := by omega
      subst this
      have hcl := crcAcc_lt l
      have hfin : (4294967295 : Int) - (crcAcc l : Int) = (crc l : Int) := by unfold crc; omega
      have HF := Lib.hid hfin
      clear hfin
      go_wp2_with fail
      go_ret
      rw [← HF.out]
      exact ⟨rfl, rfl⟩

theorem rsum_at (ao : Option Addr) (k cap : Nat) (l : List UInt8) (w : World) (hk : l.length = k) (hr : Rd w ao l) (hl : k ≤ 140737488351232) :
    Calls Tryz.prog 172 #[.slice ao k cap] w fun e w' => e = .returned (.int .u32 (crc l : Int)) ∧ w = w' := by
  subst hk
  exact rsum_any ao cap l w hr hl
end Go.Proofs.YtmblghdiejneoaaGreat
