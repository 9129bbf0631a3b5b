/- The reference's check sum. -/
import Derived.Test.YtmblghdiejneoaaGreatQSum
import Derived.Test.YtmblghdiejneoaaGreatQPack
namespace Go.Proofs.YtmblghdiejneoaaGreat
set_option maxRecDepth 100000
open Go.RowKit

set_option maxHeartbeats 1000000 in
theorem rsum_any (ao : Option Addr) (cap : Nat) (l : List UInt8) (w : World) (hr : Rd w ao l) (hl : l.length ≤ 140737488351232) :
    Calls Tryz.prog 172 #[.slice ao l.length cap] w fun e w' => e = .returned (.int .u32 (crc l : Int)) ∧ w = w' := by
  have HR := Lib.hid hr
  clear hr
  go_enter Tryz.func172, Tryz.ntmps172
  go_wp2_with fail
  go_loop [3, 4] (fun c i => ∃ k : Nat, k ≤ l.length ∧ i = .int .i64 k ∧ c = .int .u32 (crcAcc (l.take k) : Int)) (fun _ i => l.length - (intOf i).toNat)
  case atStart => exact ⟨0, Nat.zero_le _, rfl, rfl⟩
  case round =>
    obtain ⟨k, hk, rfl, rfl⟩ := hrel
    by_cases hlt : k < l.length
    · obtain ⟨b, o, rfl, hcell⟩ : ∃ b o, ao = some ⟨b, o, none⟩ ∧ w.cell? ⟨b, o + k, none⟩ = some (.int .u8 (l[k].toNat : Int)) := by
        rcases HR.out with h | ⟨b, o, rfl, hc⟩
        · subst h; simp at hlt
        · exact ⟨b, o, rfl, hc k hlt⟩
      have hacc := crcAcc_lt (l.take k)
      have hb8 := l[k].toNat_lt
      have hb8' : l[k].toNat < 256 := hb8
      have hx : bits BinOp.xor IntKind.u32 (crcAcc (l.take k) : Int) (l[k].toNat : Int) = ((crcAcc (l.take k) ^^^ l[k].toNat : Nat) : Int) := xor_u32 _ _ hacc (by omega)
      clear hb8
      have hlt0 : crcAcc (l.take k) ^^^ l[k].toNat < 4294967296 := Nat.xor_lt_two_pow (n := 32) hacc (by omega)
      have hlt1 := Lib.hid hlt0
      clear hlt0
      go_wp2_with fail
      go_loop [3, 5] (fun c j => ∃ m : Nat, m ≤ 8 ∧ j = .int .i64 m ∧ c = .int .u32 (crcIt m (crcAcc (l.take k) ^^^ l[k].toNat) : Int)) (fun _ j => 8 - (intOf j).toNat)
      case atStart => exact ⟨0, Nat.zero_le _, rfl, rfl⟩
      case round =>
        obtain ⟨m, hm, rfl, rfl⟩ := hrel
        by_cases hm8 : m < 8
        · have hcl := crcIt_lt m hlt1.out
          have hs : crcIt (m + 1) (crcAcc (l.take k) ^^^ l[k].toNat) = crcBit (crcIt m (crcAcc (l.take k) ^^^ l[k].toNat)) := rfl
          have HS := Lib.hid hs
          clear hs
          generalize hc : crcIt m (crcAcc (l.take k) ^^^ l[k].toNat) = c at *
          have HC := Lib.hid hc
          clear hc
          by_cases h : c % 2 = 1
          · have h' : ((c : Int) % 2 == 1) = true := by simp; omega
            have hx2 : bits BinOp.xor IntKind.u32 ((c : Int) / 2) 3988292384 = (crcBit c : Int) := by
              have := xor_u32 (c / 2) 3988292384 (by omega) (by decide)
              rw [crcBit, if_pos h, ← this]; rfl
            clear h
            go_wp2_with fail
            go_round
            case rel => exact ⟨m + 1, by omega, by go_num, by rw [HS.out]⟩
            case measure => simp [intOf]; omega
          · have h' : ((c : Int) % 2 == 1) = false := by simp; omega
            have hx2 : ((c : Int) / 2) = (crcBit c : Int) := by rw [crcBit, if_neg h]; rfl
            have HX2 := Lib.hid hx2
            clear hx2 h
            go_wp2_with fail
            go_round
            case rel => exact ⟨m + 1, by omega, by go_num, by rw [HS.out, HX2.out]⟩
            case measure => simp [intOf]; omega
        · go_wp2_with fail
          go_round
          case rel =>
            have : m = 8 := by omega
            subst this
            refine ⟨k + 1, by omega, by go_num, ?_⟩
            rw [take_snoc l k hlt, crcAcc_snoc]
            rfl
          case measure => simp [intOf]; omega
    · have : k = l.length := by omega
      subst this
      have hcl := crcAcc_lt l
      have hfin : (4294967295 : Int) - (crcAcc l : Int) = (crc l : Int) := by unfold crc; omega
      have HF := Lib.hid hfin
      clear hfin
      go_wp2_with fail
      go_ret
      rw [← HF.out]
      exact ⟨rfl, rfl⟩

theorem rsum_at (ao : Option Addr) (k cap : Nat) (l : List UInt8) (w : World) (hk : l.length = k) (hr : Rd w ao l) (hl : k ≤ 140737488351232) :
    Calls Tryz.prog 172 #[.slice ao k cap] w fun e w' => e = .returned (.int .u32 (crc l : Int)) ∧ w = w' := by
  subst hk
  exact rsum_any ao cap l w hr hl
end Go.Proofs.YtmblghdiejneoaaGreat

/- The reference's Pack. -/
namespace Go.Proofs.YtmblghdiejneoaaGreat
set_option maxRecDepth 100000
open Go.RowKit

set_option maxHeartbeats 1000000 in
theorem rpack_great (s : ByteArray) (w : World) (hs : 4096 < s.size) :
    Calls Tryz.prog 169 #[.string s] w fun e w' => e = .returned (.tuple #[.string ⟨#[]⟩, .int .i64 3]) ∧ Below w.heap.size w w' := by
  go_enter Tryz.func169, Tryz.ntmps169
  go_wp2
  go_ret2
  exact ⟨rfl, Below.refl _ _⟩

theorem head_cells (n : Nat) (h : n ≤ 4096) : #[Value.int .u8 197, .int .u8 171, Value.int .u8 ((n : Int) / 256), Value.int .u8 ((n : Int) % 256)] = (bcells [197, 171, UInt8.ofNat (n / 256), UInt8.ofNat n]).toArray := by
  have e1 : ((UInt8.ofNat (n / 256)).toNat : Int) = (n : Int) / 256 := by rw [ofNat_mod]; omega
  have e2 := ofNat_mod n
  simp only [bcells, List.map_cons, List.map_nil, e1, e2]
  rfl

/-- A slice that a literal has laid. -/
theorem Own.lit (w : World) (l : List UInt8) (cs : Array Value) (n : Nat) (h : cs = (bcells l).toArray) (hn : l.length = n) (hm : n ≤ maxLen) (t : TypeId) : Own (w.alloc (.cells cs t)) 1 (.slice (some ⟨w.heap.size, 0, none⟩) n n) n (bcells l) := by
  subst h hn
  exact ⟨by simp, .inr ⟨w.heap.size, l.length, rfl, Nat.le_refl _, hm, Row.made w _ t (0, 0) _ 1 _ (by simp) (.inl rfl) (fun j u hu => by simpa using hu)⟩⟩

set_option maxHeartbeats 2000000 in
theorem rpack_fits (s : ByteArray) (w : World) (hs : s.size ≤ 4096) :
    Calls Tryz.prog 169 #[.string s] w fun e w' => e = .returned (.tuple #[.string ⟨(frameL s.data.toList).toArray⟩, .int .i64 0]) ∧ Below w.heap.size w w' := by
  obtain ⟨i5, hi, hz0, hz1, hz2⟩ := info_parts info_u8
  have hcs := Lib.hid (head_cells s.size hs)
  have hh : [197, 171, UInt8.ofNat (s.size / 256), UInt8.ofNat s.size] = headL s.data.toList := by
    unfold headL; rw [show s.data.toList.length = s.size from by simp]
  rw [hh] at hcs
  have hhl : (headL s.data.toList).length = 4 := rfl
  have HHL := Lib.hid hhl
  clear hh hhl
  go_enter Tryz.func169, Tryz.ntmps169
  go_wp2_with (at_builtin; refine wpList_append_pos rfl (.tmp 18) (.tmp 19) 22 9 rfl 5 i5 (.int .u8 0) 1 1 Tryz.underlying22 hi hz0 hz1 hz2 rfl (.slice (some ⟨w.heap.size, 0, none⟩) 4 4) 4 (bcells (headL s.data.toList)) rfl (Own.lit w _ _ 4 hcs.out HHL.out (by unfold maxLen; omega) _) (.string s) s.size (bcells s.data.toList) rfl (Src.str Tryz.underlying9 s) (.inl (by omega)) (by unfold maxLen; omega) (by omega) ?_)
  intro g5 c5 w5 ho5 hk5 hg5
  have hb5 := Lib.hid (below_keep ((Below.refl w.heap.size w).alloc (Nat.le_refl _) _) hk5 (fun i h => by simp [Value.ownBlock] at h; omega))
  have hge5 : w.heap.size ≤ g5 := own_ge hg5 (by omega) (by simp)
  have hz5 : w.heap.size < w5.heap.size := by have := hk5.size; simp at this; omega
  rw [← bcells_append] at ho5
  generalize hL : headL s.data.toList ++ s.data.toList = L at ho5
  have HL := Lib.hid hL
  have ho5' := Lib.hid ho5
  clear ho5 hk5 hg5 hL hcs
  obtain ⟨ao5, cap5, he5, hl5, hr5, _, _, _⟩ := ho5'.out.shape
  cases he5
  have hr5' := Lib.hid hr5
  have hl5' := Lib.hid hl5
  clear hr5 hl5
  go_wp2_with (fail)
  refine (rsum_at _ _ _ _ _ hl5'.out hr5'.out (by omega)).mono ?_
  rintro e w6 ⟨rfl, rfl⟩
  clear hr5' hl5'
  have hcs4 := Lib.hid (four_cells (crc L))
  generalize hs4 : sum4 (crc L) = s4 at hcs4
  have hs4l : s4.length = 4 := by rw [← hs4]; rfl
  have HS4 := Lib.hid hs4
  have HS4l := Lib.hid hs4l
  clear hs4 hs4l
  go_wp2_with (at_builtin; refine wpList_append_pos rfl (.tmp 23) (.tmp 35) 22 22 rfl 5 i5 (.int .u8 0) 1 1 Tryz.underlying22 hi hz0 hz1 hz2 rfl (.slice (some ⟨g5, 0, none⟩) (4 + s.size) c5) (4 + s.size) (bcells L) rfl (ho5'.out.keep (Keep.alloc (fun _ => False) _ _) (fun _ _ => id)) (.slice (some ⟨w5.heap.size, 0, none⟩) 4 4) 4 (bcells s4) rfl (Src.bytes Tryz.underlying22 _ _ _ s4 HS4l.out (Rd.made w5 _ _ _ hcs4.out)) (.inl (by omega)) (by unfold maxLen; omega) (by omega) ?_)
  intro g7 c7 w7 ho7 hk7 hg7
  have hb7 := Lib.hid (below_keep (hb5.out.alloc (Nat.le_of_lt hz5) _) hk7 (fun i h => by simp [Value.ownBlock] at h; omega))
  rw [← bcells_append] at ho7
  obtain ⟨ao7, cap7, he7, hl7, hr7, _, _, _⟩ := ho7.shape
  cases he7
  have hcv := conv_str (P := Tryz.prog) w7 22 9 5 Tryz.underlying22 Tryz.underlying5 Tryz.underlying9 _ _ c7 _ hl7 hr7
  clear ho7 hk7 hg7 hl7 hr7 hb5 ho5'
  generalize hout : (L ++ s4).toArray = out at hcv
  have HO := Lib.hid hout
  clear hout
  go_wp2
  go_ret2
  refine ⟨?_, hb7.out⟩
  have : out = (frameL s.data.toList).toArray := by
    rw [← HO.out, ← HS4.out, ← HL.out]
    rfl
  rw [← this]
  rfl

/-- What Pack answers. -/
def packS (l : List UInt8) : List UInt8 := if l.length ≤ 4096 then frameL l else []
def packE (l : List UInt8) : Int := if l.length ≤ 4096 then 0 else 3
theorem pack_any (s : ByteArray) (w : World) :
    Calls Tryz.prog 105 #[.string s] w fun e w' => e = .returned (.tuple #[.string ⟨(packS s.data.toList).toArray⟩, .int .i64 (packE s.data.toList)]) ∧ Below w.heap.size w w' := by
  have hl : s.data.toList.length = s.size := by simp
  unfold packS packE
  rw [hl]
  by_cases h : s.size ≤ 4096
  · rw [if_pos h, if_pos h]; exact pack_fits s w h
  · rw [if_neg h, if_neg h]; exact pack_great s w (by omega)
theorem rpack_any (s : ByteArray) (w : World) :
    Calls Tryz.prog 169 #[.string s] w fun e w' => e = .returned (.tuple #[.string ⟨(packS s.data.toList).toArray⟩, .int .i64 (packE s.data.toList)]) ∧ Below w.heap.size w w' := by
  have hl : s.data.toList.length = s.size := by simp
  unfold packS packE
  rw [hl]
  by_cases h : s.size ≤ 4096
  · rw [if_pos h, if_pos h]; exact rpack_fits s w h
  · rw [if_neg h, if_neg h]; exact rpack_great s w (by omega)
end Go.Proofs.YtmblghdiejneoaaGreat
