/- frame.Pack: the frame of a content. -/
import Derived.Test.YtmblghdiejneoaaGreatQWhole
import Derived.Test.YtmblghdiejneoaaGreatQMem
namespace Go.Proofs.YtmblghdiejneoaaGreat
set_option maxRecDepth 100000
open Go.RowKit

def headL (l : List UInt8) : List UInt8 := [197, 171, UInt8.ofNat (l.length / 256), UInt8.ofNat l.length]
/-- The frame of a content. -/
def frameL (l : List UInt8) : List UInt8 := headL l ++ l ++ sum4 (crc (headL l ++ l))

theorem info_u8 : (Tryz.prog.info? 5).map (fun i => (i.zero, i.size, i.bytes)) = some (some (.int .u8 0), 1, 1) := by kernel_rfl

theorem below_keep {X : Nat → Prop} {w a w1 : World} (h : Below w.heap.size w a) (k : Keep X a w1) (hx : ∀ i, X i → w.heap.size ≤ i) : Below w.heap.size w w1 :=
  h.trans (k.below h.size (fun i hi hX => by have := hx i hX; omega))

set_option maxHeartbeats 1000000 in
theorem pack_great (s : ByteArray) (w : World) (hs : 4096 < s.size) :
    Calls Tryz.prog 105 #[.string s] w fun e w' => e = .returned (.tuple #[.string ⟨#[]⟩, .int .i64 3]) ∧ Below w.heap.size w w' := by
  go_enter Tryz.func105, Tryz.ntmps105
  go_wp2
  go_ret2
  exact ⟨rfl, Below.refl _ _⟩

theorem two_cells (n : Nat) (h : n ≤ 4096) : #[Value.int .u8 ((n : Int) / 256), Value.int .u8 ((n : Int) % 256)] = (bcells [UInt8.ofNat (n / 256), UInt8.ofNat n]).toArray := by
  have e1 : ((UInt8.ofNat (n / 256)).toNat : Int) = (n : Int) / 256 := by rw [ofNat_mod]; omega
  have e2 := ofNat_mod n
  simp only [bcells, List.map_cons, List.map_nil, e1, e2]
theorem four_cells (c : Nat) : #[Value.int .u8 ((c : Int) / 16777216 % 256), Value.int .u8 ((c : Int) / 65536 % 256), Value.int .u8 ((c : Int) / 256 % 256), Value.int .u8 ((c : Int) % 256)] = (bcells (sum4 c)).toArray := by
  have e1 : ((UInt8.ofNat (c / 16777216)).toNat : Int) = (c : Int) / 16777216 % 256 := by rw [ofNat_mod]; rfl
  have e2 : ((UInt8.ofNat (c / 65536)).toNat : Int) = (c : Int) / 65536 % 256 := by rw [ofNat_mod]; rfl
  have e3 : ((UInt8.ofNat (c / 256)).toNat : Int) = (c : Int) / 256 % 256 := by rw [ofNat_mod]; rfl
  have e4 := ofNat_mod c
  simp only [sum4, bcells, List.map_cons, List.map_nil, e1, e2, e3, e4]

set_option maxHeartbeats 2000000 in
theorem pack_fits (s : ByteArray) (w : World) (hs : s.size ≤ 4096) :
    Calls Tryz.prog 105 #[.string s] w fun e w' => e = .returned (.tuple #[.string ⟨(frameL s.data.toList).toArray⟩, .int .i64 0]) ∧ Below w.heap.size w w' := by
  obtain ⟨i5, hi, hz0, hz1, hz2⟩ := info_parts info_u8
  have hb0 := Lib.hid (below_two w (.cells #[.int .u8 197, .int .u8 171] 274) (.cells #[.int .u8 197, .int .u8 171] 274))
  have hsz : s.size ≤ 140737488351232 := by omega
  go_enter Tryz.func105, Tryz.ntmps105
  go_wp2_with (first | (go_at_call 164; refine (mark_any _).mono ?_; rintro e w1 ⟨rfl, rfl⟩) | (at_make; refine wpList_make_own _ rfl _ _ 22 rfl 0 5 i5 (.int .u8 0) 1 Tryz.underlying22 hi hz0 hz1 _ _ _ (s.size + 8) rfl rfl (by omega) (by rw [hz2]; omega) (by unfold maxLen; omega) (Nat.zero_le _) ?_))
  intro w2 hown2 hg2
  have ho2 := Lib.hid (Own.of_row hown2)
  have hb2 := Lib.hid (below_keep hb0.out (Keep.of_grown hg2) (fun i h => by cases h))
  have hr2 := Lib.hid (Rd.keep (Rd.made (w.alloc (.cells #[.int .u8 197, .int .u8 171] 274)) [197, 171] #[.int .u8 197, .int .u8 171] 274 rfl) (Keep.of_grown hg2) (fun h => by cases h))
  have hz2' : w.heap.size + 2 < w2.heap.size := ho2.out.lt _ rfl
  clear hown2 hg2
  go_wp2_with (at_builtin; refine wpList_append_pos rfl (.tmp 15) (.tmp 16) 22 22 rfl 5 i5 (.int .u8 0) 1 1 Tryz.underlying22 hi hz0 hz1 hz2 rfl (.slice (some ⟨w.heap.size + 1 + 1, 0, none⟩) 0 (s.size + 8)) 0 [] rfl ho2.out (.slice (some ⟨w.heap.size + 1, 0, none⟩) 2 2) 2 (bcells [197, 171]) rfl (Src.bytes Tryz.underlying22 _ _ _ [197, 171] rfl (by simpa using hr2.out)) (.inl (by omega)) (by unfold maxLen; omega) (by omega) ?_)
  intro g3 c3 w3 ho3 hk3 hg3
  have hb3 := Lib.hid (below_keep hb2.out hk3 (fun i h => by simp [Value.ownBlock] at h; omega))
  have hge3 : w.heap.size ≤ g3 := own_ge hg3 (by omega) (by omega)
  have ho3' := Lib.hid ho3
  have hz3 : w.heap.size < w3.heap.size := by have := hk3.size; omega
  clear ho3 hk3 hg3 hr2 ho2 hb2 hb0
  have hcs2 := Lib.hid (two_cells s.size hs)
  generalize hl2 : [UInt8.ofNat (s.size / 256), UInt8.ofNat s.size] = l2 at hcs2
  have HL2 := Lib.hid hl2
  clear hl2
  go_wp2_with (at_builtin; refine wpList_append_pos rfl (.tmp 18) (.tmp 26) 22 22 rfl 5 i5 (.int .u8 0) 1 1 Tryz.underlying22 hi hz0 hz1 hz2 rfl (.slice (some ⟨g3, 0, none⟩) 2 c3) 2 (bcells [197, 171]) rfl (ho3'.out.keep (Keep.alloc (fun _ => False) _ _) (fun _ _ => id)) (.slice (some ⟨w3.heap.size, 0, none⟩) 2 2) 2 (bcells l2) rfl (Src.bytes Tryz.underlying22 _ _ _ l2 (by rw [← HL2.out]; rfl) (Rd.made w3 _ _ _ hcs2.out)) (.inl (by omega)) (by unfold maxLen; omega) (by omega) ?_)
  intro g4 c4 w4 ho4 hk4 hg4
  have hb4 := Lib.hid (below_keep (hb3.out.alloc (Nat.le_of_lt hz3) _) hk4 (fun i h => by simp [Value.ownBlock] at h; omega))
  have hge4 : w.heap.size ≤ g4 := own_ge hg4 (by omega) (by
    have : w3.heap.size ≤ (w3.alloc (.cells #[Value.int .u8 ((s.size : Int) / 256), Value.int .u8 ((s.size : Int) % 256)] 5)).heap.size := by simp
    omega)
  have hz4 : w.heap.size < w4.heap.size := by have := hk4.size; simp at this; omega
  rw [← bcells_append] at ho4
  generalize hL4 : [197, 171] ++ l2 = L4 at ho4
  have HL4 := Lib.hid hL4
  clear hL4
  have ho4' := Lib.hid ho4
  clear ho4 hk4 hg4 hb3 ho3' hge3 hz3
  go_wp2_with (at_builtin; refine wpList_append_pos rfl (.tmp 28) (.tmp 29) 22 9 rfl 5 i5 (.int .u8 0) 1 1 Tryz.underlying22 hi hz0 hz1 hz2 rfl (.slice (some ⟨g4, 0, none⟩) 4 c4) 4 (bcells L4) rfl ho4'.out (.string s) s.size (bcells s.data.toList) rfl (Src.str Tryz.underlying9 s) (.inl (by omega)) (by unfold maxLen; omega) (by omega) ?_)
  intro g5 c5 w5 ho5 hk5 hg5
  have hb5 := Lib.hid (below_keep hb4.out hk5 (fun i h => by simp [Value.ownBlock] at h; omega))
  have hge5 : w.heap.size ≤ g5 := own_ge hg5 (by omega) (by omega)
  have hz5 : w.heap.size < w5.heap.size := by have := hk5.size; omega
  rw [← bcells_append] at ho5
  generalize hL : L4 ++ s.data.toList = L at ho5
  have HL := Lib.hid hL
  have ho5' := Lib.hid ho5
  clear ho5 hk5 hg5 hb4 ho4' hge4 hz4 hL
  obtain ⟨ao5, cap5, he5, hl5, hr5, _, _, _⟩ := ho5'.out.shape
  cases he5
  have hr5' := Lib.hid hr5
  have hl5' := Lib.hid hl5
  clear hr5 hl5
  go_wp2_with (go_at_call 165; refine (sum_at _ _ _ _ _ hl5'.out hr5'.out (by omega)).mono ?_; rintro e w6 ⟨rfl, hb6⟩; have hb6' := Lib.hid hb6; clear hb6; fail)
  refine (sum_at _ _ _ _ _ hl5'.out hr5'.out (by omega)).mono ?_
  rintro e w6 ⟨rfl, hb6⟩
  have hz6 : w.heap.size < w6.heap.size := by have := hb6.size; omega
  have ho6 := Lib.hid (ho5'.out.keep (Keep.of_below hb6 (Nat.le_refl _) (fun _ => False)) (fun _ _ => id))
  have hb6' := Lib.hid (Below.next hb5.out hb6)
  clear hb6 ho5' hb5 hr5' hl5'
  have hcs4 := Lib.hid (four_cells (crc L))
  generalize hs4 : sum4 (crc L) = s4 at hcs4
  have hs4l : s4.length = 4 := by rw [← hs4]; rfl
  have HS4 := Lib.hid hs4
  have HS4l := Lib.hid hs4l
  clear hs4 hs4l
  go_wp2_with (at_builtin; refine wpList_append_pos rfl (.tmp 33) (.tmp 45) 22 22 rfl 5 i5 (.int .u8 0) 1 1 Tryz.underlying22 hi hz0 hz1 hz2 rfl (.slice (some ⟨g5, 0, none⟩) (4 + s.size) c5) (4 + s.size) (bcells L) rfl (ho6.out.keep (Keep.alloc (fun _ => False) _ _) (fun _ _ => id)) (.slice (some ⟨w6.heap.size, 0, none⟩) 4 4) 4 (bcells s4) rfl (Src.bytes Tryz.underlying22 _ _ _ s4 HS4l.out (Rd.made w6 _ _ _ hcs4.out)) (.inl (by omega)) (by unfold maxLen; omega) (by omega) ?_)
  intro g7 c7 w7 ho7 hk7 hg7
  have hb7 := Lib.hid (below_keep (hb6'.out.alloc (Nat.le_of_lt hz6) _) hk7 (fun i h => by simp [Value.ownBlock] at h; omega))
  rw [← bcells_append] at ho7
  obtain ⟨ao7, cap7, he7, hl7, hr7, _, _, _⟩ := ho7.shape
  cases he7
  have hcv := conv_str (P := Tryz.prog) w7 22 9 5 Tryz.underlying22 Tryz.underlying5 Tryz.underlying9 _ _ c7 _ hl7 hr7
  clear ho7 hk7 hg7 hl7 hr7 hb6' ho6 hz6
  generalize hout : (L ++ s4).toArray = out at hcv
  have HO := Lib.hid hout
  clear hout
  go_wp2
  go_ret2
  refine ⟨?_, hb7.out⟩
  have : out = (frameL s.data.toList).toArray := by
    rw [← HO.out, ← HS4.out, ← HL.out, ← HL4.out, ← HL2.out]
    simp only [frameL, headL]
    rw [show s.data.toList.length = s.size from by simp]
    rfl
  rw [← this]
  rfl

end Go.Proofs.YtmblghdiejneoaaGreat
