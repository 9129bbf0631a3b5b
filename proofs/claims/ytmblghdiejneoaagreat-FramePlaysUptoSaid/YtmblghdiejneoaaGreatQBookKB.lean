/- The Book keeps a list. -/
import Derived.Test.YtmblghdiejneoaaGreatQBookF
import Derived.Test.YtmblghdiejneoaaGreatQBookC
import Derived.Test.YtmblghdiejneoaaGreatQSplit
namespace Go.Proofs.YtmblghdiejneoaaGreat
set_option maxRecDepth 100000
open Go.RowKit

set_option maxHeartbeats 4000000 in
theorem keepFrame_any (w : World) (K n m : Nat) (B F : Value) (la : Option Addr) (lk lc : Nat) (hs : List Value) (hb : BookAt w K n B F) (hF : Own w 3 F m hs) (hFK : ∀ g, F.ownBlock = some g → ¬ g = K) (hm : m ≤ 10000000) (hn : n ≤ 10000000) :
    Calls Tryz.prog 28 #[.pointer (some ⟨K, 0, none⟩), .slice la lk lc] w fun e w' => ∃ ao c, e = .returned (.tuple #[]) ∧ BookAt w' K (n + 1) B (.slice ao (m + 1) c) ∧ Own w' 3 (.slice ao (m + 1) c) (m + 1) (hs ++ [.slice la lk lc, .slice none 0 0, .int .i64 ((n + 1 : Nat) : Int)]) ∧ Keep (fun k => k = K ∨ F.ownBlock = some k) w w' ∧ ((Value.slice ao (m + 1) c).ownBlock = F.ownBlock ∨ ∃ g, (Value.slice ao (m + 1) c).ownBlock = some g ∧ w.heap.size ≤ g) := by
  obtain ⟨i5, hi, hz0, hz1, hz2⟩ := info_parts info_hf
  obtain ⟨c0, c2, c20, cf, hK⟩ := book_cells hb
  have HF := Lib.hid hF
  have HB := Lib.hid hb
  clear hF hb
  go_enter Tryz.func28, Tryz.ntmps28
  go_wp2_with fail
  have hb1 : BookAt (w.setCell ⟨K, 0, none⟩ (.int .i64 ((n : Int) + 1))) K (n + 1) B F := heap_setCell_same w K 0 _ 54 _ HB.out
  have hf1 := HF.out.keep (Keep.setCell w K 0 (.int .i64 ((n : Int) + 1))) hFK
  have HKW := Lib.hid (Keep.setCell w K 0 (.int .i64 ((n : Int) + 1)))
  generalize w.setCell ⟨K, 0, none⟩ (.int .i64 ((n : Int) + 1)) = W at *
  obtain ⟨d0, d2, d20, df, dK⟩ := book_cells hb1
  have HF1 := Lib.hid hf1
  have HB1 := Lib.hid hb1
  clear hb1 hf1 c0 c2 c20 cf
  go_region_law (refine step_append_own rfl (.tmp 15) (.tmp 22) 47 47 rfl 105 i5 (.agg #[.slice none 0 0, .slice none 0 0, .int .i64 0]) 3 56 Tryz.underlying47 hi hz0 hz1 hz2 rfl F m hs (by simp [Act.eval]) (HF1.out.keep (Keep.of_below (((Below.refl W.heap.size W).alloc (Nat.le_refl _) _).drew) (Nat.le_refl _) (fun _ => False)) (fun _ _ => id)) (.slice (some ⟨W.heap.size, 0, none⟩) 1 1) 1 [.slice la lk lc, .slice none 0 0, .int .i64 ((n + 1 : Nat) : Int)] (by simp [Act.eval]) (Src.three Tryz.underlying47 _ _ _ (by rfl) (by rfl) (by rfl) _ _ (by first | rfl | simp)) (by unfold maxLen; omega) (by omega) ?_; intro ao2 q2 w2 ho2 hk2 hb2; have HO2 := Lib.hid ho2; have HS2 := Lib.hid (ge_past hb2); have HK2 := Lib.hid hk2.past; clear ho2 hk2 hb2; have HB2 := Lib.hid (show BookAt w2 K (n + 1) B F from HK2.out.old HB1.out (fun h => hFK K h rfl)); obtain ⟨z0, z2, z20, zf, zK⟩ := book_cells HB2.out)
  all_goals
    go_wp2_with fail
    have HE := Lib.hid (heap_setCell_same w2 K 20 _ 54 (.slice ao2 (m + 1) q2) HB2.out)
    have HW2 := Lib.hid (Keep.setCell w2 K 20 (.slice ao2 (m + 1) q2))
    have hWs := HKW.out.size
    refine bodyPost_end (v := .tuple #[]) (by simp [results, Tryz.results28, go_sem]) rfl ⟨ao2, q2, rfl, HE.out, HO2.out.keep HW2.out (fun g hg h => ?_), (HKW.out.trans HK2.out (Z := fun k => k = K ∨ F.ownBlock = some k) (fun _ _ h => .inl h) (fun _ _ h => .inr h)).trans HW2.out (fun _ _ h => h) (fun _ _ h => .inl h), ?_⟩
    · subst h
      rcases HS2.out with h1 | ⟨g, h1, h2⟩
      · exact hFK _ (h1.symm.trans hg) rfl
      · rw [hg] at h1; cases h1; omega
    · rcases HS2.out with h1 | ⟨g, h1, h2⟩
      · exact .inl h1
      · exact .inr ⟨g, h1, by omega⟩
end Go.Proofs.YtmblghdiejneoaaGreat

/- The Book keeps a list of bytes. (Printed by genbytes.py.) -/
namespace Go.Proofs.YtmblghdiejneoaaGreat
set_option maxRecDepth 100000
open Go.RowKit

set_option maxHeartbeats 4000000 in
theorem keepByte_any (w : World) (K n m : Nat) (B F : Value) (la : Option Addr) (lk lc : Nat) (hs : List Value) (hb : BookAt w K n F B) (hF : Own w 3 F m hs) (hFK : ∀ g, F.ownBlock = some g → ¬ g = K) (hm : m ≤ 10000000) (hn : n ≤ 10000000) :
    Calls Tryz.prog 29 #[.pointer (some ⟨K, 0, none⟩), .slice la lk lc] w fun e w' => ∃ ao c, e = .returned (.tuple #[]) ∧ BookAt w' K (n + 1) (.slice ao (m + 1) c) B ∧ Own w' 3 (.slice ao (m + 1) c) (m + 1) (hs ++ [.slice la lk lc, .slice none 0 0, .int .i64 ((n + 1 : Nat) : Int)]) ∧ Keep (fun k => k = K ∨ F.ownBlock = some k) w w' ∧ ((Value.slice ao (m + 1) c).ownBlock = F.ownBlock ∨ ∃ g, (Value.slice ao (m + 1) c).ownBlock = some g ∧ w.heap.size ≤ g) := by
  obtain ⟨i5, hi, hz0, hz1, hz2⟩ := info_parts info_hb
  obtain ⟨c0, c2, c20, cf, hK⟩ := book_cells hb
  have HF := Lib.hid hF
  have HB := Lib.hid hb
  clear hF hb
  go_enter Tryz.func29, Tryz.ntmps29
  go_wp2_with fail
  have hb1 : BookAt (w.setCell ⟨K, 0, none⟩ (.int .i64 ((n : Int) + 1))) K (n + 1) F B := heap_setCell_same w K 0 _ 54 _ HB.out
  have hf1 := HF.out.keep (Keep.setCell w K 0 (.int .i64 ((n : Int) + 1))) hFK
  have HKW := Lib.hid (Keep.setCell w K 0 (.int .i64 ((n : Int) + 1)))
  generalize w.setCell ⟨K, 0, none⟩ (.int .i64 ((n : Int) + 1)) = W at *
  obtain ⟨d0, d2, d20, df, dK⟩ := book_cells hb1
  have HF1 := Lib.hid hf1
  have HB1 := Lib.hid hb1
  clear hb1 hf1 c0 c2 c20 cf
  go_region_law (refine step_append_own rfl (.tmp 15) (.tmp 22) 29 29 rfl 107 i5 (.agg #[.slice none 0 0, .slice none 0 0, .int .i64 0]) 3 56 Tryz.underlying29 hi hz0 hz1 hz2 rfl F m hs (by simp [Act.eval]) (HF1.out.keep (Keep.of_below (((Below.refl W.heap.size W).alloc (Nat.le_refl _) _).drew) (Nat.le_refl _) (fun _ => False)) (fun _ _ => id)) (.slice (some ⟨W.heap.size, 0, none⟩) 1 1) 1 [.slice la lk lc, .slice none 0 0, .int .i64 ((n + 1 : Nat) : Int)] (by simp [Act.eval]) (Src.three Tryz.underlying29 _ _ _ (by rfl) (by rfl) (by rfl) _ _ (by first | rfl | simp)) (by unfold maxLen; omega) (by omega) ?_; intro ao2 q2 w2 ho2 hk2 hb2; have HO2 := Lib.hid ho2; have HS2 := Lib.hid (ge_past hb2); have HK2 := Lib.hid hk2.past; clear ho2 hk2 hb2; have HB2 := Lib.hid (show BookAt w2 K (n + 1) F B from HK2.out.old HB1.out (fun h => hFK K h rfl)); obtain ⟨z0, z2, z20, zf, zK⟩ := book_cells HB2.out)
  all_goals
    go_wp2_with fail
    have HE := Lib.hid (heap_setCell_same w2 K 2 _ 54 (.slice ao2 (m + 1) q2) HB2.out)
    have HW2 := Lib.hid (Keep.setCell w2 K 2 (.slice ao2 (m + 1) q2))
    have hWs := HKW.out.size
    refine bodyPost_end (v := .tuple #[]) (by simp [results, Tryz.results29, go_sem]) rfl ⟨ao2, q2, rfl, HE.out, HO2.out.keep HW2.out (fun g hg h => ?_), (HKW.out.trans HK2.out (Z := fun k => k = K ∨ F.ownBlock = some k) (fun _ _ h => .inl h) (fun _ _ h => .inr h)).trans HW2.out (fun _ _ h => h) (fun _ _ h => .inl h), ?_⟩
    · subst h
      rcases HS2.out with h1 | ⟨g, h1, h2⟩
      · exact hFK _ (h1.symm.trans hg) rfl
      · rw [hg] at h1; cases h1; omega
    · rcases HS2.out with h1 | ⟨g, h1, h2⟩
      · exact .inl h1
      · exact .inr ⟨g, h1, by omega⟩
end Go.Proofs.YtmblghdiejneoaaGreat
