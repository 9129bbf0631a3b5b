/- The reference's Resume. (Printed by genbad.py.) -/
import Derived.Test.YtmblghdiejneoaaGreatQResumeBad
import Derived.Test.YtmblghdiejneoaaGreatQRMore
namespace Go.Proofs.YtmblghdiejneoaaGreat
set_option maxRecDepth 100000
set_option linter.unusedVariables false
open Go.RowKit

theorem bad_end2 (w : World) (a b fed a' b' : Int) (S : ByteArray) (c : Bool) : Below w.heap.size w ((w.alloc (.cells #[.int .i64 a, .int .i64 b] 60)).alloc (.cells #[.int .i64 fed, .int .i64 a', .int .i64 b', .string S, .bool c] 95)) :=
  (bad_end1 w a b).alloc (bad_end1 w a b).size _

/-- Gone stands still just where the bytes may become a frame. -/
theorem gone_still {l : List UInt8} (h : l = [] ∨ (wholeF l).2 = true) : (gone false (l.length + 1) 0 l []).2 = l := by
  rw [gone_eq]
  rcases h with h | h
  · subst h; rw [scan_nil]
  · by_cases h0 : l = []
    · subst h0; rw [scan_nil]
    · rw [scan_stop h0 ⟨h, rfl⟩]
theorem gone_goes {l : List UInt8} (h0 : l ≠ []) (h : (wholeF l).2 = false) : (gone false (l.length + 1) 0 l []).2.length < l.length := by
  rw [gone_eq]
  have hpos : 0 < l.length := List.length_pos_iff.2 h0
  obtain ⟨f, hf⟩ : ∃ f, l.length = f + 1 := ⟨l.length - 1, by omega⟩
  rw [hf]
  by_cases hz : (wholeF l).1 = 0
  · rw [scan_bad h0 (by rw [h]; simp) hz]
    obtain ⟨k, _, hk2⟩ := scan_left false f (0 + 1) (l.drop 1) (if 0 = 0 then 0 else 0) (0 + 1)
    rw [hk2]
    simp only [List.length_drop]
    omega
  · rw [scan_good hz]
    obtain ⟨hs, hle, _⟩ := wholeF_good hz
    obtain ⟨k, _, hk2⟩ := scan_left false f (0 + (wholeF l).1) (l.drop (wholeF l).1) 0 0
    simp only
    rw [hk2]
    simp only [List.length_drop]
    omega

set_option maxHeartbeats 2000000 in
theorem rresume_a1 (w : World) (fed ba bs : Int) (S : ByteArray) (c : Bool) (h1 : fed < 0) : Calls Tryz.prog 107 #[.int .i64 fed, .agg #[.int .i64 ba, .int .i64 bs], .string S, .bool c] w (BadPost w) := by
  have heq := eq_span'
  go_enter Tryz.func107, Tryz.ntmps107
  go_wp2_with fail
  refine bodyPost_ret (v := .tuple #[.pointer none, .int .i64 1]) (by simp [results, Tryz.results107, go_sem]) rfl ⟨rfl, bad_end1 _ _ _⟩

set_option maxHeartbeats 2000000 in
theorem rresume_a2 (w : World) (fed ba bs : Int) (S : ByteArray) (c : Bool) (g0 : 0 ≤ fed) (h1 : 4611686018427387903 < fed) : Calls Tryz.prog 107 #[.int .i64 fed, .agg #[.int .i64 ba, .int .i64 bs], .string S, .bool c] w (BadPost w) := by
  have heq := eq_span'
  go_enter Tryz.func107, Tryz.ntmps107
  go_wp2_with fail
  refine bodyPost_ret (v := .tuple #[.pointer none, .int .i64 1]) (by simp [results, Tryz.results107, go_sem]) rfl ⟨rfl, bad_end1 _ _ _⟩

set_option maxHeartbeats 2000000 in
theorem rresume_a3 (w : World) (fed ba bs : Int) (S : ByteArray) (c : Bool) (g0 : 0 ≤ fed) (g1 : fed ≤ 4611686018427387903) (h1 : fed < (S.size : Int)) : Calls Tryz.prog 107 #[.int .i64 fed, .agg #[.int .i64 ba, .int .i64 bs], .string S, .bool c] w (BadPost w) := by
  have heq := eq_span'
  go_enter Tryz.func107, Tryz.ntmps107
  go_wp2_with fail
  refine bodyPost_ret (v := .tuple #[.pointer none, .int .i64 1]) (by simp [results, Tryz.results107, go_sem]) rfl ⟨rfl, bad_end1 _ _ _⟩

set_option maxHeartbeats 2000000 in
theorem rresume_b1 (w : World) (fed ba bs : Int) (S : ByteArray) (c : Bool) (g0 : 0 ≤ fed) (g1 : fed ≤ 4611686018427387903) (g2 : (S.size : Int) ≤ fed) (hq : bqS ba 0 bs 0 = false) (h1 : bs < 1) : Calls Tryz.prog 107 #[.int .i64 fed, .agg #[.int .i64 ba, .int .i64 bs], .string S, .bool c] w (BadPost w) := by
  have heq := eq_span'
  go_enter Tryz.func107, Tryz.ntmps107
  go_wp2_with fail
  refine bodyPost_ret (v := .tuple #[.pointer none, .int .i64 1]) (by simp [results, Tryz.results107, go_sem]) rfl ⟨rfl, bad_end2 _ _ _ _ _ _ _ _⟩

set_option maxHeartbeats 2000000 in
theorem rresume_b2 (w : World) (fed ba bs : Int) (S : ByteArray) (c : Bool) (g0 : 0 ≤ fed) (g1 : fed ≤ 4611686018427387903) (g2 : (S.size : Int) ≤ fed) (hq : bqS ba 0 bs 0 = false) (h1 : 1 ≤ bs) (h2 : fed - S.size < bs) : Calls Tryz.prog 107 #[.int .i64 fed, .agg #[.int .i64 ba, .int .i64 bs], .string S, .bool c] w (BadPost w) := by
  have heq := eq_span'
  go_enter Tryz.func107, Tryz.ntmps107
  go_wp2_with fail
  refine bodyPost_ret (v := .tuple #[.pointer none, .int .i64 1]) (by simp [results, Tryz.results107, go_sem]) rfl ⟨rfl, bad_end2 _ _ _ _ _ _ _ _⟩

set_option maxHeartbeats 2000000 in
theorem rresume_b3 (w : World) (fed ba bs : Int) (S : ByteArray) (c : Bool) (g0 : 0 ≤ fed) (g1 : fed ≤ 4611686018427387903) (g2 : (S.size : Int) ≤ fed) (hq : bqS ba 0 bs 0 = false) (h1 : 1 ≤ bs) (h2 : bs ≤ fed - S.size) (h3 : (ba != fed - (S.size : Int) - bs) = true) : Calls Tryz.prog 107 #[.int .i64 fed, .agg #[.int .i64 ba, .int .i64 bs], .string S, .bool c] w (BadPost w) := by
  have heq := eq_span'
  go_enter Tryz.func107, Tryz.ntmps107
  go_wp2_with fail
  refine bodyPost_ret (v := .tuple #[.pointer none, .int .i64 1]) (by simp [results, Tryz.results107, go_sem]) rfl ⟨rfl, bad_end2 _ _ _ _ _ _ _ _⟩

set_option maxHeartbeats 2000000 in
theorem rresume_c1 (w : World) (fed : Int) (S : ByteArray) (g0 : 0 ≤ fed) (g1 : fed ≤ 4611686018427387903) (g2 : (S.size : Int) ≤ fed) (hne : ¬ S.toList = []) : Calls Tryz.prog 107 #[.int .i64 fed, .agg #[.int .i64 0, .int .i64 0], .string S, .bool true] w (BadPost w) := by
  have heq := eq_span'
  have hq : bqS 0 0 0 0 = true := by simp [bqS]
  go_enter Tryz.func107, Tryz.ntmps107
  go_wp2_with fail
  refine bodyPost_ret (v := .tuple #[.pointer none, .int .i64 1]) (by simp [results, Tryz.results107, go_sem]) rfl ⟨rfl, bad_end2 _ _ _ _ _ _ _ _⟩

set_option maxHeartbeats 2000000 in
theorem rresume_c2 (w : World) (fed ba bs : Int) (S : ByteArray) (g0 : 0 ≤ fed) (g1 : fed ≤ 4611686018427387903) (g2 : (S.size : Int) ≤ fed) (hq : bqS ba 0 bs 0 = false) (h1 : 1 ≤ bs) (h2 : bs ≤ fed - S.size) (h3 : (ba != fed - (S.size : Int) - bs) = false) (hne : ¬ S.toList = []) : Calls Tryz.prog 107 #[.int .i64 fed, .agg #[.int .i64 ba, .int .i64 bs], .string S, .bool true] w (BadPost w) := by
  have heq := eq_span'
  go_enter Tryz.func107, Tryz.ntmps107
  go_wp2_with fail
  refine bodyPost_ret (v := .tuple #[.pointer none, .int .i64 1]) (by simp [results, Tryz.results107, go_sem]) rfl ⟨rfl, bad_end2 _ _ _ _ _ _ _ _⟩

set_option maxHeartbeats 2000000 in
theorem rresume_c3 (w : World) (fed ba bs : Int) (S : ByteArray) (g0 : 0 ≤ fed) (g1 : fed ≤ 4611686018427387903) (g2 : (S.size : Int) ≤ fed) (hq : bqS ba 0 bs 0 = false) (h1 : 1 ≤ bs) (h2 : bs ≤ fed - S.size) (h3 : (ba != fed - (S.size : Int) - bs) = false) (hne : S.toList = []) : Calls Tryz.prog 107 #[.int .i64 fed, .agg #[.int .i64 ba, .int .i64 bs], .string S, .bool true] w (BadPost w) := by
  have heq := eq_span'
  go_enter Tryz.func107, Tryz.ntmps107
  go_wp2_with fail
  refine bodyPost_ret (v := .tuple #[.pointer none, .int .i64 1]) (by simp [results, Tryz.results107, go_sem]) rfl ⟨rfl, bad_end2 _ _ _ _ _ _ _ _⟩

set_option maxHeartbeats 2000000 in
theorem rresume_d1 (w : World) (fed : Int) (S : ByteArray) (g0 : 0 ≤ fed) (g1 : fed ≤ 4611686018427387903) (g2 : (S.size : Int) ≤ fed) (_hl : S.size ≤ 10000000000) (hne : ¬ S.toList = []) (ho : (wholeF S.data.toList).2 = false) : Calls Tryz.prog 107 #[.int .i64 fed, .agg #[.int .i64 0, .int .i64 0], .string S, .bool false] w (BadPost w) := by
  have heq := eq_span'
  have hq : bqS 0 0 0 0 = true := by simp [bqS]
  have hsz : S.data.toList.length = S.size := by simp
  have hg := fun w => gone_any S false w _hl
  rw [← hsz] at hg
  have hgo := gone_goes (l := S.data.toList) (fun h => hne (by rw [Lib.toList_data, h])) ho
  generalize gone false (S.data.toList.length + 1) 0 S.data.toList [] = Q at *
  have hn : 0 < S.data.toList.length - Q.2.length := by omega
  generalize hN : S.data.toList.length - Q.2.length = N at *
  have hn' : (0 : Int) < (N : Int) := by omega
  have HG := Lib.hid hg
  have HN := Lib.hid hN
  clear hg hsz hN hgo hn ho
  go_enter Tryz.func107, Tryz.ntmps107
  go_wp2_with fail
  have hb0 := bad_end2 w 0 0 fed 0 0 S false
  have hs0 := hb0.size
  have HB0 := Lib.hid hb0
  clear hb0
  generalize (w.alloc (.cells #[.int .i64 0, .int .i64 0] 60)).alloc (.cells #[.int .i64 fed, .int .i64 0, .int .i64 0, .string S, .bool false] 95) = W0 at *
  refine (HG.out W0).mono ?_
  rintro e w2 ⟨vG, rfl, _, _, hb2⟩
  have HB2 := Lib.hid (show Below w.heap.size w w2 from Below.next HB0.out hb2)
  clear hb2
  simp only [HN.out]
  go_wp2_with fail
  refine bodyPost_ret (v := .tuple #[.pointer none, .int .i64 1]) (by simp [results, Tryz.results107, go_sem]) rfl ⟨rfl, HB2.out⟩

set_option maxHeartbeats 2000000 in
theorem rresume_d2 (w : World) (fed ba bs : Int) (S : ByteArray) (g0 : 0 ≤ fed) (g1 : fed ≤ 4611686018427387903) (g2 : (S.size : Int) ≤ fed) (_hl : S.size ≤ 10000000000) (hq : bqS ba 0 bs 0 = false) (h1 : 1 ≤ bs) (h2 : bs ≤ fed - S.size) (h3 : (ba != fed - (S.size : Int) - bs) = false) (hne : ¬ S.toList = []) (ho : (wholeF S.data.toList).2 = false) : Calls Tryz.prog 107 #[.int .i64 fed, .agg #[.int .i64 ba, .int .i64 bs], .string S, .bool false] w (BadPost w) := by
  have heq := eq_span'
  have hsz : S.data.toList.length = S.size := by simp
  have hg := fun w => gone_any S false w _hl
  rw [← hsz] at hg
  have hgo := gone_goes (l := S.data.toList) (fun h => hne (by rw [Lib.toList_data, h])) ho
  generalize gone false (S.data.toList.length + 1) 0 S.data.toList [] = Q at *
  have hn : 0 < S.data.toList.length - Q.2.length := by omega
  generalize hN : S.data.toList.length - Q.2.length = N at *
  have hn' : (0 : Int) < (N : Int) := by omega
  have HG := Lib.hid hg
  have HN := Lib.hid hN
  clear hg hsz hN hgo hn ho
  go_enter Tryz.func107, Tryz.ntmps107
  go_wp2_with fail
  have hb0 := bad_end2 w ba bs fed ba bs S false
  have hs0 := hb0.size
  have HB0 := Lib.hid hb0
  clear hb0
  generalize (w.alloc (.cells #[.int .i64 ba, .int .i64 bs] 60)).alloc (.cells #[.int .i64 fed, .int .i64 ba, .int .i64 bs, .string S, .bool false] 95) = W0 at *
  refine (HG.out W0).mono ?_
  rintro e w2 ⟨vG, rfl, _, _, hb2⟩
  have HB2 := Lib.hid (show Below w.heap.size w w2 from Below.next HB0.out hb2)
  clear hb2
  simp only [HN.out]
  go_wp2_with fail
  refine bodyPost_ret (v := .tuple #[.pointer none, .int .i64 1]) (by simp [results, Tryz.results107, go_sem]) rfl ⟨rfl, HB2.out⟩

set_option maxHeartbeats 2000000 in
theorem rresume_d3 (w : World) (fed : Int) (S : ByteArray) (g0 : 0 ≤ fed) (g1 : fed ≤ 4611686018427387903) (g2 : (S.size : Int) ≤ fed) (_hl : S.size ≤ 10000000000) (hne : S.toList = []) (k1 : 0 < fed - (S.size : Int)) (k2 : fed - (S.size : Int) < 8) : Calls Tryz.prog 107 #[.int .i64 fed, .agg #[.int .i64 0, .int .i64 0], .string S, .bool false] w (BadPost w) := by
  have heq := eq_span'
  have hq : bqS 0 0 0 0 = true := by simp [bqS]
  have hsz : S.data.toList.length = S.size := by simp
  have hg := fun w => gone_any S false w _hl
  rw [← hsz] at hg
  have hst := gone_still (l := S.data.toList) (.inl (by rw [← Lib.toList_data]; exact hne))
  generalize gone false (S.data.toList.length + 1) 0 S.data.toList [] = Q at *
  have hN : S.data.toList.length - Q.2.length = 0 := by rw [hst]; omega
  have HG := Lib.hid hg
  have HN := Lib.hid hN
  clear hg hsz hN hst
  go_enter Tryz.func107, Tryz.ntmps107
  go_wp2_with fail
  have hb0 := bad_end2 w 0 0 fed 0 0 S false
  have hs0 := hb0.size
  have HB0 := Lib.hid hb0
  clear hb0
  generalize (w.alloc (.cells #[.int .i64 0, .int .i64 0] 60)).alloc (.cells #[.int .i64 fed, .int .i64 0, .int .i64 0, .string S, .bool false] 95) = W0 at *
  refine (HG.out W0).mono ?_
  rintro e w2 ⟨vG, rfl, _, _, hb2⟩
  have HB2 := Lib.hid (show Below w.heap.size w w2 from Below.next HB0.out hb2)
  clear hb2
  simp only [HN.out]
  go_wp2_with fail
  refine bodyPost_ret (v := .tuple #[.pointer none, .int .i64 1]) (by simp [results, Tryz.results107, go_sem]) rfl ⟨rfl, HB2.out⟩

set_option maxHeartbeats 2000000 in
theorem rresume_d4 (w : World) (fed ba bs : Int) (S : ByteArray) (g0 : 0 ≤ fed) (g1 : fed ≤ 4611686018427387903) (g2 : (S.size : Int) ≤ fed) (_hl : S.size ≤ 10000000000) (hq : bqS ba 0 bs 0 = false) (h1 : 1 ≤ bs) (h2 : bs ≤ fed - S.size) (h3 : (ba != fed - (S.size : Int) - bs) = false) (hne : S.toList = []) (k1 : 0 < ba) (k2 : ba < 8) : Calls Tryz.prog 107 #[.int .i64 fed, .agg #[.int .i64 ba, .int .i64 bs], .string S, .bool false] w (BadPost w) := by
  have heq := eq_span'
  have hsz : S.data.toList.length = S.size := by simp
  have hg := fun w => gone_any S false w _hl
  rw [← hsz] at hg
  have hst := gone_still (l := S.data.toList) (.inl (by rw [← Lib.toList_data]; exact hne))
  generalize gone false (S.data.toList.length + 1) 0 S.data.toList [] = Q at *
  have hN : S.data.toList.length - Q.2.length = 0 := by rw [hst]; omega
  have HG := Lib.hid hg
  have HN := Lib.hid hN
  clear hg hsz hN hst
  go_enter Tryz.func107, Tryz.ntmps107
  go_wp2_with fail
  have hb0 := bad_end2 w ba bs fed ba bs S false
  have hs0 := hb0.size
  have HB0 := Lib.hid hb0
  clear hb0
  generalize (w.alloc (.cells #[.int .i64 ba, .int .i64 bs] 60)).alloc (.cells #[.int .i64 fed, .int .i64 ba, .int .i64 bs, .string S, .bool false] 95) = W0 at *
  refine (HG.out W0).mono ?_
  rintro e w2 ⟨vG, rfl, _, _, hb2⟩
  have HB2 := Lib.hid (show Below w.heap.size w w2 from Below.next HB0.out hb2)
  clear hb2
  simp only [HN.out]
  go_wp2_with fail
  refine bodyPost_ret (v := .tuple #[.pointer none, .int .i64 1]) (by simp [results, Tryz.results107, go_sem]) rfl ⟨rfl, HB2.out⟩

set_option maxHeartbeats 2000000 in
theorem rresume_d5 (w : World) (fed : Int) (S : ByteArray) (g0 : 0 ≤ fed) (g1 : fed ≤ 4611686018427387903) (g2 : (S.size : Int) ≤ fed) (_hl : S.size ≤ 10000000000) (hne : ¬ S.toList = []) (ho : (wholeF S.data.toList).2 = true) (k1 : 0 < fed - (S.size : Int)) (k2 : fed - (S.size : Int) < 8) : Calls Tryz.prog 107 #[.int .i64 fed, .agg #[.int .i64 0, .int .i64 0], .string S, .bool false] w (BadPost w) := by
  have heq := eq_span'
  have hq : bqS 0 0 0 0 = true := by simp [bqS]
  have hsz : S.data.toList.length = S.size := by simp
  have hg := fun w => gone_any S false w _hl
  rw [← hsz] at hg
  have hst := gone_still (l := S.data.toList) (.inr ho)
  generalize gone false (S.data.toList.length + 1) 0 S.data.toList [] = Q at *
  have hN : S.data.toList.length - Q.2.length = 0 := by rw [hst]; omega
  have HG := Lib.hid hg
  have HN := Lib.hid hN
  clear hg hsz hN hst ho
  go_enter Tryz.func107, Tryz.ntmps107
  go_wp2_with fail
  have hb0 := bad_end2 w 0 0 fed 0 0 S false
  have hs0 := hb0.size
  have HB0 := Lib.hid hb0
  clear hb0
  generalize (w.alloc (.cells #[.int .i64 0, .int .i64 0] 60)).alloc (.cells #[.int .i64 fed, .int .i64 0, .int .i64 0, .string S, .bool false] 95) = W0 at *
  refine (HG.out W0).mono ?_
  rintro e w2 ⟨vG, rfl, _, _, hb2⟩
  have HB2 := Lib.hid (show Below w.heap.size w w2 from Below.next HB0.out hb2)
  clear hb2
  simp only [HN.out]
  go_wp2_with fail
  refine bodyPost_ret (v := .tuple #[.pointer none, .int .i64 1]) (by simp [results, Tryz.results107, go_sem]) rfl ⟨rfl, HB2.out⟩

set_option maxHeartbeats 2000000 in
theorem rresume_d6 (w : World) (fed ba bs : Int) (S : ByteArray) (g0 : 0 ≤ fed) (g1 : fed ≤ 4611686018427387903) (g2 : (S.size : Int) ≤ fed) (_hl : S.size ≤ 10000000000) (hq : bqS ba 0 bs 0 = false) (h1 : 1 ≤ bs) (h2 : bs ≤ fed - S.size) (h3 : (ba != fed - (S.size : Int) - bs) = false) (hne : ¬ S.toList = []) (ho : (wholeF S.data.toList).2 = true) (k1 : 0 < ba) (k2 : ba < 8) : Calls Tryz.prog 107 #[.int .i64 fed, .agg #[.int .i64 ba, .int .i64 bs], .string S, .bool false] w (BadPost w) := by
  have heq := eq_span'
  have hsz : S.data.toList.length = S.size := by simp
  have hg := fun w => gone_any S false w _hl
  rw [← hsz] at hg
  have hst := gone_still (l := S.data.toList) (.inr ho)
  generalize gone false (S.data.toList.length + 1) 0 S.data.toList [] = Q at *
  have hN : S.data.toList.length - Q.2.length = 0 := by rw [hst]; omega
  have HG := Lib.hid hg
  have HN := Lib.hid hN
  clear hg hsz hN hst ho
  go_enter Tryz.func107, Tryz.ntmps107
  go_wp2_with fail
  have hb0 := bad_end2 w ba bs fed ba bs S false
  have hs0 := hb0.size
  have HB0 := Lib.hid hb0
  clear hb0
  generalize (w.alloc (.cells #[.int .i64 ba, .int .i64 bs] 60)).alloc (.cells #[.int .i64 fed, .int .i64 ba, .int .i64 bs, .string S, .bool false] 95) = W0 at *
  refine (HG.out W0).mono ?_
  rintro e w2 ⟨vG, rfl, _, _, hb2⟩
  have HB2 := Lib.hid (show Below w.heap.size w w2 from Below.next HB0.out hb2)
  clear hb2
  simp only [HN.out]
  go_wp2_with fail
  refine bodyPost_ret (v := .tuple #[.pointer none, .int .i64 1]) (by simp [results, Tryz.results107, go_sem]) rfl ⟨rfl, HB2.out⟩

def ROkPost (w : World) (fed ba bs : Int) (S : ByteArray) (c : Bool) (e : Ending) (w' : World) : Prop :=
  e = .returned (.tuple #[.pointer (some ⟨w.heap.size + 1, 0, none⟩), .int .i64 0]) ∧ w'.heap[w.heap.size + 1]? = some (.cells #[.int .i64 fed, .int .i64 ba, .int .i64 bs, .string S, .bool c] 95 (0, 0)) ∧ Below w.heap.size w w'
theorem ok_block (w : World) (a b fed a' b' : Int) (S : ByteArray) (c : Bool) : ((w.alloc (.cells #[.int .i64 a, .int .i64 b] 60)).alloc (.cells #[.int .i64 fed, .int .i64 a', .int .i64 b', .string S, .bool c] 95)).heap[w.heap.size + 1]? = some (.cells #[.int .i64 fed, .int .i64 a', .int .i64 b', .string S, .bool c] 95 (0, 0)) := by
  have := heap_alloc_new (w.alloc (.cells #[.int .i64 a, .int .i64 b] 60)) (.cells #[.int .i64 fed, .int .i64 a', .int .i64 b', .string S, .bool c] 95)
  rwa [show (w.alloc (.cells #[.int .i64 a, .int .i64 b] 60)).heap.size = w.heap.size + 1 by simp] at this

set_option maxHeartbeats 2000000 in
theorem rresume_o1 (w : World) (fed : Int) (g0 : 0 ≤ fed) (g1 : fed ≤ 4611686018427387903) : Calls Tryz.prog 107 #[.int .i64 fed, .agg #[.int .i64 0, .int .i64 0], .string ⟨#[]⟩, .bool true] w (ROkPost w fed 0 0 ⟨#[]⟩ true) := by
  have heq := eq_span'
  have hq : bqS 0 0 0 0 = true := by simp [bqS]
  go_enter Tryz.func107, Tryz.ntmps107
  go_wp2_with fail
  refine bodyPost_ret (v := .tuple #[.pointer (some ⟨w.heap.size + 1, 0, none⟩), .int .i64 0]) (by simp [results, Tryz.results107, go_sem]) rfl ⟨rfl, ok_block _ _ _ _ _ _ _ _, bad_end2 _ _ _ _ _ _ _ _⟩

set_option maxHeartbeats 2000000 in
theorem rresume_o2 (w : World) (fed : Int) (S : ByteArray) (g0 : 0 ≤ fed) (g1 : fed ≤ 4611686018427387903) (g2 : (S.size : Int) ≤ fed) (_hl : S.size ≤ 10000000000) (ho : S.data.toList = [] ∨ (wholeF S.data.toList).2 = true) (k1 : fed - (S.size : Int) ≤ 0) : Calls Tryz.prog 107 #[.int .i64 fed, .agg #[.int .i64 0, .int .i64 0], .string S, .bool false] w (ROkPost w fed 0 0 S false) := by
  have heq := eq_span'
  have hq : bqS 0 0 0 0 = true := by simp [bqS]
  have hsz : S.data.toList.length = S.size := by simp
  have hg := fun w => gone_any S false w _hl
  rw [← hsz] at hg
  have hst := gone_still (l := S.data.toList) ho
  generalize gone false (S.data.toList.length + 1) 0 S.data.toList [] = Q at *
  have hN : S.data.toList.length - Q.2.length = 0 := by rw [hst]; omega
  have HG := Lib.hid hg
  have HN := Lib.hid hN
  clear hg hsz hN hst ho
  go_enter Tryz.func107, Tryz.ntmps107
  go_wp2_with fail
  have hb0 := bad_end2 w 0 0 fed 0 0 S false
  have hk0 := ok_block w 0 0 fed 0 0 S false
  have hs0 := hb0.size
  have HB0 := Lib.hid hb0
  have HK0 := Lib.hid hk0
  clear hb0 hk0
  generalize (w.alloc (.cells #[.int .i64 0, .int .i64 0] 60)).alloc (.cells #[.int .i64 fed, .int .i64 0, .int .i64 0, .string S, .bool false] 95) = W0 at *
  refine (HG.out W0).mono ?_
  rintro e w2 ⟨vG, rfl, _, _, hb2⟩
  have HB2 := Lib.hid (show Below w.heap.size w w2 from Below.next HB0.out hb2)
  have HK2 := Lib.hid ((Keep.of_below hb2 (Nat.le_refl _) (fun _ => False)).old HK0.out id)
  clear hb2
  simp only [HN.out]
  go_wp2_with fail
  refine bodyPost_ret (v := .tuple #[.pointer (some ⟨w.heap.size + 1, 0, none⟩), .int .i64 0]) (by simp [results, Tryz.results107, go_sem]) rfl ⟨rfl, HK2.out, HB2.out⟩

set_option maxHeartbeats 2000000 in
theorem rresume_o3 (w : World) (fed : Int) (S : ByteArray) (g0 : 0 ≤ fed) (g1 : fed ≤ 4611686018427387903) (g2 : (S.size : Int) ≤ fed) (_hl : S.size ≤ 10000000000) (ho : S.data.toList = [] ∨ (wholeF S.data.toList).2 = true) (k1 : 8 ≤ fed - (S.size : Int)) : Calls Tryz.prog 107 #[.int .i64 fed, .agg #[.int .i64 0, .int .i64 0], .string S, .bool false] w (ROkPost w fed 0 0 S false) := by
  have heq := eq_span'
  have hq : bqS 0 0 0 0 = true := by simp [bqS]
  have hsz : S.data.toList.length = S.size := by simp
  have hg := fun w => gone_any S false w _hl
  rw [← hsz] at hg
  have hst := gone_still (l := S.data.toList) ho
  generalize gone false (S.data.toList.length + 1) 0 S.data.toList [] = Q at *
  have hN : S.data.toList.length - Q.2.length = 0 := by rw [hst]; omega
  have HG := Lib.hid hg
  have HN := Lib.hid hN
  clear hg hsz hN hst ho
  go_enter Tryz.func107, Tryz.ntmps107
  go_wp2_with fail
  have hb0 := bad_end2 w 0 0 fed 0 0 S false
  have hk0 := ok_block w 0 0 fed 0 0 S false
  have hs0 := hb0.size
  have HB0 := Lib.hid hb0
  have HK0 := Lib.hid hk0
  clear hb0 hk0
  generalize (w.alloc (.cells #[.int .i64 0, .int .i64 0] 60)).alloc (.cells #[.int .i64 fed, .int .i64 0, .int .i64 0, .string S, .bool false] 95) = W0 at *
  refine (HG.out W0).mono ?_
  rintro e w2 ⟨vG, rfl, _, _, hb2⟩
  have HB2 := Lib.hid (show Below w.heap.size w w2 from Below.next HB0.out hb2)
  have HK2 := Lib.hid ((Keep.of_below hb2 (Nat.le_refl _) (fun _ => False)).old HK0.out id)
  clear hb2
  simp only [HN.out]
  go_wp2_with fail
  refine bodyPost_ret (v := .tuple #[.pointer (some ⟨w.heap.size + 1, 0, none⟩), .int .i64 0]) (by simp [results, Tryz.results107, go_sem]) rfl ⟨rfl, HK2.out, HB2.out⟩

set_option maxHeartbeats 2000000 in
theorem rresume_o4 (w : World) (fed ba bs : Int) (S : ByteArray) (g0 : 0 ≤ fed) (g1 : fed ≤ 4611686018427387903) (g2 : (S.size : Int) ≤ fed) (_hl : S.size ≤ 10000000000) (hq : bqS ba 0 bs 0 = false) (h1 : 1 ≤ bs) (h2 : bs ≤ fed - S.size) (h3 : (ba != fed - (S.size : Int) - bs) = false) (ho : S.data.toList = [] ∨ (wholeF S.data.toList).2 = true) (k1 : ba ≤ 0) : Calls Tryz.prog 107 #[.int .i64 fed, .agg #[.int .i64 ba, .int .i64 bs], .string S, .bool false] w (ROkPost w fed ba bs S false) := by
  have heq := eq_span'
  have hsz : S.data.toList.length = S.size := by simp
  have hg := fun w => gone_any S false w _hl
  rw [← hsz] at hg
  have hst := gone_still (l := S.data.toList) ho
  generalize gone false (S.data.toList.length + 1) 0 S.data.toList [] = Q at *
  have hN : S.data.toList.length - Q.2.length = 0 := by rw [hst]; omega
  have HG := Lib.hid hg
  have HN := Lib.hid hN
  clear hg hsz hN hst ho
  go_enter Tryz.func107, Tryz.ntmps107
  go_wp2_with fail
  have hb0 := bad_end2 w ba bs fed ba bs S false
  have hk0 := ok_block w ba bs fed ba bs S false
  have hs0 := hb0.size
  have HB0 := Lib.hid hb0
  have HK0 := Lib.hid hk0
  clear hb0 hk0
  generalize (w.alloc (.cells #[.int .i64 ba, .int .i64 bs] 60)).alloc (.cells #[.int .i64 fed, .int .i64 ba, .int .i64 bs, .string S, .bool false] 95) = W0 at *
  refine (HG.out W0).mono ?_
  rintro e w2 ⟨vG, rfl, _, _, hb2⟩
  have HB2 := Lib.hid (show Below w.heap.size w w2 from Below.next HB0.out hb2)
  have HK2 := Lib.hid ((Keep.of_below hb2 (Nat.le_refl _) (fun _ => False)).old HK0.out id)
  clear hb2
  simp only [HN.out]
  go_wp2_with fail
  refine bodyPost_ret (v := .tuple #[.pointer (some ⟨w.heap.size + 1, 0, none⟩), .int .i64 0]) (by simp [results, Tryz.results107, go_sem]) rfl ⟨rfl, HK2.out, HB2.out⟩

set_option maxHeartbeats 2000000 in
theorem rresume_o5 (w : World) (fed ba bs : Int) (S : ByteArray) (g0 : 0 ≤ fed) (g1 : fed ≤ 4611686018427387903) (g2 : (S.size : Int) ≤ fed) (_hl : S.size ≤ 10000000000) (hq : bqS ba 0 bs 0 = false) (h1 : 1 ≤ bs) (h2 : bs ≤ fed - S.size) (h3 : (ba != fed - (S.size : Int) - bs) = false) (ho : S.data.toList = [] ∨ (wholeF S.data.toList).2 = true) (k1 : 8 ≤ ba) : Calls Tryz.prog 107 #[.int .i64 fed, .agg #[.int .i64 ba, .int .i64 bs], .string S, .bool false] w (ROkPost w fed ba bs S false) := by
  have heq := eq_span'
  have hsz : S.data.toList.length = S.size := by simp
  have hg := fun w => gone_any S false w _hl
  rw [← hsz] at hg
  have hst := gone_still (l := S.data.toList) ho
  generalize gone false (S.data.toList.length + 1) 0 S.data.toList [] = Q at *
  have hN : S.data.toList.length - Q.2.length = 0 := by rw [hst]; omega
  have HG := Lib.hid hg
  have HN := Lib.hid hN
  clear hg hsz hN hst ho
  go_enter Tryz.func107, Tryz.ntmps107
  go_wp2_with fail
  have hb0 := bad_end2 w ba bs fed ba bs S false
  have hk0 := ok_block w ba bs fed ba bs S false
  have hs0 := hb0.size
  have HB0 := Lib.hid hb0
  have HK0 := Lib.hid hk0
  clear hb0 hk0
  generalize (w.alloc (.cells #[.int .i64 ba, .int .i64 bs] 60)).alloc (.cells #[.int .i64 fed, .int .i64 ba, .int .i64 bs, .string S, .bool false] 95) = W0 at *
  refine (HG.out W0).mono ?_
  rintro e w2 ⟨vG, rfl, _, _, hb2⟩
  have HB2 := Lib.hid (show Below w.heap.size w w2 from Below.next HB0.out hb2)
  have HK2 := Lib.hid ((Keep.of_below hb2 (Nat.le_refl _) (fun _ => False)).old HK0.out id)
  clear hb2
  simp only [HN.out]
  go_wp2_with fail
  refine bodyPost_ret (v := .tuple #[.pointer (some ⟨w.heap.size + 1, 0, none⟩), .int .i64 0]) (by simp [results, Tryz.results107, go_sem]) rfl ⟨rfl, HK2.out, HB2.out⟩

end Go.Proofs.YtmblghdiejneoaaGreat
