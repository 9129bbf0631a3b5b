/- Resume, asked for a decoder that cannot be. (Printed by genbad.py.) -/
import Derived.Test.YtmblghdiejneoaaGreatQPair
namespace Go.Proofs.YtmblghdiejneoaaGreat
set_option maxRecDepth 100000
set_option linter.unusedVariables false
open Go.RowKit

def BadPost (w : World) (e : Ending) (w' : World) : Prop := e = .returned (.tuple #[.pointer none, .int .i64 1]) ∧ Below w.heap.size w w'
theorem bad_end1 (w : World) (a b : Int) : Below w.heap.size w (w.alloc (.cells #[.int .i64 a, .int .i64 b] 60)) := (Below.refl _ _).alloc (Nat.le_refl _) _

set_option maxHeartbeats 2000000 in
theorem resume_a1 (w : World) (fed ba bs : Int) (S : ByteArray) (c : Bool) (h1 : fed < 0) : Calls Tryz.prog 106 #[.int .i64 fed, .agg #[.int .i64 ba, .int .i64 bs], .string S, .bool c] w (BadPost w) := by
  have heq := eq_span'
  go_enter Tryz.func106, Tryz.ntmps106
  go_wp2_with fail
  refine bodyPost_ret (v := .tuple #[.pointer none, .int .i64 1]) (by simp [results, Tryz.results106, go_sem]) rfl ⟨rfl, bad_end1 _ _ _⟩

set_option maxHeartbeats 2000000 in
theorem resume_a2 (w : World) (fed ba bs : Int) (S : ByteArray) (c : Bool) (g0 : 0 ≤ fed) (h1 : 4611686018427387903 < fed) : Calls Tryz.prog 106 #[.int .i64 fed, .agg #[.int .i64 ba, .int .i64 bs], .string S, .bool c] w (BadPost w) := by
  have heq := eq_span'
  go_enter Tryz.func106, Tryz.ntmps106
  go_wp2_with fail
  refine bodyPost_ret (v := .tuple #[.pointer none, .int .i64 1]) (by simp [results, Tryz.results106, go_sem]) rfl ⟨rfl, bad_end1 _ _ _⟩

set_option maxHeartbeats 2000000 in
theorem resume_a3 (w : World) (fed ba bs : Int) (S : ByteArray) (c : Bool) (g0 : 0 ≤ fed) (g1 : fed ≤ 4611686018427387903) (h1 : fed < (S.size : Int)) : Calls Tryz.prog 106 #[.int .i64 fed, .agg #[.int .i64 ba, .int .i64 bs], .string S, .bool c] w (BadPost w) := by
  have heq := eq_span'
  go_enter Tryz.func106, Tryz.ntmps106
  go_wp2_with fail
  refine bodyPost_ret (v := .tuple #[.pointer none, .int .i64 1]) (by simp [results, Tryz.results106, go_sem]) rfl ⟨rfl, bad_end1 _ _ _⟩

set_option maxHeartbeats 2000000 in
theorem resume_b1 (w : World) (fed ba bs : Int) (S : ByteArray) (c : Bool) (g0 : 0 ≤ fed) (g1 : fed ≤ 4611686018427387903) (g2 : (S.size : Int) ≤ fed) (hq : bqS ba 0 bs 0 = false) (h1 : bs < 1) : Calls Tryz.prog 106 #[.int .i64 fed, .agg #[.int .i64 ba, .int .i64 bs], .string S, .bool c] w (BadPost w) := by
  have heq := eq_span'
  go_enter Tryz.func106, Tryz.ntmps106
  go_wp2_with fail
  refine bodyPost_ret (v := .tuple #[.pointer none, .int .i64 1]) (by simp [results, Tryz.results106, go_sem]) rfl ⟨rfl, bad_end1 _ _ _⟩

set_option maxHeartbeats 2000000 in
theorem resume_b2 (w : World) (fed ba bs : Int) (S : ByteArray) (c : Bool) (g0 : 0 ≤ fed) (g1 : fed ≤ 4611686018427387903) (g2 : (S.size : Int) ≤ fed) (hq : bqS ba 0 bs 0 = false) (h1 : 1 ≤ bs) (h2 : fed - S.size < bs) : Calls Tryz.prog 106 #[.int .i64 fed, .agg #[.int .i64 ba, .int .i64 bs], .string S, .bool c] w (BadPost w) := by
  have heq := eq_span'
  go_enter Tryz.func106, Tryz.ntmps106
  go_wp2_with fail
  refine bodyPost_ret (v := .tuple #[.pointer none, .int .i64 1]) (by simp [results, Tryz.results106, go_sem]) rfl ⟨rfl, bad_end1 _ _ _⟩

set_option maxHeartbeats 2000000 in
theorem resume_b3 (w : World) (fed ba bs : Int) (S : ByteArray) (c : Bool) (g0 : 0 ≤ fed) (g1 : fed ≤ 4611686018427387903) (g2 : (S.size : Int) ≤ fed) (hq : bqS ba 0 bs 0 = false) (h1 : 1 ≤ bs) (h2 : bs ≤ fed - S.size) (h3 : (ba != fed - (S.size : Int) - bs) = true) : Calls Tryz.prog 106 #[.int .i64 fed, .agg #[.int .i64 ba, .int .i64 bs], .string S, .bool c] w (BadPost w) := by
  have heq := eq_span'
  go_enter Tryz.func106, Tryz.ntmps106
  go_wp2_with fail
  refine bodyPost_ret (v := .tuple #[.pointer none, .int .i64 1]) (by simp [results, Tryz.results106, go_sem]) rfl ⟨rfl, bad_end1 _ _ _⟩

set_option maxHeartbeats 2000000 in
theorem resume_c1 (w : World) (fed : Int) (S : ByteArray) (g0 : 0 ≤ fed) (g1 : fed ≤ 4611686018427387903) (g2 : (S.size : Int) ≤ fed) (hne : ¬ S.toList = []) : Calls Tryz.prog 106 #[.int .i64 fed, .agg #[.int .i64 0, .int .i64 0], .string S, .bool true] w (BadPost w) := by
  have heq := eq_span'
  have hq : bqS 0 0 0 0 = true := by simp [bqS]
  go_enter Tryz.func106, Tryz.ntmps106
  go_wp2_with fail
  refine bodyPost_ret (v := .tuple #[.pointer none, .int .i64 1]) (by simp [results, Tryz.results106, go_sem]) rfl ⟨rfl, bad_end1 _ _ _⟩

set_option maxHeartbeats 2000000 in
theorem resume_c2 (w : World) (fed ba bs : Int) (S : ByteArray) (g0 : 0 ≤ fed) (g1 : fed ≤ 4611686018427387903) (g2 : (S.size : Int) ≤ fed) (hq : bqS ba 0 bs 0 = false) (h1 : 1 ≤ bs) (h2 : bs ≤ fed - S.size) (h3 : (ba != fed - (S.size : Int) - bs) = false) (hne : ¬ S.toList = []) : Calls Tryz.prog 106 #[.int .i64 fed, .agg #[.int .i64 ba, .int .i64 bs], .string S, .bool true] w (BadPost w) := by
  have heq := eq_span'
  go_enter Tryz.func106, Tryz.ntmps106
  go_wp2_with fail
  refine bodyPost_ret (v := .tuple #[.pointer none, .int .i64 1]) (by simp [results, Tryz.results106, go_sem]) rfl ⟨rfl, bad_end1 _ _ _⟩

set_option maxHeartbeats 2000000 in
theorem resume_c3 (w : World) (fed ba bs : Int) (S : ByteArray) (g0 : 0 ≤ fed) (g1 : fed ≤ 4611686018427387903) (g2 : (S.size : Int) ≤ fed) (hq : bqS ba 0 bs 0 = false) (h1 : 1 ≤ bs) (h2 : bs ≤ fed - S.size) (h3 : (ba != fed - (S.size : Int) - bs) = false) (hne : S.toList = []) : Calls Tryz.prog 106 #[.int .i64 fed, .agg #[.int .i64 ba, .int .i64 bs], .string S, .bool true] w (BadPost w) := by
  have heq := eq_span'
  go_enter Tryz.func106, Tryz.ntmps106
  go_wp2_with fail
  refine bodyPost_ret (v := .tuple #[.pointer none, .int .i64 1]) (by simp [results, Tryz.results106, go_sem]) rfl ⟨rfl, bad_end1 _ _ _⟩

set_option maxHeartbeats 2000000 in
theorem resume_d1 (w : World) (fed : Int) (S : ByteArray) (g0 : 0 ≤ fed) (g1 : fed ≤ 4611686018427387903) (g2 : (S.size : Int) ≤ fed) (_hl : S.size ≤ 10000000000) (hne : ¬ S.toList = []) (ho : (wholeF S.data.toList).2 = false) : Calls Tryz.prog 106 #[.int .i64 fed, .agg #[.int .i64 0, .int .i64 0], .string S, .bool false] w (BadPost w) := by
  have heq := eq_span'
  have hq : bqS 0 0 0 0 = true := by simp [bqS]
  have hcv := fun (w : World) (s : ByteArray) => run_bytes_of_string (P := Tryz.prog) w 9 22 5 s Tryz.underlying9 Tryz.underlying22 Tryz.underlying5
  have hsz : S.data.toList.length = S.size := by simp
  have HW := Lib.hid (fun (w : World) => whole_any (some ⟨w.heap.size, 0, none⟩) S.size (grownCap w S.size 0 5) S.data.toList (w.drew.alloc (.cells (bytesRow S (grownCap w S.size 0 5)) 5 ((bytesRow S (grownCap w S.size 0 5)).size, (bytesRow S (grownCap w S.size 0 5)).size + 1))) hsz (by
    exact rd_conv w S (grownCap w S.size 0 5) 5 ((bytesRow S (grownCap w S.size 0 5)).size, (bytesRow S (grownCap w S.size 0 5)).size + 1)) (grownCap_ge w S.size 0 5))
  have HL := Lib.hid hsz
  have HO := Lib.hid ho
  clear ho
  clear hsz
  go_enter Tryz.func106, Tryz.ntmps106
  go_upto_if 52 with fail
  have hb0 := bad_end1 w 0 0
  have hs0 := hb0.size
  have HB0 := Lib.hid hb0
  clear hb0
  generalize w.alloc (.cells #[.int .i64 0, .int .i64 0] 60) = W0 at *
  have HW0 := Lib.hid (HW.out W0)
  clear HW
  go_wp2_with fail
  refine HW0.out.mono ?_
  rintro e w2 ⟨rfl, hb2⟩
  have HB2 := Lib.hid (show Below w.heap.size w w2 from (HB0.out.trans (((Below.refl W0.heap.size W0).drew.alloc (by simp) _).mono hs0)).trans (hb2.mono (by simp; omega)))
  clear hb2
  simp only [HO.out]
  generalize (wholeF S.data.toList).1 = x1 at *
  go_wp2_with fail
  refine bodyPost_ret (v := .tuple #[.pointer none, .int .i64 1]) (by simp [results, Tryz.results106, go_sem]) rfl ⟨rfl, HB2.out⟩

set_option maxHeartbeats 2000000 in
theorem resume_d2 (w : World) (fed ba bs : Int) (S : ByteArray) (g0 : 0 ≤ fed) (g1 : fed ≤ 4611686018427387903) (g2 : (S.size : Int) ≤ fed) (_hl : S.size ≤ 10000000000) (hq : bqS ba 0 bs 0 = false) (h1 : 1 ≤ bs) (h2 : bs ≤ fed - S.size) (h3 : (ba != fed - (S.size : Int) - bs) = false) (hne : ¬ S.toList = []) (ho : (wholeF S.data.toList).2 = false) : Calls Tryz.prog 106 #[.int .i64 fed, .agg #[.int .i64 ba, .int .i64 bs], .string S, .bool false] w (BadPost w) := by
  have heq := eq_span'
  have hcv := fun (w : World) (s : ByteArray) => run_bytes_of_string (P := Tryz.prog) w 9 22 5 s Tryz.underlying9 Tryz.underlying22 Tryz.underlying5
  have hsz : S.data.toList.length = S.size := by simp
  have HW := Lib.hid (fun (w : World) => whole_any (some ⟨w.heap.size, 0, none⟩) S.size (grownCap w S.size 0 5) S.data.toList (w.drew.alloc (.cells (bytesRow S (grownCap w S.size 0 5)) 5 ((bytesRow S (grownCap w S.size 0 5)).size, (bytesRow S (grownCap w S.size 0 5)).size + 1))) hsz (by
    exact rd_conv w S (grownCap w S.size 0 5) 5 ((bytesRow S (grownCap w S.size 0 5)).size, (bytesRow S (grownCap w S.size 0 5)).size + 1)) (grownCap_ge w S.size 0 5))
  have HL := Lib.hid hsz
  have HO := Lib.hid ho
  clear ho
  clear hsz
  go_enter Tryz.func106, Tryz.ntmps106
  go_upto_if 52 with fail
  have hb0 := bad_end1 w ba bs
  have hs0 := hb0.size
  have HB0 := Lib.hid hb0
  clear hb0
  generalize w.alloc (.cells #[.int .i64 ba, .int .i64 bs] 60) = W0 at *
  have HW0 := Lib.hid (HW.out W0)
  clear HW
  go_wp2_with fail
  refine HW0.out.mono ?_
  rintro e w2 ⟨rfl, hb2⟩
  have HB2 := Lib.hid (show Below w.heap.size w w2 from (HB0.out.trans (((Below.refl W0.heap.size W0).drew.alloc (by simp) _).mono hs0)).trans (hb2.mono (by simp; omega)))
  clear hb2
  simp only [HO.out]
  generalize (wholeF S.data.toList).1 = x1 at *
  go_wp2_with fail
  refine bodyPost_ret (v := .tuple #[.pointer none, .int .i64 1]) (by simp [results, Tryz.results106, go_sem]) rfl ⟨rfl, HB2.out⟩

set_option maxHeartbeats 2000000 in
theorem resume_d3 (w : World) (fed : Int) (S : ByteArray) (g0 : 0 ≤ fed) (g1 : fed ≤ 4611686018427387903) (g2 : (S.size : Int) ≤ fed) (_hl : S.size ≤ 10000000000) (hne : S.toList = []) (k1 : 0 < fed - (S.size : Int)) (k2 : fed - (S.size : Int) < 8) : Calls Tryz.prog 106 #[.int .i64 fed, .agg #[.int .i64 0, .int .i64 0], .string S, .bool false] w (BadPost w) := by
  have heq := eq_span'
  have hq : bqS 0 0 0 0 = true := by simp [bqS]
  have hcv := fun (w : World) (s : ByteArray) => run_bytes_of_string (P := Tryz.prog) w 9 22 5 s Tryz.underlying9 Tryz.underlying22 Tryz.underlying5
  have hsz : S.data.toList.length = S.size := by simp
  have HW := Lib.hid (fun (w : World) => whole_any (some ⟨w.heap.size, 0, none⟩) S.size (grownCap w S.size 0 5) S.data.toList (w.drew.alloc (.cells (bytesRow S (grownCap w S.size 0 5)) 5 ((bytesRow S (grownCap w S.size 0 5)).size, (bytesRow S (grownCap w S.size 0 5)).size + 1))) hsz (by
    exact rd_conv w S (grownCap w S.size 0 5) 5 ((bytesRow S (grownCap w S.size 0 5)).size, (bytesRow S (grownCap w S.size 0 5)).size + 1)) (grownCap_ge w S.size 0 5))
  have HL := Lib.hid hsz
  clear hsz
  go_enter Tryz.func106, Tryz.ntmps106
  go_upto_if 52 with fail
  have hb0 := bad_end1 w 0 0
  have hs0 := hb0.size
  have HB0 := Lib.hid hb0
  clear hb0
  generalize w.alloc (.cells #[.int .i64 0, .int .i64 0] 60) = W0 at *
  have HW0 := Lib.hid (HW.out W0)
  clear HW
  go_wp2_with fail
  refine HW0.out.mono ?_
  rintro e w2 ⟨rfl, hb2⟩
  have HB2 := Lib.hid (show Below w.heap.size w w2 from (HB0.out.trans (((Below.refl W0.heap.size W0).drew.alloc (by simp) _).mono hs0)).trans (hb2.mono (by simp; omega)))
  clear hb2
  generalize (wholeF S.data.toList).2 = x2 at *
  generalize (wholeF S.data.toList).1 = x1 at *
  go_wp2_with fail
  refine bodyPost_ret (v := .tuple #[.pointer none, .int .i64 1]) (by simp [results, Tryz.results106, go_sem]) rfl ⟨rfl, HB2.out⟩

set_option maxHeartbeats 2000000 in
theorem resume_d4 (w : World) (fed ba bs : Int) (S : ByteArray) (g0 : 0 ≤ fed) (g1 : fed ≤ 4611686018427387903) (g2 : (S.size : Int) ≤ fed) (_hl : S.size ≤ 10000000000) (hq : bqS ba 0 bs 0 = false) (h1 : 1 ≤ bs) (h2 : bs ≤ fed - S.size) (h3 : (ba != fed - (S.size : Int) - bs) = false) (hne : S.toList = []) (k1 : 0 < ba) (k2 : ba < 8) : Calls Tryz.prog 106 #[.int .i64 fed, .agg #[.int .i64 ba, .int .i64 bs], .string S, .bool false] w (BadPost w) := by
  have heq := eq_span'
  have hcv := fun (w : World) (s : ByteArray) => run_bytes_of_string (P := Tryz.prog) w 9 22 5 s Tryz.underlying9 Tryz.underlying22 Tryz.underlying5
  have hsz : S.data.toList.length = S.size := by simp
  have HW := Lib.hid (fun (w : World) => whole_any (some ⟨w.heap.size, 0, none⟩) S.size (grownCap w S.size 0 5) S.data.toList (w.drew.alloc (.cells (bytesRow S (grownCap w S.size 0 5)) 5 ((bytesRow S (grownCap w S.size 0 5)).size, (bytesRow S (grownCap w S.size 0 5)).size + 1))) hsz (by
    exact rd_conv w S (grownCap w S.size 0 5) 5 ((bytesRow S (grownCap w S.size 0 5)).size, (bytesRow S (grownCap w S.size 0 5)).size + 1)) (grownCap_ge w S.size 0 5))
  have HL := Lib.hid hsz
  clear hsz
  go_enter Tryz.func106, Tryz.ntmps106
  go_upto_if 52 with fail
  have hb0 := bad_end1 w ba bs
  have hs0 := hb0.size
  have HB0 := Lib.hid hb0
  clear hb0
  generalize w.alloc (.cells #[.int .i64 ba, .int .i64 bs] 60) = W0 at *
  have HW0 := Lib.hid (HW.out W0)
  clear HW
  go_wp2_with fail
  refine HW0.out.mono ?_
  rintro e w2 ⟨rfl, hb2⟩
  have HB2 := Lib.hid (show Below w.heap.size w w2 from (HB0.out.trans (((Below.refl W0.heap.size W0).drew.alloc (by simp) _).mono hs0)).trans (hb2.mono (by simp; omega)))
  clear hb2
  generalize (wholeF S.data.toList).2 = x2 at *
  generalize (wholeF S.data.toList).1 = x1 at *
  go_wp2_with fail
  refine bodyPost_ret (v := .tuple #[.pointer none, .int .i64 1]) (by simp [results, Tryz.results106, go_sem]) rfl ⟨rfl, HB2.out⟩

set_option maxHeartbeats 2000000 in
theorem resume_d5 (w : World) (fed : Int) (S : ByteArray) (g0 : 0 ≤ fed) (g1 : fed ≤ 4611686018427387903) (g2 : (S.size : Int) ≤ fed) (_hl : S.size ≤ 10000000000) (hne : ¬ S.toList = []) (ho : (wholeF S.data.toList).2 = true) (k1 : 0 < fed - (S.size : Int)) (k2 : fed - (S.size : Int) < 8) : Calls Tryz.prog 106 #[.int .i64 fed, .agg #[.int .i64 0, .int .i64 0], .string S, .bool false] w (BadPost w) := by
  have heq := eq_span'
  have hq : bqS 0 0 0 0 = true := by simp [bqS]
  have hcv := fun (w : World) (s : ByteArray) => run_bytes_of_string (P := Tryz.prog) w 9 22 5 s Tryz.underlying9 Tryz.underlying22 Tryz.underlying5
  have hsz : S.data.toList.length = S.size := by simp
  have HW := Lib.hid (fun (w : World) => whole_any (some ⟨w.heap.size, 0, none⟩) S.size (grownCap w S.size 0 5) S.data.toList (w.drew.alloc (.cells (bytesRow S (grownCap w S.size 0 5)) 5 ((bytesRow S (grownCap w S.size 0 5)).size, (bytesRow S (grownCap w S.size 0 5)).size + 1))) hsz (by
    exact rd_conv w S (grownCap w S.size 0 5) 5 ((bytesRow S (grownCap w S.size 0 5)).size, (bytesRow S (grownCap w S.size 0 5)).size + 1)) (grownCap_ge w S.size 0 5))
  have HL := Lib.hid hsz
  have HO := Lib.hid ho
  clear ho
  clear hsz
  go_enter Tryz.func106, Tryz.ntmps106
  go_upto_if 52 with fail
  have hb0 := bad_end1 w 0 0
  have hs0 := hb0.size
  have HB0 := Lib.hid hb0
  clear hb0
  generalize w.alloc (.cells #[.int .i64 0, .int .i64 0] 60) = W0 at *
  have HW0 := Lib.hid (HW.out W0)
  clear HW
  go_wp2_with fail
  refine HW0.out.mono ?_
  rintro e w2 ⟨rfl, hb2⟩
  have HB2 := Lib.hid (show Below w.heap.size w w2 from (HB0.out.trans (((Below.refl W0.heap.size W0).drew.alloc (by simp) _).mono hs0)).trans (hb2.mono (by simp; omega)))
  clear hb2
  simp only [HO.out]
  generalize (wholeF S.data.toList).1 = x1 at *
  go_wp2_with fail
  refine bodyPost_ret (v := .tuple #[.pointer none, .int .i64 1]) (by simp [results, Tryz.results106, go_sem]) rfl ⟨rfl, HB2.out⟩

set_option maxHeartbeats 2000000 in
theorem resume_d6 (w : World) (fed ba bs : Int) (S : ByteArray) (g0 : 0 ≤ fed) (g1 : fed ≤ 4611686018427387903) (g2 : (S.size : Int) ≤ fed) (_hl : S.size ≤ 10000000000) (hq : bqS ba 0 bs 0 = false) (h1 : 1 ≤ bs) (h2 : bs ≤ fed - S.size) (h3 : (ba != fed - (S.size : Int) - bs) = false) (hne : ¬ S.toList = []) (ho : (wholeF S.data.toList).2 = true) (k1 : 0 < ba) (k2 : ba < 8) : Calls Tryz.prog 106 #[.int .i64 fed, .agg #[.int .i64 ba, .int .i64 bs], .string S, .bool false] w (BadPost w) := by
  have heq := eq_span'
  have hcv := fun (w : World) (s : ByteArray) => run_bytes_of_string (P := Tryz.prog) w 9 22 5 s Tryz.underlying9 Tryz.underlying22 Tryz.underlying5
  have hsz : S.data.toList.length = S.size := by simp
  have HW := Lib.hid (fun (w : World) => whole_any (some ⟨w.heap.size, 0, none⟩) S.size (grownCap w S.size 0 5) S.data.toList (w.drew.alloc (.cells (bytesRow S (grownCap w S.size 0 5)) 5 ((bytesRow S (grownCap w S.size 0 5)).size, (bytesRow S (grownCap w S.size 0 5)).size + 1))) hsz (by
    exact rd_conv w S (grownCap w S.size 0 5) 5 ((bytesRow S (grownCap w S.size 0 5)).size, (bytesRow S (grownCap w S.size 0 5)).size + 1)) (grownCap_ge w S.size 0 5))
  have HL := Lib.hid hsz
  have HO := Lib.hid ho
  clear ho
  clear hsz
  go_enter Tryz.func106, Tryz.ntmps106
  go_upto_if 52 with fail
  have hb0 := bad_end1 w ba bs
  have hs0 := hb0.size
  have HB0 := Lib.hid hb0
  clear hb0
  generalize w.alloc (.cells #[.int .i64 ba, .int .i64 bs] 60) = W0 at *
  have HW0 := Lib.hid (HW.out W0)
  clear HW
  go_wp2_with fail
  refine HW0.out.mono ?_
  rintro e w2 ⟨rfl, hb2⟩
  have HB2 := Lib.hid (show Below w.heap.size w w2 from (HB0.out.trans (((Below.refl W0.heap.size W0).drew.alloc (by simp) _).mono hs0)).trans (hb2.mono (by simp; omega)))
  clear hb2
  simp only [HO.out]
  generalize (wholeF S.data.toList).1 = x1 at *
  go_wp2_with fail
  refine bodyPost_ret (v := .tuple #[.pointer none, .int .i64 1]) (by simp [results, Tryz.results106, go_sem]) rfl ⟨rfl, HB2.out⟩

end Go.Proofs.YtmblghdiejneoaaGreat
