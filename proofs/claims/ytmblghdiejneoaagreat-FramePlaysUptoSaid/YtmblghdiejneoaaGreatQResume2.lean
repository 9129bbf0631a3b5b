/- Resume of a decoder that is open. -/
import Derived.Test.YtmblghdiejneoaaGreatQResume
import Derived.Deep.CutRange
namespace Go.Proofs.YtmblghdiejneoaaGreat
set_option maxRecDepth 100000
open Go.RowKit

set_option maxRecDepth 100000 in
set_option maxHeartbeats 4000000 in
theorem resume_open0 (w : World) (a : Nat) (l : List UInt8) (hl : l.length ≤ 100000000000) (hn : a + l.length ≤ 4611686018427387903) (ha : a = 0 ∨ 8 ≤ a) (ho : l = [] ∨ (wholeF l).2 = true) :
    Calls Tryz.prog 106 #[.int .i64 ((a + l.length : Nat) : Int), .agg #[.int .i64 0, .int .i64 0], .string ⟨l.toArray⟩, .bool false] w (ResumePost w ⟨false, a + l.length, 0, 0, l⟩) := by
  have heq := eq_span'
  have hq : bqS 0 0 0 0 = true := by simp [bqS]
  obtain ⟨S, hS⟩ : ∃ S : ByteArray, S = ⟨l.toArray⟩ := ⟨_, rfl⟩
  have hsz : S.size = l.length := by rw [hS]; rfl
  have hdat : S.data.toList = l := by rw [hS]
  rw [← hS]
  have HC := Lib.hid (fun w => clone_any S w (by omega))
  have HSL := Lib.hid hdat
  have HSZ := Lib.hid hsz
  have HO := Lib.hid ho
  have HA := Lib.hid ha
  have hcv := fun (w : World) (s : ByteArray) => run_bytes_of_string (P := Tryz.prog) w 9 22 5 s Tryz.underlying9 Tryz.underlying22 Tryz.underlying5
  have HW := Lib.hid (fun (w : World) => whole_any (some ⟨w.heap.size, 0, none⟩) S.size (grownCap w S.size 0 5) l (w.drew.alloc (.cells (bytesRow S (grownCap w S.size 0 5)) 5 ((bytesRow S (grownCap w S.size 0 5)).size, (bytesRow S (grownCap w S.size 0 5)).size + 1))) hsz.symm (by
    have := rd_conv w S (grownCap w S.size 0 5) 5 ((bytesRow S (grownCap w S.size 0 5)).size, (bytesRow S (grownCap w S.size 0 5)).size + 1)
    rw [hdat] at this
    exact this) (grownCap_ge w S.size 0 5))
  rw [← hsz] at hn hl ⊢
  clear hS hsz hdat ho ha
  go_enter Tryz.func106, Tryz.ntmps106
  go_upto_if 52 with fail
  have hW : ∀ W, W = w.alloc (.cells #[.int .i64 0, .int .i64 0] 60) → W.cell? ⟨w.heap.size, 0, none⟩ = some (.int .i64 0) ∧ W.cell? ⟨w.heap.size, 1, none⟩ = some (.int .i64 0) ∧ Hid (Below w.heap.size w W) := fun W h => by subst h; exact ⟨by go_simp, by go_simp, Lib.hid ((Below.refl _ _).alloc (Nat.le_refl _) _)⟩
  generalize w.alloc (.cells #[.int .i64 0, .int .i64 0] 60) = W0 at *
  obtain ⟨h0, h1, HB0⟩ := hW W0 rfl
  clear hW
  go_cut [11, 12] from 60 (fun a b wx => Hid (Below W0.heap.size W0 wx))
  case first =>
    have HW0 := Lib.hid (HW.out W0)
    clear HW
    go_wp2_with fail
    refine HW0.out.mono ?_
    rintro e w2 ⟨rfl, hb2⟩
    have HB2 := Lib.hid (show Below W0.heap.size W0 w2 from ((Below.refl W0.heap.size W0).drew.alloc (by simp) _).trans (hb2.mono (by simp)))
    generalize (wholeF l).1 = x1 at *
    have HOP : Hid (¬ S.toList = [] → (wholeF l).2 = true) := Lib.hid (fun hne => by
      rcases HO.out with h | h
      · exact absurd (by rw [Lib.toList_data, HSL.out, h]) hne
      · exact h)
    generalize (wholeF l).2 = x2 at *
    clear hb2 HW0
    have HA2 := HA
    go_wp2_with fail
    all_goals first
      | (go_meet; exact HB2)
      | (exfalso; exact absurd (HOP.out (by assumption)) (by assumption))
      | (exfalso; have := HA2.out; omega)
  case rest =>
    have hwc := hcut.out
    have g0 := (Keep.of_below hwc (Nat.le_refl _) (fun _ => False)).cell h0 id
    have g1 := (Keep.of_below hwc (Nat.le_refl _) (fun _ => False)).cell h1 id
    have HBC := Lib.hid (Below.next HB0.out hwc)
    clear hwc h0 h1 hcut HB0 HW HA HO
    go_wp2_with fail
    go_region_with (go_at_call 167; refine (HC.out _).mono ?_; rintro e w3 ⟨rfl, hb3⟩; have e0 := (Keep.of_below hb3 (Nat.le_refl _) (fun _ => False)).cell (p := ⟨w.heap.size, 0, none⟩) (v := .int .i64 0) (by go_simp) id; have e1 := (Keep.of_below hb3 (Nat.le_refl _) (fun _ => False)).cell (p := ⟨w.heap.size, 1, none⟩) (v := .int .i64 0) (by go_simp) id; have HB3 := Lib.hid hb3; have hd3 := World.block_lt_of_cell? w3 _ e0; simp only at hd3; clear hb3)
    all_goals
      go_wp2_with fail
      refine bodyPost_ret (v := .tuple #[.pointer (some ⟨w3.heap.size + 1, 0, none⟩), .int .i64 0]) (by simp [results, Tryz.results106, go_sem]) rfl ?_
      exact resume_done (d := ⟨false, a + S.size, 0, 0, l⟩) (S := S) HBC.out HB3.out HSL.out hl
set_option maxRecDepth 100000 in
set_option maxHeartbeats 4000000 in
theorem resume_open1 (w : World) (ba bs : Nat) (hbs : 0 < bs) (l : List UInt8) (hl : l.length ≤ 100000000000) (hn : ba + bs + l.length ≤ 4611686018427387903) (ha : ba = 0 ∨ 8 ≤ ba) (ho : l = [] ∨ (wholeF l).2 = true) :
    Calls Tryz.prog 106 #[.int .i64 ((ba + bs + l.length : Nat) : Int), .agg #[.int .i64 ba, .int .i64 bs], .string ⟨l.toArray⟩, .bool false] w (ResumePost w ⟨false, ba + bs + l.length, ba, bs, l⟩) := by
  have heq := eq_span'
  have hq : bqS ba 0 bs 0 = false := by unfold bqS; simp; intro _; omega
  obtain ⟨S, hS⟩ : ∃ S : ByteArray, S = ⟨l.toArray⟩ := ⟨_, rfl⟩
  have hsz : S.size = l.length := by rw [hS]; rfl
  have hdat : S.data.toList = l := by rw [hS]
  rw [← hS]
  have HC := Lib.hid (fun w => clone_any S w (by omega))
  have HSL := Lib.hid hdat
  have HSZ := Lib.hid hsz
  have HO := Lib.hid ho
  have HA := Lib.hid ha
  have hcv := fun (w : World) (s : ByteArray) => run_bytes_of_string (P := Tryz.prog) w 9 22 5 s Tryz.underlying9 Tryz.underlying22 Tryz.underlying5
  have HW := Lib.hid (fun (w : World) => whole_any (some ⟨w.heap.size, 0, none⟩) S.size (grownCap w S.size 0 5) l (w.drew.alloc (.cells (bytesRow S (grownCap w S.size 0 5)) 5 ((bytesRow S (grownCap w S.size 0 5)).size, (bytesRow S (grownCap w S.size 0 5)).size + 1))) hsz.symm (by
    have := rd_conv w S (grownCap w S.size 0 5) 5 ((bytesRow S (grownCap w S.size 0 5)).size, (bytesRow S (grownCap w S.size 0 5)).size + 1)
    rw [hdat] at this
    exact this) (grownCap_ge w S.size 0 5))
  rw [← hsz] at hn hl ⊢
  have hbs1 : (1 : Int) ≤ (bs : Int) := by omega
  clear hS hsz hdat ho ha
  go_enter Tryz.func106, Tryz.ntmps106
  go_upto_if 52 with fail
  have hW : ∀ W, W = w.alloc (.cells #[.int .i64 ba, .int .i64 bs] 60) → W.cell? ⟨w.heap.size, 0, none⟩ = some (.int .i64 ba) ∧ W.cell? ⟨w.heap.size, 1, none⟩ = some (.int .i64 bs) ∧ Hid (Below w.heap.size w W) := fun W h => by subst h; exact ⟨by go_simp, by go_simp, Lib.hid ((Below.refl _ _).alloc (Nat.le_refl _) _)⟩
  generalize w.alloc (.cells #[.int .i64 ba, .int .i64 bs] 60) = W0 at *
  obtain ⟨h0, h1, HB0⟩ := hW W0 rfl
  clear hW
  go_cut [11, 12] from 60 (fun a b wx => Hid (Below W0.heap.size W0 wx))
  case first =>
    have HW0 := Lib.hid (HW.out W0)
    clear HW
    go_wp2_with fail
    refine HW0.out.mono ?_
    rintro e w2 ⟨rfl, hb2⟩
    have HB2 := Lib.hid (show Below W0.heap.size W0 w2 from ((Below.refl W0.heap.size W0).drew.alloc (by simp) _).trans (hb2.mono (by simp)))
    generalize (wholeF l).1 = x1 at *
    have HOP : Hid (¬ S.toList = [] → (wholeF l).2 = true) := Lib.hid (fun hne => by
      rcases HO.out with h | h
      · exact absurd (by rw [Lib.toList_data, HSL.out, h]) hne
      · exact h)
    generalize (wholeF l).2 = x2 at *
    clear hb2 HW0
    have HA2 := HA
    go_wp2_with fail
    all_goals first
      | (go_meet; exact HB2)
      | (exfalso; exact absurd (HOP.out (by assumption)) (by assumption))
      | (exfalso; have := HA2.out; omega)
  case rest =>
    have hwc := hcut.out
    have g0 := (Keep.of_below hwc (Nat.le_refl _) (fun _ => False)).cell h0 id
    have g1 := (Keep.of_below hwc (Nat.le_refl _) (fun _ => False)).cell h1 id
    have HBC := Lib.hid (Below.next HB0.out hwc)
    clear hwc h0 h1 hcut HB0 HW HA HO
    go_wp2_with fail
    go_region_with (go_at_call 167; refine (HC.out _).mono ?_; rintro e w3 ⟨rfl, hb3⟩; have e0 := (Keep.of_below hb3 (Nat.le_refl _) (fun _ => False)).cell (p := ⟨w.heap.size, 0, none⟩) (v := .int .i64 ba) (by go_simp) id; have e1 := (Keep.of_below hb3 (Nat.le_refl _) (fun _ => False)).cell (p := ⟨w.heap.size, 1, none⟩) (v := .int .i64 bs) (by go_simp) id; have HB3 := Lib.hid hb3; have hd3 := World.block_lt_of_cell? w3 _ e0; simp only at hd3; clear hb3)
    all_goals
      go_wp2_with fail
      refine bodyPost_ret (v := .tuple #[.pointer (some ⟨w3.heap.size + 1, 0, none⟩), .int .i64 0]) (by simp [results, Tryz.results106, go_sem]) rfl ?_
      exact resume_done (d := ⟨false, ba + bs + S.size, ba, bs, l⟩) (S := S) HBC.out HB3.out HSL.out hl
end Go.Proofs.YtmblghdiejneoaaGreat
