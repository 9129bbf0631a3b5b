/- The decoder in memory, and its small methods. -/
import Derived.Test.YtmblghdiejneoaaGreatQRPack
import Derived.BigRegion
import Derived.RegionTactic
import Derived.ChangeAlike
namespace Go.Proofs.YtmblghdiejneoaaGreat
set_option maxRecDepth 100000
open Go.RowKit

theorem there_made (D : Nat) (w : World) (h : w.cell? ⟨D, 0, none⟩ = some (.bool true)) :
    Calls Tryz.prog 108 #[.pointer (some ⟨D, 0, none⟩)] w fun e w' => e = .returned (.bool true) ∧ w = w' := by
  go_enter Tryz.func108, Tryz.ntmps108
  go_wp2
  go_ret
  exact ⟨rfl, rfl⟩
theorem there_zero (D : Nat) (w : World) (h : w.cell? ⟨D, 0, none⟩ = some (.bool false)) :
    Calls Tryz.prog 108 #[.pointer (some ⟨D, 0, none⟩)] w fun e w' => e = .returned (.bool false) ∧ w = w' := by
  go_enter Tryz.func108, Tryz.ntmps108
  go_wp2
  go_ret
  exact ⟨rfl, rfl⟩
theorem there_nil (w : World) :
    Calls Tryz.prog 108 #[.pointer none] w fun e w' => e = .returned (.bool false) ∧ w = w' := by
  go_enter Tryz.func108, Tryz.ntmps108
  go_wp2
  go_ret
  exact ⟨rfl, rfl⟩
theorem new_any (w : World) :
    Calls Tryz.prog 16 #[] w fun e w' => e = .returned (.pointer (some ⟨w.heap.size, 0, none⟩)) ∧ w.alloc (.cells #[.bool true, .bool false, .int .i64 0, .int .i64 0, .int .i64 0, .slice none 0 0] 93) = w' := by
  go_enter Tryz.func16, Tryz.ntmps16
  go_wp2
  go_ret
  exact ⟨rfl, rfl⟩

/-- How a decoder stands: closed; how many bytes were fed; the bad bytes not told yet; what is not decided. -/
structure DSt where
  closed : Bool
  fed : Nat
  ba : Nat
  bs : Nat
  rest : List UInt8

/-- A decoder that was made, at block D; its rest is the slice r. -/
structure DecAt (w : World) (D : Nat) (r : Value) (d : DSt) : Prop where
  block : w.heap[D]? = some (.cells #[.bool true, .bool d.closed, .int .i64 d.fed, .int .i64 d.ba, .int .i64 d.bs, r] 93 (0, 0))
  own : Own w 1 r d.rest.length (bcells d.rest)
  apart : r.ownBlock ≠ some D

/-- The six cells of a decoder. -/
theorem six_cells {w : World} {D : Nat} {a b c d e f : Value} {t : TypeId} (h : w.heap[D]? = some (.cells #[a, b, c, d, e, f] t (0, 0))) :
    w.cell? ⟨D, 0, none⟩ = some a ∧ w.cell? ⟨D, 1, none⟩ = some b ∧ w.cell? ⟨D, 2, none⟩ = some c ∧ w.cell? ⟨D, 3, none⟩ = some d ∧ w.cell? ⟨D, 4, none⟩ = some e ∧ w.cell? ⟨D, 5, none⟩ = some f ∧ (∀ j, w.frozen? ⟨D, j, none⟩ = false) := by
  refine ⟨?_, ?_, ?_, ?_, ?_, ?_, fun j => ?_⟩ <;> simp [World.cell?, World.frozen?, h]

/-- A store into a block that is known whole. -/
theorem row_set {w : World} {D : Nat} {cs : Array Value} {t : TypeId} (h : w.heap[D]? = some (.cells cs t (0, 0))) (i : Nat) (v : Value) : (w.setCell ⟨D, i, none⟩ v).heap[D]? = some (.cells (cs.setIfInBounds i v) t (0, 0)) := heap_setCell_same w D i cs t v h

theorem DecAt.keep {X : Nat → Prop} {w w' : World} {D : Nat} {r : Value} {d : DSt} (h : DecAt w D r d) (k : Keep X w w') (h1 : ¬ X D) (h2 : ∀ g, r.ownBlock = some g → ¬ X g) : DecAt w' D r d :=
  ⟨k.old h.block h1, h.own.keep k h2, h.apart⟩
theorem DecAt.lt {w : World} {D : Nat} {r : Value} {d : DSt} (h : DecAt w D r d) : D < w.heap.size := lt_of_block h.block

set_option maxHeartbeats 1000000 in
theorem seen_any (w : World) (D : Nat) (r : Value) (d : DSt) (h : DecAt w D r d) (hf : d.fed ≤ 4611686018427387903) (hr : d.rest.length ≤ d.fed) :
    Calls Tryz.prog 112 #[.pointer (some ⟨D, 0, none⟩)] w fun e w' => e = .returned (.tuple #[.int .i64 d.fed, .int .i64 ((d.fed - d.rest.length : Nat) : Int)]) ∧ ∃ n, w' = w.drewN n := by
  obtain ⟨c0, c1, c2, c3, c4, c5, hfr⟩ := six_cells h.block
  obtain ⟨ao, cap, he, hl, hrd, hcap, _, _⟩ := h.own.shape
  have he' := he
  rw [he] at c5
  have hsub : ((d.fed - d.rest.length : Nat) : Int) = (d.fed : Int) - (d.rest.length : Int) := by omega
  have HS := Lib.hid hsub
  clear hsub hrd he hl
  go_enter Tryz.func112, Tryz.ntmps112
  go_wp2_with (go_at_call 108; refine (there_made D _ c0).mono ?_; rintro e w1 ⟨rfl, rfl⟩)
  go_quiet (fail)
  go_wp2
  go_ret2
  rw [HS.out]
  exact ⟨rfl, _, rfl⟩

set_option maxHeartbeats 1000000 in
theorem held_any (w : World) (D : Nat) (r : Value) (d : DSt) (h : DecAt w D r d) :
    Calls Tryz.prog 114 #[.pointer (some ⟨D, 0, none⟩)] w fun e w' => e = .returned (.tuple #[.int .i64 d.fed, .agg #[.int .i64 d.ba, .int .i64 d.bs], .string ⟨d.rest.toArray⟩, .bool d.closed]) ∧ Below w.heap.size w w' := by
  obtain ⟨c0, c1, c2, c3, c4, c5, hfr⟩ := six_cells h.block
  obtain ⟨ao, cap, he, hl, hrd, hcap, _, _⟩ := h.own.shape
  rw [he] at c5
  have hD := h.lt
  have hcv1 := conv_str (P := Tryz.prog) (w.alloc (.cells #[.int .i64 0, .int .i64 0] 60)).drew 22 9 5 Tryz.underlying22 Tryz.underlying5 Tryz.underlying9 ao d.rest.length cap _ hl (Keep.rd (((Keep.alloc (fun _ => False) w _)).trans (Keep.drew (fun _ => False) _) (Z := fun _ => False) (fun _ _ h => h) (fun _ _ h => h)) hrd (fun _ _ _ h => h))
  have hcv2 := conv_str (P := Tryz.prog) (w.alloc (.cells #[.int .i64 d.ba, .int .i64 d.bs] 60)).drew 22 9 5 Tryz.underlying22 Tryz.underlying5 Tryz.underlying9 ao d.rest.length cap _ hl (Keep.rd (((Keep.alloc (fun _ => False) w _)).trans (Keep.drew (fun _ => False) _) (Z := fun _ => False) (fun _ _ h => h) (fun _ _ h => h)) hrd (fun _ _ _ h => h))
  generalize hout : (⟨d.rest.toArray⟩ : ByteArray) = out at *
  clear hout hrd he hl h
  go_enter Tryz.func114, Tryz.ntmps114
  go_wp2_with (go_at_call 108; refine (there_made D _ (by go_simp)).mono ?_; rintro e w1 ⟨rfl, rfl⟩)
  go_region
  go_wp2
  have hh := Lib.hid (show Below w.heap.size w (w.alloc (.cells #[.int .i64 d.ba, .int .i64 d.bs] 60)).drew from ((Below.refl _ _).alloc (Nat.le_refl _) _).drew)
  refine bodyPost_ret (v := .tuple #[.int .i64 d.fed, .agg #[.int .i64 d.ba, .int .i64 d.bs], .string out, .bool d.closed]) (by simp [results, Tryz.results114, go_sem]) rfl ⟨rfl, hh.out⟩
end Go.Proofs.YtmblghdiejneoaaGreat
