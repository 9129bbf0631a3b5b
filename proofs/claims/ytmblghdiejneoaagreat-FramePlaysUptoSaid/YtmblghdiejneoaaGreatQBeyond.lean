/- begun: two decoders, ours and the reference's, that stand alike; or none. -/
import Derived.Test.YtmblghdiejneoaaGreatQBoth
import Derived.Test.YtmblghdiejneoaaGreatQRowSet
namespace Go.Proofs.YtmblghdiejneoaaGreat
set_option maxRecDepth 100000
open Go.RowKit

def BegunPost (w : World) (e : Ending) (w' : World) : Prop :=
  (∃ (d : DSt) (D R : Nat) (r : Value), ROk d ∧ e = .returned (.tuple #[.pointer (some ⟨D, 0, none⟩), .pointer (some ⟨R, 0, none⟩), .bool true, .bool true]) ∧ DecAt w' D r d ∧ RDecAt w' R d ∧ w.heap.size ≤ D ∧ w.heap.size ≤ R ∧ ¬ D = R ∧ (∀ g, r.ownBlock = some g → w.heap.size ≤ g ∧ ¬ g = R) ∧ Below w.heap.size w w') ∨
  (e = .returned (.tuple #[.pointer none, .pointer none, .bool false, .bool true]) ∧ Below w.heap.size w w')

set_option maxHeartbeats 2000000 in
theorem begun_new (w : World) (fed ba bs : Int) (S : ByteArray) (c : Bool) :
    Calls Tryz.prog 15 #[.agg #[.bool false, .int .i64 fed, .int .i64 ba, .int .i64 bs, .string S, .bool c]] w (BegunPost w) := by
  have hb0 := (Below.refl w.heap.size w).alloc (Nat.le_refl _) (.cells #[.bool false, .int .i64 fed, .int .i64 ba, .int .i64 bs, .string S, .bool c] 62)
  have HB0 := Lib.hid hb0
  clear hb0
  go_enter Tryz.func15, Tryz.ntmps15
  go_wp2_with fail
  have hs0 := HB0.out.size
  generalize w.alloc (.cells #[.bool false, .int .i64 fed, .int .i64 ba, .int .i64 bs, .string S, .bool c] 62) = W0 at *
  refine (new_any W0).mono ?_
  rintro e w1 ⟨rfl, hw1⟩
  have hd1 := dec_new W0
  have hk1 := Keep.alloc (fun _ => False) W0 (.cells #[.bool true, .bool false, .int .i64 0, .int .i64 0, .int .i64 0, .slice none 0 0] 93)
  have hb1 := HB0.out.alloc hs0 (.cells #[.bool true, .bool false, .int .i64 0, .int .i64 0, .int .i64 0, .slice none 0 0] 93)
  rw [hw1] at hd1 hk1 hb1
  have hlt1 := lt_of_block hd1.block
  have HD1 := Lib.hid hd1
  have HB1 := Lib.hid hb1
  clear hw1 hd1 hk1 hb1
  go_wp2_with fail
  refine (rnew_any w1).mono ?_
  rintro e w2 ⟨rfl, hw2⟩
  have hr2 := rdec_new w1
  have hk2 := Keep.alloc (fun _ => False) w1 (.cells #[.int .i64 0, .int .i64 0, .int .i64 0, .string ⟨#[]⟩, .bool false] 95)
  have hb2 := HB1.out.alloc HB1.out.size (.cells #[.int .i64 0, .int .i64 0, .int .i64 0, .string ⟨#[]⟩, .bool false] 95)
  rw [hw2] at hr2 hk2 hb2
  have HR2 := Lib.hid hr2
  have HD2 := Lib.hid (HD1.out.keep hk2 id (fun _ _ => id))
  have HB2 := Lib.hid hb2
  have hs1 := HB1.out.size
  clear hw2 hr2 hk2 hb2
  go_wp2_with fail
  refine bodyPost_ret (v := .tuple #[.pointer (some ⟨W0.heap.size, 0, none⟩), .pointer (some ⟨w1.heap.size, 0, none⟩), .bool true, .bool true]) (by simp [results, Tryz.results15, go_sem]) rfl (.inl ⟨d0, _, _, _, d0_rok, rfl, HD2.out, HR2.out, hs0, hs1, by omega, fun g hg => by simp [Value.ownBlock] at hg, HB2.out⟩)

set_option maxHeartbeats 2000000 in
theorem begun_ok (w : World) (fed ba bs : Int) (S : ByteArray) (c : Bool) (h : BothOk fed ba bs S c) (hS : S.size ≤ 10000000000) :
    Calls Tryz.prog 15 #[.agg #[.bool true, .int .i64 fed, .int .i64 ba, .int .i64 bs, .string S, .bool c]] w (BegunPost w) := by
  obtain ⟨d, hok, hf, ha, hb, hr, hc, hcr⟩ := h
  have hrl : d.rest.length ≤ 100000000000 := by
    have : S.size = d.rest.length := by rw [hr]; simp [ByteArray.size]
    omega
  have hcd := fun w => resume_any w d hok hrl
  rw [← hf, ← ha, ← hb, ← hr, ← hc] at hcd
  have hpost : ∀ w D w', ROkPost w fed ba bs S c D w' → D = .returned (.tuple #[.pointer (some ⟨w.heap.size + 1, 0, none⟩), .int .i64 0]) ∧ RDecAt w' (w.heap.size + 1) d ∧ Below w.heap.size w w' := by
    intro w D w' ⟨h1, h2, h3⟩
    refine ⟨h1, ?_, h3⟩
    unfold RDecAt
    rw [← hf, ← ha, ← hb, ← hr, ← hc]
    exact h2
  have HCD := Lib.hid hcd
  have HCR := Lib.hid (fun w => (hcr w).mono (hpost w))
  have HOK := Lib.hid hok
  clear hcd hcr hpost hok hf ha hb hr hc hrl
  have hb0 := (Below.refl w.heap.size w).alloc (Nat.le_refl _) (.cells #[.bool true, .int .i64 fed, .int .i64 ba, .int .i64 bs, .string S, .bool c] 62)
  have hh0 := heap_alloc_new w (.cells #[.bool true, .int .i64 fed, .int .i64 ba, .int .i64 bs, .string S, .bool c] 62)
  have HB0 := Lib.hid hb0
  have HH0 := Lib.hid hh0
  clear hb0 hh0
  go_enter Tryz.func15, Tryz.ntmps15
  go_wp2_with fail
  have hs0 := HB0.out.size
  generalize w.alloc (.cells #[.bool true, .int .i64 fed, .int .i64 ba, .int .i64 bs, .string S, .bool c] 62) = W0 at *
  refine (HCD.out W0).mono ?_
  rintro e w1 ⟨D, r, rfl, hd1, hD1, hr1, hb1⟩
  have hlt := lt_of_block hd1.block
  have hrlt := hd1.own.lt
  have hk1 := Keep.of_below hb1 (Nat.le_refl _) (fun _ => False)
  have hh1 := hk1.old HH0.out id
  have q1 : w1.cell? ⟨w.heap.size, 1, none⟩ = some (.int .i64 fed) := by simp [World.cell?, hh1]
  have q2 : w1.cell? ⟨w.heap.size, 2, none⟩ = some (.int .i64 ba) := by simp [World.cell?, hh1]
  have q3 : w1.cell? ⟨w.heap.size, 3, none⟩ = some (.int .i64 bs) := by simp [World.cell?, hh1]
  have q4 : w1.cell? ⟨w.heap.size, 4, none⟩ = some (.string S) := by simp [World.cell?, hh1]
  have q5 : w1.cell? ⟨w.heap.size, 5, none⟩ = some (.bool c) := by simp [World.cell?, hh1]
  have HD1 := Lib.hid hd1
  have HR1 := Lib.hid hr1
  have HRL := Lib.hid hrlt
  have HB1 := Lib.hid (Below.next HB0.out hb1)
  clear hd1 hr1 hb1 hk1 hh1 hrlt
  go_wp2_with fail
  refine (HCR.out w1).mono ?_
  rintro e w2 ⟨rfl, hr2, hb2⟩
  have HR2 := Lib.hid hr2
  have HD2 := Lib.hid (HD1.out.keep (Keep.of_below hb2 (Nat.le_refl _) (fun _ => False)) id (fun _ _ => id))
  have hs1 := HB1.out.size
  have HB2 := Lib.hid (Below.next HB1.out hb2)
  clear hr2 hb2
  go_wp2_with fail
  refine bodyPost_ret (v := .tuple #[.pointer (some ⟨D, 0, none⟩), .pointer (some ⟨w1.heap.size + 1, 0, none⟩), .bool true, .bool true]) (by simp [results, Tryz.results15, go_sem]) rfl (.inl ⟨d, D, _, r, HOK.out, rfl, HD2.out, HR2.out, by omega, by omega, by omega, fun g hg => ⟨by have := HR1.out g hg; omega, by have := HRL.out g hg; omega⟩, HB2.out⟩)

set_option maxHeartbeats 2000000 in
theorem begun_bad (w : World) (fed ba bs : Int) (S : ByteArray) (c : Bool) (h : BothBad fed ba bs S c) :
    Calls Tryz.prog 15 #[.agg #[.bool true, .int .i64 fed, .int .i64 ba, .int .i64 bs, .string S, .bool c]] w (BegunPost w) := by
  have HCD := Lib.hid h.1
  have HCR := Lib.hid h.2
  clear h
  have hb0 := (Below.refl w.heap.size w).alloc (Nat.le_refl _) (.cells #[.bool true, .int .i64 fed, .int .i64 ba, .int .i64 bs, .string S, .bool c] 62)
  have hh0 := heap_alloc_new w (.cells #[.bool true, .int .i64 fed, .int .i64 ba, .int .i64 bs, .string S, .bool c] 62)
  have HB0 := Lib.hid hb0
  have HH0 := Lib.hid hh0
  clear hb0 hh0
  go_enter Tryz.func15, Tryz.ntmps15
  go_wp2_with fail
  have hs0 := HB0.out.size
  generalize w.alloc (.cells #[.bool true, .int .i64 fed, .int .i64 ba, .int .i64 bs, .string S, .bool c] 62) = W0 at *
  refine (HCD.out W0).mono ?_
  rintro e w1 ⟨rfl, hb1⟩
  have hh1 := (Keep.of_below hb1 (Nat.le_refl _) (fun _ => False)).old HH0.out id
  have q1 : w1.cell? ⟨w.heap.size, 1, none⟩ = some (.int .i64 fed) := by simp [World.cell?, hh1]
  have q2 : w1.cell? ⟨w.heap.size, 2, none⟩ = some (.int .i64 ba) := by simp [World.cell?, hh1]
  have q3 : w1.cell? ⟨w.heap.size, 3, none⟩ = some (.int .i64 bs) := by simp [World.cell?, hh1]
  have q4 : w1.cell? ⟨w.heap.size, 4, none⟩ = some (.string S) := by simp [World.cell?, hh1]
  have q5 : w1.cell? ⟨w.heap.size, 5, none⟩ = some (.bool c) := by simp [World.cell?, hh1]
  have HB1 := Lib.hid (Below.next HB0.out hb1)
  clear hb1 hh1
  go_wp2_with fail
  refine (HCR.out w1).mono ?_
  rintro e w2 ⟨rfl, hb2⟩
  have HB2 := Lib.hid (Below.next HB1.out hb2)
  clear hb2
  go_wp2_with fail
  refine bodyPost_ret (v := .tuple #[.pointer none, .pointer none, .bool false, .bool true]) (by simp [results, Tryz.results15, go_sem]) rfl (.inr ⟨rfl, HB2.out⟩)

theorem begun_any (w : World) (made : Bool) (fed ba bs : Int) (S : ByteArray) (c : Bool) (hS : S.size ≤ 10000000000) :
    Calls Tryz.prog 15 #[.agg #[.bool made, .int .i64 fed, .int .i64 ba, .int .i64 bs, .string S, .bool c]] w (BegunPost w) := by
  cases made with
  | false => exact begun_new w fed ba bs S c
  | true =>
    rcases both_any fed ba bs S c hS with h | h
    · exact begun_ok w fed ba bs S c h hS
    · exact begun_bad w fed ba bs S c h
end Go.Proofs.YtmblghdiejneoaaGreat

/- Beyond, asked of one length. -/
namespace Go.Proofs.YtmblghdiejneoaaGreat
set_option maxRecDepth 100000
open Go.RowKit

theorem beyond_any (w : World) (g k : Nat) (hc : w.cell? ⟨g, 0, none⟩ = some (.int .i64 k)) (hk : k ≤ 1048576) :
    Calls Tryz.prog 14 #[.slice (some ⟨g, 0, none⟩) 1 1] w fun e w' => e = .returned (.bool false) ∧ w = w' := by
  go_enter Tryz.func14, Tryz.ntmps14
  go_wp2_with fail
  refine wp_loop_rounds 2 ?_
  rw [rounds_succ]
  go_wp2_with fail
  rw [rounds_succ]
  go_wp2_with fail
  go_ret
  exact ⟨rfl, rfl⟩
end Go.Proofs.YtmblghdiejneoaaGreat
