/- Resume: a decoder that stands as another one stood. -/
import Derived.Test.YtmblghdiejneoaaROk
import Derived.Test.YtmblghdiejneoaaClone
import Derived.Deep.RegionWith
namespace Go.Proofs.Ytmblghdiejneoaa
open Go.RowKit

def ResumePost (w : World) (d : DSt) (e : Ending) (w' : World) : Prop :=
  ∃ D r, e = .returned (.tuple #[.pointer (some ⟨D, 0, none⟩), .int .i64 0]) ∧ DecAt w' D r d ∧ w.heap.size ≤ D ∧ (∀ g, r.ownBlock = some g → w.heap.size ≤ g) ∧ Below w.heap.size w w'

/-- What a conversion of a text to bytes has laid. -/
theorem own_conv (w : World) (S : ByteArray) (cap : Nat) (e : TypeId) (h : S.size ≤ cap) (hc : cap ≤ maxLen) :
    Own (w.drew.alloc (.cells (bytesRow S cap) e ((bytesRow S cap).size, (bytesRow S cap).size + 1))) 1 (.slice (some ⟨w.heap.size, 0, none⟩) S.size cap) S.size (bcells S.data.toList) := by
  refine ⟨by rw [bcells_length, Nat.mul_one]; rfl, .inr ⟨_, cap, rfl, h, hc, ?_⟩⟩
  refine Row.made w.drew _ e _ cap 1 (bcells S.data.toList) ?_ (.inr (Nat.le_refl _)) ?_
  · unfold bytesRow
    rw [Array.size_append, Array.size_map, Array.size_replicate]
    show S.size + (cap - S.size) = cap * 1
    omega
  · intro j u hu
    obtain ⟨hj, rfl⟩ := bcells_get _ j u hu
    rw [bytesRow_at _ cap j (by simpa using hj)]
    simp

theorem resume_done {w W w3 : World} {d : DSt} {S : ByteArray} (hb0 : Below w.heap.size w W) (hb3 : Below W.drew.heap.size W.drew w3) (hS : S.data.toList = d.rest) (hl : S.size ≤ 100000000000) :
    ResumePost w d (.returned (.tuple #[.pointer (some ⟨w3.heap.size + 1, 0, none⟩), .int .i64 0]))
      ((w3.drew.alloc (.cells (bytesRow S (grownCap w3 S.size 0 5)) 5 ((bytesRow S (grownCap w3 S.size 0 5)).size, (bytesRow S (grownCap w3 S.size 0 5)).size + 1))).alloc
        (.cells #[.bool true, .bool d.closed, .int .i64 d.fed, .int .i64 d.ba, .int .i64 d.bs, .slice (some ⟨w3.heap.size, 0, none⟩) S.size (grownCap w3 S.size 0 5)] 50)) := by
  have h3 := Below.next (Below.drew hb0) hb3
  have hs3 := h3.size
  have hge := grownCap_ge w3 S.size 0 5
  have hcm := grownCap_le_maxLen w3 S.size 0 5 (by unfold maxLen; omega)
  have hown := own_conv w3 S (grownCap w3 S.size 0 5) 5 hge hcm
  have hsz : S.size = d.rest.length := by rw [← hS]; simp
  generalize hC : Obj.cells (bytesRow S (grownCap w3 S.size 0 5)) 5 ((bytesRow S (grownCap w3 S.size 0 5)).size, (bytesRow S (grownCap w3 S.size 0 5)).size + 1) = C at *
  have hn := heap_alloc_new (w3.drew.alloc C) (.cells #[.bool true, .bool d.closed, .int .i64 d.fed, .int .i64 d.ba, .int .i64 d.bs, .slice (some ⟨w3.heap.size, 0, none⟩) S.size (grownCap w3 S.size 0 5)] 50)
  have hsize : (w3.drew.alloc C).heap.size = w3.heap.size + 1 := by simp
  rw [hsize] at hn
  refine ⟨w3.heap.size + 1, _, rfl, ⟨hn, ?_, ?_⟩, by omega, ?_, ?_⟩
  · rw [← hS, ← (show S.size = S.data.toList.length from by simp)]
    exact hown.keep (Keep.alloc (fun _ => False) _ _) (fun _ _ => id)
  · simp [Value.ownBlock]
  · intro g hg
    simp [Value.ownBlock] at hg
    omega
  · exact (h3.drew.alloc (by simpa using hs3) _).alloc (by rw [hsize]; omega) _

set_option maxRecDepth 100000 in
set_option maxHeartbeats 4000000 in
theorem resume_closed (w : World) (n : Nat) (hn : n ≤ 4611686018427387903) :
    Calls Try.prog 25 #[.int .i64 n, .agg #[.int .i64 0, .int .i64 0], .string ⟨#[]⟩, .bool true] w (ResumePost w ⟨true, n, 0, 0, []⟩) := by
  have heq := eq_span'
  have hq : bqS 0 0 0 0 = true := by simp [bqS]
  have HC := Lib.hid (fun w => clone_any ⟨#[]⟩ w (Nat.zero_le _))
  have hcv := fun (w : World) (s : ByteArray) => run_bytes_of_string (P := Try.prog) w 9 28 5 s Try.underlying9 Try.underlying28 Try.underlying5
  go_enter Try.func25, Try.ntmps25
  go_wp2_with fail
  have hW : ∀ W, W = w.alloc (.cells #[.int .i64 0, .int .i64 0] 31) → W.cell? ⟨w.heap.size, 0, none⟩ = some (.int .i64 0) ∧ W.cell? ⟨w.heap.size, 1, none⟩ = some (.int .i64 0) ∧ Hid (Below w.heap.size w W) := fun W h => by subst h; exact ⟨by go_simp, by go_simp, Lib.hid ((Below.refl _ _).alloc (Nat.le_refl _) _)⟩
  generalize w.alloc (.cells #[.int .i64 0, .int .i64 0] 31) = W at *
  obtain ⟨h0, h1, HB0⟩ := hW W rfl
  clear hW
  go_region_with (go_at_call 34; refine (HC.out _).mono ?_; rintro e w3 ⟨rfl, hb3⟩; have e0 := (Keep.of_below hb3 (Nat.le_refl _) (fun _ => False)).cell (p := ⟨w.heap.size, 0, none⟩) (v := .int .i64 0) (by go_simp) id; have e1 := (Keep.of_below hb3 (Nat.le_refl _) (fun _ => False)).cell (p := ⟨w.heap.size, 1, none⟩) (v := .int .i64 0) (by go_simp) id; have HB3 := Lib.hid hb3; have hd3 := World.block_lt_of_cell? w3 _ e0; simp only at hd3; clear hb3)
  all_goals
    go_wp2_with fail
    refine bodyPost_ret (v := .tuple #[.pointer (some ⟨w3.heap.size + 1, 0, none⟩), .int .i64 0]) (by simp [results, Try.results25, go_sem]) rfl ?_
    exact resume_done (d := ⟨true, n, 0, 0, []⟩) (S := ⟨#[]⟩) HB0.out HB3.out (by rfl) (Nat.zero_le _)
end Go.Proofs.Ytmblghdiejneoaa
