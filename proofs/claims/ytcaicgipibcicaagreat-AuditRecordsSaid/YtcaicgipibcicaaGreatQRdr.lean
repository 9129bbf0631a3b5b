/- The codec's Reader where it fails, and where it has failed. -/
import Derived.Test.YtcaicgipibcicaaGreatQAuSee
import Derived.Laws.CopyOwn
namespace Go.Proofs.YtcaicgipibcicaaGreat
set_option maxRecDepth 100000
set_option linter.unusedVariables false
set_option linter.unusedSimpArgs false
open Go.RowKit Go.Sort

/-- A reader. -/
def RdAt (w : World) (R : Nat) (ao : Option Addr) (n c : Nat) (f : Int) : Prop := w.heap[R]? = some (.cells #[.slice ao n c, .int .i64 f, .bool true] 226 (0, 0))
theorem RdAt.keep {w w' : World} {R : Nat} {ao : Option Addr} {n c : Nat} {f : Int} {X : Nat → Prop} (h : RdAt w R ao n c f) (hk : Keep X w w') (hx : ¬ X R) : RdAt w' R ao n c f := hk.old h hx
theorem RdAt.fail {w : World} {R : Nat} {ao : Option Addr} {n c : Nat} {f : Int} (h : RdAt w R ao n c f) (e : Int) : RdAt ((w.setCell ⟨R, 1, none⟩ (.int .i64 e)).setCell ⟨R, 0, none⟩ (.slice none 0 0)) R none 0 0 e ∧ Keep (fun k => k = R) w ((w.setCell ⟨R, 1, none⟩ (.int .i64 e)).setCell ⟨R, 0, none⟩ (.slice none 0 0)) :=
  ⟨row_set (row_set h 1 (.int .i64 e)) 0 (.slice none 0 0), (keep1 w R 1 _).trans (keep1 _ R 0 _) (fun _ _ h => h) (fun _ _ h => h)⟩

set_option maxHeartbeats 4000000 in
theorem fail_first (w : World) (R : Nat) (ao : Option Addr) (n c : Nat) (e : Int) (h : RdAt w R ao n c 0) :
    Calls Tryz.prog 181 #[.pointer (some ⟨R, 0, none⟩), .int .i64 e] w fun r w' => r = .returned (.tuple #[]) ∧ RdAt w' R none 0 0 e ∧ Keep (fun k => k = R) w w' := by
  have HF := Lib.hid (h.fail e)
  obtain ⟨g0, g1, g2, gf⟩ := cells3 h
  clear h
  go_enter Tryz.func181, Tryz.ntmps181
  go_wp2_with fail
  exact bodyPost_end (v := .tuple #[]) (by simp [results, Tryz.results181, go_sem]) rfl ⟨rfl, HF.out.1, HF.out.2⟩

set_option maxHeartbeats 4000000 in
theorem next_bad (w : World) (R : Nat) (ao : Option Addr) (n c : Nat) (f : Int) (k : Nat) (h : RdAt w R ao n c f) (hf : f ≠ 0) :
    Calls Tryz.prog 182 #[.pointer (some ⟨R, 0, none⟩), .int .i64 (k : Int)] w fun r w' => r = .returned (.slice none 0 0) ∧ w' = w := by
  obtain ⟨g0, g1, g2, gf⟩ := cells3 h
  have b1 : (f != 0) = true := by simp [hf]
  clear h
  go_enter Tryz.func182, Tryz.ntmps182
  go_wp2_with fail
  go_ret
  exact ⟨rfl, rfl⟩

set_option maxHeartbeats 4000000 in
theorem next_short (w : World) (R : Nat) (ao : Option Addr) (n c : Nat) (k : Nat) (h : RdAt w R ao n c 0) (hk : n < k) :
    Calls Tryz.prog 182 #[.pointer (some ⟨R, 0, none⟩), .int .i64 (k : Int)] w fun r w' => r = .returned (.slice none 0 0) ∧ RdAt w' R none 0 0 20 ∧ Keep (fun k => k = R) w w' := by
  have H := Lib.hid h
  obtain ⟨g0, g1, g2, gf⟩ := cells3 h
  have b1 : decide ((n : Int) < (k : Int)) = true := decide_eq_true (by omega)
  clear h
  go_enter Tryz.func182, Tryz.ntmps182
  go_wp2_with fail
  refine (fail_first w R ao n c 20 H.out).mono ?_
  rintro e w2 ⟨rfl, h2, k2⟩
  have H2 := Lib.hid h2
  have K2 := Lib.hid k2
  clear h2 k2
  go_wp2_with fail
  go_ret
  exact ⟨rfl, H2.out, K2.out⟩

/-- Nothing comes any more. -/
def Dry (w : World) (R : Nat) (w' : World) : Prop := ∃ f ao c, f ≠ 0 ∧ RdAt w' R ao 0 c f ∧ Keep (fun k => k = R) w w'

set_option maxHeartbeats 4000000 in
theorem fixed_nil (w : World) (R : Nat) (ao : Option Addr) (c : Nat) (f : Int) (h : RdAt w R ao 0 c f) :
    Calls Tryz.prog 155 #[.pointer (some ⟨R, 0, none⟩), .int .i64 4] w fun r w' => r = .returned (.int .u64 0) ∧ Dry w R w' := by
  have HN : ∃ w2, (Dry w R w2) ∧ Calls Tryz.prog 182 #[.pointer (some ⟨R, 0, none⟩), .int .i64 4] w fun r w' => r = .returned (.slice none 0 0) ∧ Dry w R w' := by
    by_cases hf : f = 0
    · subst hf
      refine ⟨_, ⟨20, none, 0, by decide, (h.fail 20).1, (h.fail 20).2⟩, (next_short w R ao 0 c 4 h (by omega)).mono ?_⟩
      rintro e w2 ⟨rfl, h2, k2⟩
      exact ⟨rfl, 20, none, 0, by decide, h2, k2⟩
    · refine ⟨w, ⟨f, ao, c, hf, h, Keep.refl _ _⟩, (next_bad w R ao 0 c f 4 h hf).mono ?_⟩
      rintro e w2 ⟨rfl, rfl⟩
      exact ⟨rfl, f, ao, c, hf, h, Keep.refl _ _⟩
  obtain ⟨_, _, hn⟩ := HN
  have HN := Lib.hid hn
  clear hn h
  go_enter Tryz.func155, Tryz.ntmps155
  go_wp2_with fail
  refine HN.out.mono ?_
  rintro e w2 ⟨rfl, h2⟩
  have H2 := Lib.hid h2
  clear h2
  go_wp2_with fail
  go_loopw [5, 20] (fun a i wr => Hid (a = .int .u64 0 ∧ i = .int .i64 0 ∧ wr = w2)) (fun _ i _ => 0)
  case atStart => exact Lib.hid ⟨rfl, rfl, rfl⟩
  case round =>
    obtain ⟨rfl, rfl, rfl⟩ := hrel.out
    clear hrel
    go_wp2_with fail
    go_ret
    exact ⟨rfl, H2.out⟩

set_option maxHeartbeats 4000000 in
theorem end_bad (w : World) (R : Nat) (ao : Option Addr) (n c : Nat) (f : Int) (h : RdAt w R ao n c f) (hf : f ≠ 0) :
    Calls Tryz.prog 156 #[.pointer (some ⟨R, 0, none⟩)] w fun r w' => r = .returned (.int .i64 f) ∧ w' = w := by
  obtain ⟨g0, g1, g2, gf⟩ := cells3 h
  have b1 : (f == 0) = false := by simp [hf]
  clear h
  go_enter Tryz.func156, Tryz.ntmps156
  go_wp2_with fail
  go_ret
  exact ⟨rfl, rfl⟩
end Go.Proofs.YtcaicgipibcicaaGreat
