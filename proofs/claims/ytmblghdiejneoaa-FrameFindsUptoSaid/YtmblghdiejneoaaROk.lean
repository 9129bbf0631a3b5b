/- How a decoder can stand: what Resume asks. -/
import Derived.Test.YtmblghdiejneoaaCuts
namespace Go.Proofs.Ytmblghdiejneoaa
open Go.RowKit

def aheadOf (pos ba bs : Nat) : Nat := if bs = 0 then pos else ba
structure ROk (d : DSt) : Prop where
  len : d.rest.length ≤ d.fed
  most : d.fed ≤ 4611686018427387903
  zero : d.bs = 0 → d.ba = 0
  bad : 0 < d.bs → d.ba + d.bs = d.fed - d.rest.length
  ahead : d.closed = false → aheadOf (d.fed - d.rest.length) d.ba d.bs = 0 ∨ 8 ≤ aheadOf (d.fed - d.rest.length) d.ba d.bs
  opened : d.closed = false → d.rest = [] ∨ (wholeF d.rest).2 = true
  shut : d.closed = true → d.rest = [] ∧ d.bs = 0

theorem scan_ok : ∀ (f pos : Nat) (l : List UInt8) (ba bs : Nat), l.length ≤ f → (bs = 0 → ba = 0) → (0 < bs → ba + bs = pos) → (aheadOf pos ba bs = 0 ∨ 8 ≤ aheadOf pos ba bs) →
    ∃ k, k ≤ l.length ∧ (scan false f pos l ba bs).2.1 = l.drop k ∧ ((l.drop k) = [] ∨ (wholeF (l.drop k)).2 = true) ∧
      ((scan false f pos l ba bs).2.2.2 = 0 → (scan false f pos l ba bs).2.2.1 = 0) ∧ (0 < (scan false f pos l ba bs).2.2.2 → (scan false f pos l ba bs).2.2.1 + (scan false f pos l ba bs).2.2.2 = pos + k) ∧
      (aheadOf (pos + k) (scan false f pos l ba bs).2.2.1 (scan false f pos l ba bs).2.2.2 = 0 ∨ 8 ≤ aheadOf (pos + k) (scan false f pos l ba bs).2.2.1 (scan false f pos l ba bs).2.2.2) := by
  intro f
  induction f with
  | zero =>
    intro pos l ba bs hf h1 h2 h3
    have hl : l = [] := List.eq_nil_of_length_eq_zero (by omega)
    subst hl
    rw [scan_nil]
    exact ⟨0, Nat.le_refl _, rfl, .inl rfl, h1, by simpa using h2, by simpa using h3⟩
  | succ f ih =>
    intro pos l ba bs hf h1 h2 h3
    by_cases h0 : l = []
    · subst h0
      rw [scan_nil]
      exact ⟨0, Nat.le_refl _, rfl, .inl rfl, h1, by simpa using h2, by simpa using h3⟩
    have hpos : 0 < l.length := List.length_pos_iff.2 h0
    cases hop : (wholeF l).2 with
    | true =>
      rw [scan_stop h0 ⟨hop, rfl⟩]
      exact ⟨0, Nat.zero_le _, rfl, .inr hop, h1, by simpa using h2, by simpa using h3⟩
    | false =>
      by_cases hz : (wholeF l).1 = 0
      · rw [scan_bad h0 (by rw [hop]; simp) hz]
        obtain ⟨k, hk, he, ho, g1, g2, g3⟩ := ih (pos + 1) (l.drop 1) (if bs = 0 then pos else ba) (bs + 1) (by rw [List.length_drop]; omega) (by omega) (by
          intro _
          by_cases h : bs = 0
          · rw [if_pos h, h]
          · rw [if_neg h]; have := h2 (by omega); omega) (by
          unfold aheadOf at h3 ⊢
          rw [if_neg (by omega)]
          exact h3)
        rw [List.length_drop] at hk
        rw [List.drop_drop] at he ho
        refine ⟨1 + k, by omega, he, ho, g1, fun h => by have := g2 h; omega, ?_⟩
        rw [← Nat.add_assoc]
        exact g3
      · obtain ⟨hs, hle, hlo, _, htk, hd⟩ := wholeF_good hz
        rw [scan_good hz]
        obtain ⟨k, hk, he, ho, g1, g2, g3⟩ := ih (pos + (wholeF l).1) (l.drop (wholeF l).1) 0 0 (by rw [List.length_drop]; omega) (fun _ => rfl) (fun h => by omega) (by
          unfold aheadOf
          rw [if_pos rfl]
          omega)
        rw [List.length_drop] at hk
        rw [List.drop_drop] at he ho
        refine ⟨(wholeF l).1 + k, by omega, he, ho, g1, fun h => (g2 h).trans (by omega), ?_⟩
        rw [← Nat.add_assoc]
        exact g3

theorem ROk.dok {d : DSt} (h : ROk d) : DOk d := ⟨h.len, h.most, h.zero, by
  by_cases hb : d.bs = 0
  · omega
  · have := h.bad (by omega); omega⟩
theorem d0_rok : ROk d0 := ⟨Nat.le_refl _, by decide, fun _ => rfl, fun h => by simp [d0] at h, fun _ => .inl rfl, fun _ => .inl rfl, fun h => by simp [d0] at h⟩
theorem feedF_rok {d : DSt} (h : ROk d) (b : List UInt8) (hc : d.closed = false) (hb : d.fed + b.length ≤ 4611686018427387903) : ROk (feedF d b).2 := by
  have n1 : ¬ (d.closed = true ∨ 4611686018427387903 < d.fed + b.length) := by rw [hc]; simp; omega
  rw [feedF_scan d b n1]
  obtain ⟨k, hk, he, ho, g1, g2, g3⟩ := scan_ok (d.rest ++ b).length (d.fed - d.rest.length) (d.rest ++ b) d.ba d.bs (Nat.le_refl _) h.zero h.bad (h.ahead hc)
  generalize scan false (d.rest ++ b).length (d.fed - d.rest.length) (d.rest ++ b) d.ba d.bs = x at *
  have hl := h.len
  have hxl : x.2.1.length = d.rest.length + b.length - k := by rw [he, List.length_drop, List.length_append]
  rw [List.length_append] at hk
  have hp : d.fed - d.rest.length + k = d.fed + b.length - x.2.1.length := by omega
  rw [hp] at g2 g3
  rw [← he] at ho
  exact ⟨by simp only; omega, hb, g1, g2, fun _ => g3, fun _ => ho, fun h => by simp at h⟩
theorem closed_rok (n : Nat) (h : n ≤ 4611686018427387903) : ROk ⟨true, n, 0, 0, []⟩ := ⟨Nat.zero_le _, h, fun _ => rfl, fun h => by simp at h, fun h => by simp at h, fun h => by simp at h, fun _ => ⟨rfl, rfl⟩⟩
end Go.Proofs.Ytmblghdiejneoaa
