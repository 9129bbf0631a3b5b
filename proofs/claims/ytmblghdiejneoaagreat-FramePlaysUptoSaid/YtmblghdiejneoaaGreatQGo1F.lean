/- What going through the undecided bytes tells, as a plain function. -/
import Derived.Test.YtmblghdiejneoaaGreatQTell
namespace Go.Proofs.YtmblghdiejneoaaGreat
set_option maxRecDepth 100000

/-- Through the bytes l (the first one stands at 'base' of the stream) from place p on: where it ends, what is told, the bad bytes not told yet. -/
def goN (last : Bool) (base : Nat) (l : List UInt8) : Nat → Nat → List Fr → Nat → Nat → Nat × List Fr × Nat × Nat
  | 0, p, out, ba, bs => (p, out, ba, bs)
  | f + 1, p, out, ba, bs =>
    if p < l.length then
      if (wholeF (l.drop p)).2 = true ∧ last = false then (p, out, ba, bs)
      else if (wholeF (l.drop p)).1 = 0 then goN last base l f (p + 1) out (if bs = 0 then base + p else ba) (bs + 1)
      else goN last base l f (p + (wholeF (l.drop p)).1) (tellL ba bs out ++ [⟨1, base + p, (wholeF (l.drop p)).1, (l.drop (p + 4)).take ((wholeF (l.drop p)).1 - 8)⟩]) 0 0
    else (p, out, ba, bs)

theorem tellL_le (ba bs : Nat) (out : List Fr) : (tellL ba bs out).length ≤ out.length + 1 := by
  unfold tellL; split <;> simp
theorem wholeF_good {l : List UInt8} (h : (wholeF l).1 ≠ 0) : (wholeF l).1 = lenOf l + 8 ∧ lenOf l + 8 ≤ l.length ∧ lenOf l ≤ 4096 ∧ (wholeF l).2 = false ∧ l.take 2 = [197, 171] ∧ (l.drop (lenOf l + 4)).take 4 = sum4 (crc (l.take (lenOf l + 4))) := by
  unfold wholeF at h ⊢
  by_cases h2 : l.length < 2
  · rw [if_pos h2] at h; exact absurd rfl h
  rw [if_neg h2] at h ⊢
  by_cases hm : l.take 2 = [197, 171]
  · rw [if_neg (fun h => h hm)] at h ⊢
    by_cases h4 : l.length < 4
    · rw [if_pos h4] at h; exact absurd rfl h
    rw [if_neg h4] at h ⊢
    by_cases hw : 4096 < lenOf l
    · rw [if_pos hw] at h; exact absurd rfl h
    rw [if_neg hw] at h ⊢
    by_cases ho : l.length < lenOf l + 8
    · rw [if_pos ho] at h; exact absurd rfl h
    rw [if_neg ho] at h ⊢
    by_cases hd : (l.drop (lenOf l + 4)).take 4 = sum4 (crc (l.take (lenOf l + 4)))
    · rw [if_pos hd]; exact ⟨rfl, by omega, by omega, rfl, hm, hd⟩
    · rw [if_neg hd] at h; exact absurd rfl h
  · rw [if_pos hm] at h; exact absurd rfl h
/-- How a decoder may stand. -/
structure DOk (d : DSt) : Prop where
  len : d.rest.length ≤ d.fed
  most : d.fed ≤ 4611686018427387903
  zero : d.bs = 0 → d.ba = 0
  bad : d.bs ≤ d.fed - d.rest.length

theorem goN_inv (last : Bool) (base : Nat) (l : List UInt8) : ∀ (f p : Nat) (out : List Fr) (ba bs : Nat), p ≤ l.length → (bs = 0 → ba = 0) → bs ≤ base + p →
    p ≤ (goN last base l f p out ba bs).1 ∧ (goN last base l f p out ba bs).1 ≤ l.length ∧ ((goN last base l f p out ba bs).2.2.2 = 0 → (goN last base l f p out ba bs).2.2.1 = 0) ∧ (goN last base l f p out ba bs).2.2.2 ≤ base + (goN last base l f p out ba bs).1 := by
  intro f
  induction f with
  | zero => intro p out ba bs hp hz hb; exact ⟨Nat.le_refl _, hp, hz, hb⟩
  | succ f ih =>
    intro p out ba bs hp hz hb
    by_cases hlt : p < l.length
    · by_cases hst : (wholeF (l.drop p)).2 = true ∧ last = false
      · have : goN last base l (f + 1) p out ba bs = (p, out, ba, bs) := by rw [goN, if_pos hlt, if_pos hst]
        rw [this]; exact ⟨Nat.le_refl _, hp, hz, hb⟩
      · by_cases h0 : (wholeF (l.drop p)).1 = 0
        · have : goN last base l (f + 1) p out ba bs = goN last base l f (p + 1) out (if bs = 0 then base + p else ba) (bs + 1) := by rw [goN, if_pos hlt, if_neg hst, if_pos h0]
          rw [this]
          obtain ⟨h1, h2, h3, h4⟩ := ih (p + 1) out (if bs = 0 then base + p else ba) (bs + 1) (by omega) (by omega) (by omega)
          exact ⟨by omega, h2, h3, h4⟩
        · have : goN last base l (f + 1) p out ba bs = goN last base l f (p + (wholeF (l.drop p)).1) (tellL ba bs out ++ [⟨1, base + p, (wholeF (l.drop p)).1, (l.drop (p + 4)).take ((wholeF (l.drop p)).1 - 8)⟩]) 0 0 := by rw [goN, if_pos hlt, if_neg hst, if_neg h0]
          rw [this]
          obtain ⟨hs, hle, _, _, _, _⟩ := wholeF_good h0
          rw [List.length_drop] at hle
          obtain ⟨h1, h2, h3, h4⟩ := ih (p + (wholeF (l.drop p)).1) (tellL ba bs out ++ [⟨1, base + p, (wholeF (l.drop p)).1, (l.drop (p + 4)).take ((wholeF (l.drop p)).1 - 8)⟩]) 0 0 (by omega) (fun _ => rfl) (by omega)
          exact ⟨by omega, h2, h3, h4⟩
    · have : goN last base l (f + 1) p out ba bs = (p, out, ba, bs) := by rw [goN, if_neg hlt]
      rw [this]; exact ⟨Nat.le_refl _, hp, hz, hb⟩


theorem goN_le (last : Bool) (base : Nat) (l : List UInt8) : ∀ (f p : Nat) (out : List Fr) (ba bs : Nat), p ≤ l.length → (goN last base l f p out ba bs).1 ≤ l.length := by
  intro f
  induction f with
  | zero => intro p out ba bs hp; exact hp
  | succ f ih =>
    intro p out ba bs hp
    by_cases hlt : p < l.length
    · by_cases hst : (wholeF (l.drop p)).2 = true ∧ last = false
      · rw [goN, if_pos hlt, if_pos hst]; exact hp
      · by_cases h0 : (wholeF (l.drop p)).1 = 0
        · rw [goN, if_pos hlt, if_neg hst, if_pos h0]
          exact ih _ _ _ _ (by omega)
        · rw [goN, if_pos hlt, if_neg hst, if_neg h0]
          obtain ⟨hs, hle, _⟩ := wholeF_good h0
          rw [List.length_drop] at hle
          exact ih _ _ _ _ (by omega)
    · rw [goN, if_neg hlt]; exact hp

theorem goN_len (last : Bool) (base : Nat) (l : List UInt8) : ∀ (f p : Nat) (out : List Fr) (ba bs : Nat), (goN last base l f p out ba bs).2.1.length + 2 * p ≤ out.length + 2 * (goN last base l f p out ba bs).1 := by
  intro f
  induction f with
  | zero => intro p out ba bs; exact Nat.le_refl _
  | succ f ih =>
    intro p out ba bs
    by_cases hlt : p < l.length
    · by_cases hst : (wholeF (l.drop p)).2 = true ∧ last = false
      · rw [goN, if_pos hlt, if_pos hst]; exact Nat.le_refl _
      · by_cases h0 : (wholeF (l.drop p)).1 = 0
        · rw [goN, if_pos hlt, if_neg hst, if_pos h0]
          have := ih (p + 1) out (if bs = 0 then base + p else ba) (bs + 1)
          omega
        · rw [goN, if_pos hlt, if_neg hst, if_neg h0]
          obtain ⟨hs, _⟩ := wholeF_good h0
          have := ih (p + (wholeF (l.drop p)).1) (tellL ba bs out ++ [⟨1, base + p, (wholeF (l.drop p)).1, (l.drop (p + 4)).take ((wholeF (l.drop p)).1 - 8)⟩]) 0 0
          have ht := tellL_le ba bs out
          simp only [List.length_append, List.length_cons, List.length_nil] at this
          omega
    · rw [goN, if_neg hlt]; exact Nat.le_refl _

/-- What Feed tells, and how the decoder stands then. -/
def feedF (d : DSt) (b : List UInt8) : List Fr × DSt :=
  if d.closed = true ∨ 4611686018427387903 < d.fed + b.length then ([], d)
  else
    let x := goN false (d.fed - d.rest.length) (d.rest ++ b) (d.rest ++ b).length 0 [] d.ba d.bs
    (x.2.1, ⟨false, d.fed + b.length, x.2.2.1, x.2.2.2, (d.rest ++ b).drop x.1⟩)
/-- What Close tells, and how the decoder stands then. -/
def closeF (d : DSt) : List Fr × DSt :=
  if d.closed = true then ([], d)
  else
    let x := goN true (d.fed - d.rest.length) d.rest d.rest.length 0 [] d.ba d.bs
    (tellL x.2.2.1 x.2.2.2 x.2.1, ⟨true, d.fed, 0, 0, d.rest.drop x.1⟩)

theorem feedF_ok {d : DSt} (h : DOk d) (b : List UInt8) : DOk (feedF d b).2 := by
  unfold feedF
  by_cases hc : d.closed = true ∨ 4611686018427387903 < d.fed + b.length
  · rw [if_pos hc]; exact h
  · rw [if_neg hc]
    obtain ⟨h1, h2, h3, h4⟩ := goN_inv false (d.fed - d.rest.length) (d.rest ++ b) (d.rest ++ b).length 0 [] d.ba d.bs (Nat.zero_le _) h.zero (by have := h.bad; omega)
    have hl := h.len
    have hm := h.most
    simp only [List.length_append] at h2
    refine ⟨?_, ?_, h3, ?_⟩
    · simp only [List.length_drop, List.length_append]; omega
    · simp only; omega
    · simp only [List.length_drop, List.length_append] at h4 ⊢; omega
theorem closeF_ok {d : DSt} (h : DOk d) : DOk (closeF d).2 := by
  unfold closeF
  by_cases hc : d.closed = true
  · rw [if_pos hc]; exact h
  · rw [if_neg hc]
    have hl := h.len
    refine ⟨?_, h.most, fun _ => rfl, Nat.zero_le _⟩
    simp only [List.length_drop]; omega
end Go.Proofs.YtmblghdiejneoaaGreat
