/- Plain law: going through a stream, by its remaining bytes. -/
import Derived.Test.YtmblghdiejneoaaGreatQAlive
namespace Go.Proofs.YtmblghdiejneoaaGreat

def tellB (ba bs : Nat) : List Fr := if bs = 0 then [] else [⟨2, ba, bs, []⟩]
theorem tellL_eq (ba bs : Nat) (out : List Fr) : tellL ba bs out = out ++ tellB ba bs := by
  unfold tellL tellB; split <;> simp

/-- What is told, what is left undecided, the bad bytes not told yet. -/
def scan (last : Bool) : Nat → Nat → List UInt8 → Nat → Nat → List Fr × List UInt8 × Nat × Nat
  | 0, _, l, ba, bs => ([], l, ba, bs)
  | f + 1, pos, l, ba, bs =>
    if l.length = 0 then ([], [], ba, bs)
    else if (wholeF l).2 = true ∧ last = false then ([], l, ba, bs)
    else if (wholeF l).1 = 0 then scan last f (pos + 1) (l.drop 1) (if bs = 0 then pos else ba) (bs + 1)
    else (tellB ba bs ++ ⟨1, pos, (wholeF l).1, (l.drop 4).take ((wholeF l).1 - 8)⟩ :: (scan last f (pos + (wholeF l).1) (l.drop (wholeF l).1) 0 0).1, (scan last f (pos + (wholeF l).1) (l.drop (wholeF l).1) 0 0).2)

theorem scan_nil {last : Bool} {f pos ba bs : Nat} : scan last f pos [] ba bs = ([], [], ba, bs) := by
  cases f with
  | zero => rfl
  | succ f => rw [scan, if_pos (show ([] : List UInt8).length = 0 from rfl)]
theorem scan_stop {last : Bool} {f pos ba bs : Nat} {l : List UInt8} (h : l ≠ []) (h1 : (wholeF l).2 = true ∧ last = false) : scan last f pos l ba bs = ([], l, ba, bs) := by
  cases f with
  | zero => rfl
  | succ f => rw [scan, if_neg (fun e => h (List.eq_nil_of_length_eq_zero e)), if_pos h1]
theorem scan_bad {last : Bool} {f pos ba bs : Nat} {l : List UInt8} (h : l ≠ []) (h1 : ¬ ((wholeF l).2 = true ∧ last = false)) (h2 : (wholeF l).1 = 0) :
    scan last (f + 1) pos l ba bs = scan last f (pos + 1) (l.drop 1) (if bs = 0 then pos else ba) (bs + 1) := by
  rw [scan, if_neg (fun e => h (List.eq_nil_of_length_eq_zero e)), if_neg h1, if_pos h2]
theorem scan_good {last : Bool} {f pos ba bs : Nat} {l : List UInt8} (h2 : (wholeF l).1 ≠ 0) :
    scan last (f + 1) pos l ba bs = (tellB ba bs ++ ⟨1, pos, (wholeF l).1, (l.drop 4).take ((wholeF l).1 - 8)⟩ :: (scan last f (pos + (wholeF l).1) (l.drop (wholeF l).1) 0 0).1, (scan last f (pos + (wholeF l).1) (l.drop (wholeF l).1) 0 0).2) := by
  obtain ⟨h, hle, _, hop, _, _⟩ := wholeF_good h2
  rw [scan, if_neg (by omega), if_neg (fun e => by rw [hop] at e; cases e.1), if_neg h2]

/-- The fuel does not matter. -/
theorem scan_fuel (last : Bool) : ∀ (n f g pos : Nat) (l : List UInt8) (ba bs : Nat), l.length ≤ n → l.length ≤ f → l.length ≤ g → scan last f pos l ba bs = scan last g pos l ba bs := by
  intro n
  induction n with
  | zero =>
    intro f g pos l ba bs hn _ _
    obtain rfl : l = [] := List.eq_nil_of_length_eq_zero (by omega)
    rw [scan_nil, scan_nil]
  | succ n ih =>
    intro f g pos l ba bs hn hf hg
    by_cases h0 : l = []
    · subst h0; rw [scan_nil, scan_nil]
    have hpos : 0 < l.length := List.length_pos_iff.2 h0
    by_cases hs : (wholeF l).2 = true ∧ last = false
    · rw [scan_stop h0 hs, scan_stop h0 hs]
    obtain ⟨f, rfl⟩ : ∃ k, f = k + 1 := ⟨f - 1, by omega⟩
    obtain ⟨g, rfl⟩ : ∃ k, g = k + 1 := ⟨g - 1, by omega⟩
    by_cases h2 : (wholeF l).1 = 0
    · rw [scan_bad h0 hs h2, scan_bad h0 hs h2]
      exact ih f g _ _ _ _ (by rw [List.length_drop]; omega) (by rw [List.length_drop]; omega) (by rw [List.length_drop]; omega)
    · obtain ⟨h, hle, _, _, _, _⟩ := wholeF_good h2
      rw [scan_good h2, scan_good h2, ih f g _ _ _ _ (by rw [List.length_drop]; omega) (by rw [List.length_drop]; omega) (by rw [List.length_drop]; omega)]

/-- What is left is the end of what was there. -/
theorem scan_left (last : Bool) : ∀ (f pos : Nat) (l : List UInt8) (ba bs : Nat), ∃ k, k ≤ l.length ∧ (scan last f pos l ba bs).2.1 = l.drop k := by
  intro f
  induction f with
  | zero => intro pos l ba bs; exact ⟨0, Nat.zero_le _, rfl⟩
  | succ f ih =>
    intro pos l ba bs
    by_cases h0 : l = []
    · subst h0; rw [scan_nil]; exact ⟨0, Nat.le_refl _, rfl⟩
    have hpos : 0 < l.length := List.length_pos_iff.2 h0
    by_cases hs : (wholeF l).2 = true ∧ last = false
    · rw [scan_stop h0 hs]; exact ⟨0, Nat.zero_le _, rfl⟩
    by_cases h2 : (wholeF l).1 = 0
    · rw [scan_bad h0 hs h2]
      obtain ⟨k, hk, he⟩ := ih (pos + 1) (l.drop 1) (if bs = 0 then pos else ba) (bs + 1)
      rw [List.length_drop] at hk
      exact ⟨1 + k, by omega, by rw [he, List.drop_drop]⟩
    · obtain ⟨h, hle, _, _, _, _⟩ := wholeF_good h2
      rw [scan_good h2]
      obtain ⟨k, hk, he⟩ := ih (pos + (wholeF l).1) (l.drop (wholeF l).1) 0 0
      rw [List.length_drop] at hk
      exact ⟨(wholeF l).1 + k, by omega, by rw [he, List.drop_drop]⟩

/-- The loop of the code is this. -/
theorem goN_scan (last : Bool) (base : Nat) (l : List UInt8) : ∀ (f p : Nat) (out : List Fr) (ba bs : Nat), p ≤ l.length → l.length - p ≤ f →
    goN last base l f p out ba bs = (l.length - (scan last f (base + p) (l.drop p) ba bs).2.1.length, out ++ (scan last f (base + p) (l.drop p) ba bs).1, (scan last f (base + p) (l.drop p) ba bs).2.2) ∧ l.drop (goN last base l f p out ba bs).1 = (scan last f (base + p) (l.drop p) ba bs).2.1 := by
  intro f
  induction f with
  | zero =>
    intro p out ba bs hp hf
    have : p = l.length := by omega
    subst this
    simp [goN, scan]
  | succ f ih =>
    intro p out ba bs hp hf
    by_cases hlt : p < l.length
    · have h0 : l.drop p ≠ [] := fun e => by have := congrArg List.length e; rw [List.length_drop] at this; simp at this; omega
      by_cases hs : (wholeF (l.drop p)).2 = true ∧ last = false
      · rw [scan_stop h0 hs, goN, if_pos hlt, if_pos hs]
        refine ⟨?_, rfl⟩
        simp only [List.append_nil, List.length_drop]
        congr 1; omega
      · by_cases h2 : (wholeF (l.drop p)).1 = 0
        · rw [scan_bad h0 hs h2, goN, if_pos hlt, if_neg hs, if_pos h2, List.drop_drop]
          have := ih (p + 1) out (if bs = 0 then base + p else ba) (bs + 1) (by omega) (by omega)
          rw [Nat.add_assoc]
          exact this
        · obtain ⟨h, hle, _, _, _, _⟩ := wholeF_good h2
          rw [List.length_drop] at hle
          rw [scan_good h2, goN, if_pos hlt, if_neg hs, if_neg h2, List.drop_drop, List.drop_drop]
          have := ih (p + (wholeF (l.drop p)).1) (tellL ba bs out ++ [⟨1, base + p, (wholeF (l.drop p)).1, (l.drop (p + 4)).take ((wholeF (l.drop p)).1 - 8)⟩]) 0 0 (by omega) (by omega)
          rw [Nat.add_assoc]
          refine ⟨?_, this.2⟩
          rw [this.1, tellL_eq]
          simp
    · have : p = l.length := by omega
      subst this
      rw [goN, if_neg hlt, List.drop_length, scan_nil]
      simp

theorem scan_last (f pos : Nat) (l : List UInt8) (ba bs : Nat) (h : l.length ≤ f) : (scan true f pos l ba bs).2.1 = [] := by
  induction f generalizing pos l ba bs with
  | zero => exact List.eq_nil_of_length_eq_zero (by simpa [scan] using h)
  | succ f ih =>
    by_cases h0 : l = []
    · subst h0; rw [scan_nil]
    have hpos : 0 < l.length := List.length_pos_iff.2 h0
    by_cases h2 : (wholeF l).1 = 0
    · rw [scan_bad h0 (by simp) h2]
      exact ih _ _ _ _ (by rw [List.length_drop]; omega)
    · obtain ⟨hh, hle, _, _, _, _⟩ := wholeF_good h2
      rw [scan_good h2]
      exact ih _ _ _ _ (by rw [List.length_drop]; omega)

/-- Feed and Close by it. -/
theorem feedF_scan (d : DSt) (b : List UInt8) (h : ¬ (d.closed = true ∨ 4611686018427387903 < d.fed + b.length)) :
    feedF d b = ((scan false (d.rest ++ b).length (d.fed - d.rest.length) (d.rest ++ b) d.ba d.bs).1,
      ⟨false, d.fed + b.length, (scan false (d.rest ++ b).length (d.fed - d.rest.length) (d.rest ++ b) d.ba d.bs).2.2.1, (scan false (d.rest ++ b).length (d.fed - d.rest.length) (d.rest ++ b) d.ba d.bs).2.2.2, (scan false (d.rest ++ b).length (d.fed - d.rest.length) (d.rest ++ b) d.ba d.bs).2.1⟩) := by
  unfold feedF
  rw [if_neg h]
  have h1 := goN_scan false (d.fed - d.rest.length) (d.rest ++ b) (d.rest ++ b).length 0 [] d.ba d.bs (Nat.zero_le _) (by omega)
  rw [List.drop_zero, Nat.add_zero] at h1
  obtain ⟨h1, h2⟩ := h1
  simp only [h2]
  rw [h1]
  simp
theorem closeF_scan (d : DSt) (h : ¬ d.closed = true) :
    closeF d = ((scan true d.rest.length (d.fed - d.rest.length) d.rest d.ba d.bs).1 ++ tellB (scan true d.rest.length (d.fed - d.rest.length) d.rest d.ba d.bs).2.2.1 (scan true d.rest.length (d.fed - d.rest.length) d.rest d.ba d.bs).2.2.2,
      ⟨true, d.fed, 0, 0, []⟩) := by
  unfold closeF
  rw [if_neg h]
  have h1 := goN_scan true (d.fed - d.rest.length) d.rest d.rest.length 0 [] d.ba d.bs (Nat.zero_le _) (by omega)
  rw [List.drop_zero, Nat.add_zero] at h1
  obtain ⟨h1, h2⟩ := h1
  have h3 := scan_last d.rest.length (d.fed - d.rest.length) d.rest d.ba d.bs (Nat.le_refl _)
  rw [h3] at h2
  simp only [h2]
  rw [h1, tellL_eq]
  simp

theorem wholeF_at {l : List UInt8} (hm : l.take 2 = [197, 171]) (h4 : 4 ≤ l.length) (hw : lenOf l ≤ 4096) (ho : lenOf l + 8 ≤ l.length) :
    wholeF l = if (l.drop (lenOf l + 4)).take 4 = sum4 (crc (l.take (lenOf l + 4))) then (lenOf l + 8, false) else (0, false) := by
  unfold wholeF
  rw [if_neg (by omega), if_neg (fun e => e hm), if_neg (by omega), if_neg (by omega), if_neg (by omega)]

/-- What is decided of some bytes stays so when more come. -/
theorem wholeF_more {l t : List UInt8} (h0 : l ≠ []) (h : (wholeF l).2 = false) : wholeF (l ++ t) = wholeF l := by
  have hpos : 0 < l.length := List.length_pos_iff.2 h0
  by_cases h2 : l.length < 2
  · match l, h2 with
    | [x], _ =>
      have hx : ¬ x = 197 := by
        intro e
        subst e
        simp [wholeF] at h
      have e1 : wholeF [x] = (0, false) := by simp [wholeF, hx]
      rw [e1]
      cases t with
      | nil => simp [wholeF, hx]
      | cons y t => simp [wholeF, hx]
  have htk : (l ++ t).take 2 = l.take 2 := by rw [List.take_append_of_le_length (by omega)]
  by_cases hm : l.take 2 = [197, 171]
  · by_cases h4 : l.length < 4
    · have : (wholeF l).2 = true := by unfold wholeF; rw [if_neg h2, if_neg (fun e => e hm), if_pos h4]
      rw [this] at h; cases h
    have hlo : lenOf (l ++ t) = lenOf l := by
      unfold lenOf
      rw [List.getD_eq_getElem?_getD, List.getD_eq_getElem?_getD, List.getD_eq_getElem?_getD, List.getD_eq_getElem?_getD, List.getElem?_append_left (by omega), List.getElem?_append_left (by omega)]
    by_cases hw : 4096 < lenOf l
    · unfold wholeF
      rw [if_neg (by rw [List.length_append]; omega), htk, if_neg (fun e => e hm), if_neg (by rw [List.length_append]; omega), hlo, if_pos hw, if_neg h2, if_neg (fun e => e hm), if_neg h4, if_pos hw]
    by_cases ho : l.length < lenOf l + 8
    · have : (wholeF l).2 = true := by unfold wholeF; rw [if_neg h2, if_neg (fun e => e hm), if_neg h4, if_neg hw, if_pos ho]
      rw [this] at h; cases h
    · have e1 : ((l ++ t).drop (lenOf l + 4)).take 4 = (l.drop (lenOf l + 4)).take 4 := by
        rw [List.drop_append_of_le_length (by omega), List.take_append_of_le_length (by rw [List.length_drop]; omega)]
      have e2 : (l ++ t).take (lenOf l + 4) = l.take (lenOf l + 4) := by rw [List.take_append_of_le_length (by omega)]
      rw [wholeF_at (by rw [htk]; exact hm) (by rw [List.length_append]; omega) (by rw [hlo]; omega) (by rw [hlo, List.length_append]; omega), wholeF_at hm (by omega) (by omega) (by omega), hlo, e1, e2]
  · unfold wholeF
    rw [if_neg (by rw [List.length_append]; omega), htk, if_pos hm, if_neg h2, if_pos hm]
end Go.Proofs.YtmblghdiejneoaaGreat
