/- Plain law: the reference's way through a stream. -/
import Derived.Test.YtmblghdiejneoaaGreatQPure3
namespace Go.Proofs.YtmblghdiejneoaaGreat

/-- What stands at the beginning: 3 it is open, 1 nothing, 2 a frame of so many bytes. -/
def standsF (l : List UInt8) : Nat × Nat :=
  if l.length < 1 then (3, 0)
  else if l.getD 0 0 ≠ 197 ∨ (1 < l.length ∧ l.getD 1 0 ≠ 171) then (1, 0)
  else if l.length < 4 then (3, 0)
  else if 4096 < lenOf l then (1, 0)
  else if l.length < lenOf l + 8 then (3, 0)
  else if frameL ((l.drop 4).take (lenOf l)) ≠ l.take (lenOf l + 8) then (1, 0)
  else (2, lenOf l + 8)

theorem standsF_whole {l : List UInt8} (h0 : l ≠ []) : standsF l = if (wholeF l).1 ≠ 0 then (2, (wholeF l).1) else if (wholeF l).2 = true then (3, 0) else (1, 0) := by
  have hpos : 0 < l.length := List.length_pos_iff.2 h0
  unfold standsF
  rw [if_neg (by omega)]
  by_cases h2 : l.length < 2
  · obtain ⟨x, rfl⟩ : ∃ x, l = [x] := by
      match l, h0, h2 with
      | [x], _, _ => exact ⟨x, rfl⟩
      | [], h, _ => exact absurd rfl h
      | _ :: _ :: _, _, h => simp at h; omega
    by_cases hx : x = 197
    · subst hx
      rfl
    · have hw : wholeF [x] = (0, false) := by
        unfold wholeF
        rw [if_pos (by simp)]
        have : ([x] == [(197 : UInt8)]) = false := by rw [beq_eq_false_iff_ne]; intro e; cases e; exact hx rfl
        rw [this]
      rw [hw, if_pos (.inl (by simpa using hx))]
      rfl
  · obtain ⟨x, y, r, rfl⟩ : ∃ x y r, l = x :: y :: r := by
      match l, h2 with
      | x :: y :: r, _ => exact ⟨x, y, r, rfl⟩
      | [], h => simp at h
      | [_], h => simp at h
    have htk : (x :: y :: r).take 2 = [x, y] := rfl
    by_cases hm : x = 197 ∧ y = 171
    · obtain ⟨rfl, rfl⟩ := hm
      rw [if_neg (show ¬ ((197 :: 171 :: r : List UInt8).getD 0 0 ≠ 197 ∨ (1 < (197 :: 171 :: r : List UInt8).length ∧ (197 :: 171 :: r : List UInt8).getD 1 0 ≠ 171)) by simp)]
      unfold wholeF
      rw [if_neg h2, if_neg (show ¬ ¬ ((197 :: 171 :: r : List UInt8).take 2 = [197, 171]) by simp)]
      by_cases h4 : (197 :: 171 :: r : List UInt8).length < 4
      · rw [if_pos h4, if_pos h4]; rfl
      rw [if_neg h4, if_neg h4]
      by_cases h5 : 4096 < lenOf (197 :: 171 :: r)
      · rw [if_pos h5, if_pos h5]; rfl
      rw [if_neg h5, if_neg h5]
      by_cases h6 : (197 :: 171 :: r : List UInt8).length < lenOf (197 :: 171 :: r) + 8
      · rw [if_pos h6, if_pos h6]; rfl
      rw [if_neg h6, if_neg h6]
      obtain ⟨y0, y1, x2, x3, r', he⟩ := four_of (197 :: 171 :: r) (by omega)
      have he' : r = x2 :: x3 :: r' := by
        have := congrArg (List.drop 2) he
        simpa using this
      subst he'
      clear he
      have hlen : lenOf (197 :: 171 :: x2 :: x3 :: r') = x2.toNat * 256 + x3.toNat := rfl
      generalize hn : lenOf (197 :: 171 :: x2 :: x3 :: r') = n at *
      simp only [List.length_cons] at h6
      have hc : (r'.take n).length = n := by rw [List.length_take]; omega
      have e2 : UInt8.ofNat (n / 256) = x2 := by
        apply UInt8.toNat_inj.1
        rw [toNat_ofNat]
        have := x2.toNat_lt
        have := x3.toNat_lt
        omega
      have e3 : UInt8.ofNat n = x3 := by
        apply UInt8.toNat_inj.1
        rw [toNat_ofNat]
        have := x2.toNat_lt
        have := x3.toNat_lt
        omega
      have hhead : headL (r'.take n) ++ r'.take n = 197 :: 171 :: x2 :: x3 :: r'.take n := by
        simp only [headL, hc, e2, e3]
        rfl
      have hb : (197 :: 171 :: x2 :: x3 :: r').take (n + 4) = 197 :: 171 :: x2 :: x3 :: r'.take n := rfl
      have hdd : (197 :: 171 :: x2 :: x3 :: r').drop (n + 4) = r'.drop n := rfl
      have hd4 : ((197 :: 171 :: x2 :: x3 :: r').drop 4).take n = r'.take n := rfl
      have ht8 : (197 :: 171 :: x2 :: x3 :: r').take (n + 8) = (197 :: 171 :: x2 :: x3 :: r'.take n) ++ (r'.drop n).take 4 := by
        rw [show n + 8 = (n + 4) + 4 by omega, List.take_add, hb, hdd]
      have key : frameL (r'.take n) = (197 :: 171 :: x2 :: x3 :: r'.take n) ++ (r'.drop n).take 4 ↔ (r'.drop n).take 4 = sum4 (crc (197 :: 171 :: x2 :: x3 :: r'.take n)) := by
        unfold frameL
        rw [hhead]
        constructor
        · intro h; exact (List.append_cancel_left h).symm
        · intro h; rw [h]
      rw [hd4, ht8, hdd, hb]
      by_cases hk : (r'.drop n).take 4 = sum4 (crc (197 :: 171 :: x2 :: x3 :: r'.take n))
      · rw [if_neg (fun h => h (key.2 hk)), if_pos hk, if_pos (by simp)]
      · rw [if_pos (fun h => hk (key.1 h)), if_neg hk]
        rfl
    · have hw : wholeF (x :: y :: r) = (0, false) := by
        unfold wholeF
        rw [if_neg h2, if_pos (by rw [htk]; intro e; simp at e; exact hm e)]
      rw [hw, if_pos (by
        by_cases hx : x = 197
        · right
          refine ⟨by simp, ?_⟩
          intro hy
          exact hm ⟨hx, hy⟩
        · left; exact hx)]
      rfl

/-- One bad byte more. -/
def bump (out : List Fr) (at_ : Nat) : List Fr := match out.getLast? with
  | some x => if x.kind = 2 then out.dropLast ++ [⟨x.kind, x.pos, x.size + 1, x.content⟩] else out ++ [⟨2, at_, 1, []⟩]
  | none => out ++ [⟨2, at_, 1, []⟩]
/-- The reference's loop. -/
def gone (last : Bool) : Nat → Nat → List UInt8 → List Fr → List Fr × List UInt8
  | 0, _, l, out => (out, l)
  | f + 1, pos, l, out =>
    if (standsF l).1 = 3 ∧ (last = false ∨ l = []) then (out, l)
    else if (standsF l).1 = 2 then gone last f (pos + (standsF l).2) (l.drop (standsF l).2) (out ++ [⟨1, pos, (standsF l).2, (l.drop 4).take ((standsF l).2 - 8)⟩])
    else gone last f (pos + 1) (l.drop 1) (bump out pos)

theorem bump_tell {out : List Fr} {ba bs pos : Nat} (h : bs = 0 → ∀ x, out.getLast? = some x → x.kind ≠ 2) : bump (out ++ tellB ba bs) pos = out ++ tellB (if bs = 0 then pos else ba) (bs + 1) := by
  unfold tellB
  by_cases hb : bs = 0
  · rw [if_pos hb, if_pos hb, if_neg (by omega), List.append_nil, hb]
    unfold bump
    split
    · rename_i x hx
      rw [if_neg (h hb x hx)]
    · rfl
  · rw [if_neg hb, if_neg hb, if_neg (by omega)]
    unfold bump
    rw [List.getLast?_concat]
    simp

theorem gone_scan (last : Bool) : ∀ (f pos : Nat) (l : List UInt8) (out : List Fr) (ba bs : Nat), l.length < f → (bs = 0 → ∀ x, out.getLast? = some x → x.kind ≠ 2) →
    gone last f pos l (out ++ tellB ba bs) = (out ++ (scan last f pos l ba bs).1 ++ tellB (scan last f pos l ba bs).2.2.1 (scan last f pos l ba bs).2.2.2, (scan last f pos l ba bs).2.1) := by
  intro f
  induction f with
  | zero => intro pos l out ba bs hf; omega
  | succ f ih =>
    intro pos l out ba bs hf hlast
    by_cases h0 : l = []
    · subst h0
      rw [scan_nil]
      have hs : (standsF []).1 = 3 := rfl
      rw [gone, if_pos ⟨hs, .inr rfl⟩]
      simp
    have hpos : 0 < l.length := List.length_pos_iff.2 h0
    have hst := standsF_whole h0
    by_cases h2 : (wholeF l).1 = 0
    · rw [if_neg (by simpa using h2)] at hst
      by_cases hop : (wholeF l).2 = true ∧ last = false
      · rw [if_pos hop.1] at hst
        rw [scan_stop h0 hop, gone, if_pos ⟨by rw [hst], .inl hop.2⟩]
        simp
      · rw [scan_bad h0 hop h2, gone, if_neg, if_neg, bump_tell hlast]
        · rw [ih _ _ _ _ _ (by rw [List.length_drop]; omega) (fun h => by omega)]
        · rw [hst]; split <;> simp
        · rw [hst]
          intro hh
          split at hh
          · rename_i hw
            rcases hh.2 with h | h
            · exact hop ⟨hw, h⟩
            · exact h0 h
          · simp at hh
    · rw [if_pos h2] at hst
      obtain ⟨hh, hle, _, _, _, _⟩ := wholeF_good h2
      rw [scan_good h2, gone, if_neg (by rw [hst]; simp), if_pos (by rw [hst]), hst]
      have := ih (pos + (wholeF l).1) (l.drop (wholeF l).1) (out ++ tellB ba bs ++ [⟨1, pos, (wholeF l).1, (l.drop 4).take ((wholeF l).1 - 8)⟩]) 0 0 (by rw [List.length_drop]; omega) (fun _ x hx => by
        rw [List.getLast?_concat] at hx
        simp at hx
        rw [← hx]
        simp)
      rw [show tellB 0 0 = [] from rfl, List.append_nil] at this
      rw [this]
      simp

theorem gone_total (b : List UInt8) : gone true (b.length + 1) 0 b [] = (total b, []) := by
  have := gone_scan true (b.length + 1) 0 b [] 0 0 (by omega) (fun _ x h => by simp at h)
  rw [show tellB 0 0 = [] from rfl, List.append_nil] at this
  rw [this, scan_fuel true (b.length + 1) (b.length + 1) b.length 0 b 0 0 (by omega) (by omega) (Nat.le_refl _), scan_last b.length 0 b 0 0 (Nat.le_refl _)]
  unfold total
  simp
end Go.Proofs.YtmblghdiejneoaaGreat
