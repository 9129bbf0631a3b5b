/- Plain law: streams in pieces, and what is told of a whole stream. -/
import Derived.Test.YtmblghdiejneoaaGreatQPure2
namespace Go.Proofs.YtmblghdiejneoaaGreat

/-- Going through some bytes, and then, behind what is left of them, through more. -/
theorem scan_then (last : Bool) : ∀ (f pos : Nat) (l t : List UInt8) (ba bs : Nat), (l ++ t).length ≤ f →
    scan last f pos (l ++ t) ba bs =
      ((scan false f pos l ba bs).1 ++ (scan last f (pos + (l.length - (scan false f pos l ba bs).2.1.length)) ((scan false f pos l ba bs).2.1 ++ t) (scan false f pos l ba bs).2.2.1 (scan false f pos l ba bs).2.2.2).1,
        (scan last f (pos + (l.length - (scan false f pos l ba bs).2.1.length)) ((scan false f pos l ba bs).2.1 ++ t) (scan false f pos l ba bs).2.2.1 (scan false f pos l ba bs).2.2.2).2) := by
  intro f
  induction f with
  | zero =>
    intro pos l t ba bs h
    have hl : l = [] := List.eq_nil_of_length_eq_zero (by rw [List.length_append] at h; omega)
    have ht : t = [] := List.eq_nil_of_length_eq_zero (by rw [List.length_append] at h; omega)
    subst hl ht
    simp [scan]
  | succ f ih =>
    intro pos l t ba bs h
    by_cases h0 : l = []
    · subst h0; rw [scan_nil]; simp
    have hpos : 0 < l.length := List.length_pos_iff.2 h0
    have hne : l ++ t ≠ [] := by simp [h0]
    cases hop : (wholeF l).2 with
    | true =>
      rw [scan_stop h0 ⟨hop, rfl⟩]
      simp
    | false =>
      have hw := wholeF_more (t := t) h0 hop
      rw [List.length_append] at h
      by_cases h2 : (wholeF l).1 = 0
      · rw [scan_bad hne (by rw [hw, hop]; simp) (by rw [hw]; exact h2), scan_bad h0 (by rw [hop]; simp) h2, List.drop_append_of_le_length (by omega)]
        rw [ih (pos + 1) (l.drop 1) t (if bs = 0 then pos else ba) (bs + 1) (by rw [List.length_append, List.length_drop]; omega)]
        obtain ⟨k, hk, he⟩ := scan_left false f (pos + 1) (l.drop 1) (if bs = 0 then pos else ba) (bs + 1)
        rw [List.length_drop] at hk
        generalize hx : scan false f (pos + 1) (l.drop 1) (if bs = 0 then pos else ba) (bs + 1) = x at *
        have hxl : x.2.1.length = l.length - 1 - k := by rw [he, List.length_drop, List.length_drop]
        rw [scan_fuel last (f + 1) (f + 1) f _ (x.2.1 ++ t) _ _ (by rw [List.length_append]; omega) (by rw [List.length_append]; omega) (by rw [List.length_append]; omega)]
        rw [show pos + (l.length - x.2.1.length) = pos + 1 + ((l.drop 1).length - x.2.1.length) by rw [List.length_drop]; omega]
      · obtain ⟨hh, hle, _, _, _, _⟩ := wholeF_good h2
        rw [scan_good (by rw [hw]; exact h2), scan_good h2, hw, List.drop_append_of_le_length (by omega), List.drop_append_of_le_length (by omega), List.take_append_of_le_length (by rw [List.length_drop]; omega)]
        rw [ih (pos + (wholeF l).1) (l.drop (wholeF l).1) t 0 0 (by rw [List.length_append, List.length_drop]; omega)]
        obtain ⟨k, hk, he⟩ := scan_left false f (pos + (wholeF l).1) (l.drop (wholeF l).1) 0 0
        rw [List.length_drop] at hk
        generalize hx : scan false f (pos + (wholeF l).1) (l.drop (wholeF l).1) 0 0 = x at *
        have hxl : x.2.1.length = l.length - (wholeF l).1 - k := by rw [he, List.length_drop, List.length_drop]
        simp only
        rw [scan_fuel last (f + 1) (f + 1) f _ (x.2.1 ++ t) _ _ (by rw [List.length_append]; omega) (by rw [List.length_append]; omega) (by rw [List.length_append]; omega)]
        rw [show pos + (l.length - x.2.1.length) = pos + (wholeF l).1 + ((l.drop (wholeF l).1).length - x.2.1.length) by rw [List.length_drop]; omega]
        simp

/-- What is told of a whole stream. -/
def total (b : List UInt8) : List Fr := (scan true b.length 0 b 0 0).1 ++ tellB (scan true b.length 0 b 0 0).2.2.1 (scan true b.length 0 b 0 0).2.2.2

theorem split_total (b : List UInt8) (h : b.length ≤ 4611686018427387903) : splitF b = total b := by
  have hn : ¬ (d0.closed = true ∨ 4611686018427387903 < d0.fed + b.length) := by
    intro hh
    rcases hh with hh | hh
    · cases hh
    · simp [d0] at hh; omega
  unfold splitF total
  rw [feedF_scan d0 b hn]
  have hd : (d0.rest ++ b) = b := rfl
  have hp : d0.fed - d0.rest.length = 0 := rfl
  have hz : d0.fed + b.length = b.length := by simp [d0]
  rw [hd, hp, hz]
  obtain ⟨k, hk, he⟩ := scan_left false b.length 0 b d0.ba d0.bs
  have ht := scan_then true b.length 0 b [] d0.ba d0.bs (by simp)
  rw [List.append_nil, List.append_nil, Nat.zero_add] at ht
  generalize hx : scan false b.length 0 b d0.ba d0.bs = x at *
  rw [closeF_scan _ (by simp)]
  simp only
  have hl : x.2.1.length ≤ b.length := by rw [he, List.length_drop]; omega
  rw [scan_fuel true b.length x.2.1.length b.length _ _ _ _ hl (Nat.le_refl _) hl]
  show _ = (scan true b.length 0 b d0.ba d0.bs).1 ++ tellB (scan true b.length 0 b d0.ba d0.bs).2.2.1 (scan true b.length 0 b d0.ba d0.bs).2.2.2
  rw [ht]
  simp

theorem four_of : ∀ (l : List UInt8), 4 ≤ l.length → ∃ x0 x1 x2 x3 r, l = x0 :: x1 :: x2 :: x3 :: r
  | x0 :: x1 :: x2 :: x3 :: r, _ => ⟨x0, x1, x2, x3, r, rfl⟩
  | [], h => by simp at h
  | [_], h => by simp at h
  | [_, _], h => by simp at h
  | [_, _, _], h => by simp at h
/-- A frame that is found is the frame of its content. -/
theorem whole_frame {l : List UInt8} (h : (wholeF l).1 ≠ 0) : ∃ c t, c.length ≤ 4096 ∧ l = frameL c ++ t ∧ (wholeF l).1 = c.length + 8 ∧ (l.drop 4).take ((wholeF l).1 - 8) = c := by
  obtain ⟨hs, hle, hlo, _, htk, hd⟩ := wholeF_good h
  obtain ⟨x0, x1, x2, x3, r, rfl⟩ := four_of l (by omega)
  have hlen : lenOf (x0 :: x1 :: x2 :: x3 :: r) = x2.toNat * 256 + x3.toNat := rfl
  generalize hn : lenOf (x0 :: x1 :: x2 :: x3 :: r) = n at *
  simp only [List.take_succ_cons, List.take_zero, List.cons.injEq, and_true] at htk
  obtain ⟨rfl, rfl⟩ := htk
  simp only [List.length_cons] at hle
  have hc : (r.take n).length = n := by rw [List.length_take]; omega
  have e2 : UInt8.ofNat (n / 256) = x2 := by
    apply UInt8.toNat_inj.1
    rw [toNat_ofNat]
    have := x2.toNat_lt
    have := x3.toNat_lt
    omega
  have e3 : UInt8.ofNat n = x3 := by
    apply UInt8.toNat_inj.1
    rw [toNat_ofNat]
    have := x2.toNat_lt
    have := x3.toNat_lt
    omega
  have hhead : headL (r.take n) ++ r.take n = 197 :: 171 :: x2 :: x3 :: r.take n := by
    simp only [headL, hc, e2, e3]
    rfl
  have hb : (197 :: 171 :: x2 :: x3 :: r).take (n + 4) = headL (r.take n) ++ r.take n := by rw [hhead]; rfl
  have hdd : (197 :: 171 :: x2 :: x3 :: r).drop (n + 4) = r.drop n := rfl
  rw [hb, hdd] at hd
  refine ⟨r.take n, r.drop (n + 4), by rw [hc]; exact hlo, ?_, by rw [hs, hc], by rw [hs]; rfl⟩
  unfold frameL
  rw [← hd, hhead]
  simp only [List.cons_append, List.cons.injEq, true_and]
  rw [List.append_assoc, ← List.drop_drop, List.take_append_drop, List.take_append_drop]

/-- What is told covers the stream from 'at' on. (pb: was a bad stretch told just ahead?) -/
def Cov (b : List UInt8) : Nat → Bool → List Fr → Prop
  | p, _, [] => p = b.length
  | p, pb, x :: l => x.pos = p ∧ 1 ≤ x.size ∧ x.size ≤ b.length - p ∧
    ((x.kind = 1 ∧ x.content.length ≤ 4096 ∧ (b.drop p).take x.size = frameL x.content ∧ Cov b (p + x.size) false l) ∨
     (x.kind = 2 ∧ x.content = [] ∧ pb = false ∧ (∀ k, k < x.size → (wholeF (b.drop (p + k))).1 = 0) ∧ Cov b (p + x.size) true l))

theorem cov_bad {b : List UInt8} {p bs : Nat} {l : List Fr} (h1 : 0 < bs) (h2 : p + bs ≤ b.length) (h3 : ∀ k, k < bs → (wholeF (b.drop (p + k))).1 = 0) (h : Cov b (p + bs) true l) : Cov b p false (⟨2, p, bs, []⟩ :: l) :=
  ⟨rfl, h1, by show bs ≤ _; omega, .inr ⟨rfl, rfl, rfl, h3, h⟩⟩

theorem cov_scan (b : List UInt8) : ∀ (f pos : Nat) (l : List UInt8) (ba bs : Nat), l.length ≤ f → b.drop pos = l → pos ≤ b.length → (0 < bs → ba + bs = pos ∧ ∀ k, k < bs → (wholeF (b.drop (ba + k))).1 = 0) →
    Cov b (if bs = 0 then pos else ba) false ((scan true f pos l ba bs).1 ++ tellB (scan true f pos l ba bs).2.2.1 (scan true f pos l ba bs).2.2.2) := by
  intro f
  induction f with
  | zero =>
    intro pos l ba bs hf hd hp hb
    have hl : l = [] := List.eq_nil_of_length_eq_zero (by omega)
    subst hl
    have hpe : pos = b.length := by have := congrArg List.length hd; rw [List.length_drop] at this; simp at this; omega
    rw [scan_nil]
    simp only [List.nil_append, tellB]
    by_cases h : bs = 0
    · rw [if_pos h, if_pos h]; exact hpe
    · rw [if_neg h, if_neg h]
      obtain ⟨h1, h2⟩ := hb (by omega)
      exact cov_bad (by omega) (by omega) h2 (by rw [h1]; exact hpe)
  | succ f ih =>
    intro pos l ba bs hf hd hp hb
    by_cases h0 : l = []
    · subst h0
      have hpe : pos = b.length := by have := congrArg List.length hd; rw [List.length_drop] at this; simp at this; omega
      rw [scan_nil]
      simp only [List.nil_append, tellB]
      by_cases h : bs = 0
      · rw [if_pos h, if_pos h]; exact hpe
      · rw [if_neg h, if_neg h]
        obtain ⟨h1, h2⟩ := hb (by omega)
        exact cov_bad (by omega) (by omega) h2 (by rw [h1]; exact hpe)
    have hpos : 0 < l.length := List.length_pos_iff.2 h0
    have hlt : pos < b.length := by have := congrArg List.length hd; rw [List.length_drop] at this; omega
    by_cases h2 : (wholeF l).1 = 0
    · rw [scan_bad h0 (by simp) h2]
      have := ih (pos + 1) (l.drop 1) (if bs = 0 then pos else ba) (bs + 1) (by rw [List.length_drop]; omega) (by rw [← hd, List.drop_drop]) (by omega) (fun _ => by
        by_cases h : bs = 0
        · subst h
          rw [if_pos rfl]
          refine ⟨rfl, fun k hk => ?_⟩
          have : k = 0 := by omega
          subst this
          rw [Nat.add_zero, hd]; exact h2
        · rw [if_neg h]
          obtain ⟨h3, h4⟩ := hb (by omega)
          refine ⟨by omega, fun k hk => ?_⟩
          by_cases hkb : k < bs
          · exact h4 k hkb
          · have : ba + k = pos := by omega
            rw [this, hd]; exact h2)
      rw [if_neg (by omega)] at this
      exact this
    · obtain ⟨c, t, hc, hl, hs, hcont⟩ := whole_frame h2
      obtain ⟨_, hle, _⟩ := wholeF_good h2
      rw [scan_good h2, hcont]
      have hsl : (wholeF l).1 ≤ l.length := by omega
      have hll : l.length = b.length - pos := by rw [← hd, List.length_drop]
      have hrest := ih (pos + (wholeF l).1) (l.drop (wholeF l).1) 0 0 (by rw [List.length_drop]; omega) (by rw [← hd, List.drop_drop]) (by omega) (fun h => by omega)
      rw [if_pos rfl] at hrest
      have hg : ∀ pb, Cov b pos pb (⟨1, pos, (wholeF l).1, c⟩ :: ((scan true f (pos + (wholeF l).1) (l.drop (wholeF l).1) 0 0).1 ++ tellB (scan true f (pos + (wholeF l).1) (l.drop (wholeF l).1) 0 0).2.2.1 (scan true f (pos + (wholeF l).1) (l.drop (wholeF l).1) 0 0).2.2.2)) := by
        intro pb
        refine ⟨rfl, by show 1 ≤ (wholeF l).1; omega, by show (wholeF l).1 ≤ _; omega, .inl ⟨rfl, hc, ?_, hrest⟩⟩
        show (b.drop pos).take (wholeF l).1 = frameL c
        rw [hd, hs]
        conv => lhs; rw [hl]
        rw [List.take_left' (frameL_length c)]
      simp only [List.append_assoc, List.cons_append]
      unfold tellB
      by_cases h : bs = 0
      · rw [if_pos h, if_pos h]; exact hg false
      · rw [if_neg h, if_neg h]
        obtain ⟨h3, h4⟩ := hb (by omega)
        exact cov_bad (by omega) (by omega) h4 (by rw [h3]; exact hg true)

theorem cov_total (b : List UInt8) : Cov b 0 false (total b) := by
  have := cov_scan b b.length 0 b 0 0 (Nat.le_refl _) rfl (Nat.zero_le _) (fun h => by omega)
  rw [if_pos rfl] at this
  exact this
end Go.Proofs.YtmblghdiejneoaaGreat
