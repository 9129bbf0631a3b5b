/- The reference's Split. -/
import Derived.Test.YtmblghdiejneoaaGreatQRGone2
import Derived.Test.YtmblghdiejneoaaGreatQBookF
import Derived.Test.YtmblghdiejneoaaGreatQPure3
namespace Go.Proofs.YtmblghdiejneoaaGreat
set_option maxRecDepth 100000
open Go.RowKit

set_option maxHeartbeats 2000000 in
theorem rsplit_any (w : World) (ao : Option Addr) (k c : Nat) (b : List UInt8) (hbk : b.length = k) (hrb : Rd w ao b) (hk : k ≤ 10000000000) :
    Calls Tryz.prog 6 #[.slice ao k c] w (SplitPost w (splitF b)) := by
  have hcv := conv_str (P := Tryz.prog) w 22 9 5 Tryz.underlying22 Tryz.underlying5 Tryz.underlying9 ao k c b hbk hrb
  have hg := gone_any ⟨b.toArray⟩ true w (by simp [ByteArray.size, hbk]; omega)
  have hsz : (⟨b.toArray⟩ : ByteArray).size = b.length := by simp [ByteArray.size]
  have hdd : (⟨b.toArray⟩ : ByteArray).data.toList = b := by simp
  rw [hsz, hdd, gone_total, ← split_total b (by omega)] at hg
  have HG := Lib.hid hg
  generalize (⟨b.toArray⟩ : ByteArray) = S at *
  clear hg hsz hdd
  go_enter Tryz.func6, Tryz.ntmps6
  go_wp2_with fail
  refine HG.out.mono ?_
  rintro e w1 ⟨v, rfl, ho, hge, hb⟩
  obtain ⟨va, vc, rfl, _⟩ := own_shape ho
  have HP := Lib.hid (show SplitPost w (splitF b) (.returned (.slice va (splitF b).length vc)) w1 from ⟨_, rfl, ho, hb, hge⟩)
  clear ho hge hb
  go_wp2_with fail
  go_ret
  exact HP.out
end Go.Proofs.YtmblghdiejneoaaGreat

/- Streams in pieces: the plain law; a list that grows by what is told. -/
namespace Go.Proofs.YtmblghdiejneoaaGreat
set_option maxRecDepth 100000
open Go.RowKit

theorem feedF_append (d : DSt) (a b : List UInt8) (hc : d.closed = false) (hr : d.rest.length ≤ d.fed) (h : d.fed + a.length + b.length ≤ 4611686018427387903) :
    feedF d (a ++ b) = ((feedF d a).1 ++ (feedF (feedF d a).2 b).1, (feedF (feedF d a).2 b).2) := by
  have n1 : ¬ (d.closed = true ∨ 4611686018427387903 < d.fed + (a ++ b).length) := by rw [hc, List.length_append]; simp; omega
  have n2 : ¬ (d.closed = true ∨ 4611686018427387903 < d.fed + a.length) := by rw [hc]; simp; omega
  rw [feedF_scan d _ n1, feedF_scan d a n2]
  obtain ⟨k, hk, he⟩ := scan_left false (d.rest ++ a).length (d.fed - d.rest.length) (d.rest ++ a) d.ba d.bs
  have ht := scan_then false (d.rest ++ (a ++ b)).length (d.fed - d.rest.length) (d.rest ++ a) b d.ba d.bs (by simp)
  rw [List.append_assoc] at ht
  rw [scan_fuel false (d.rest ++ (a ++ b)).length (d.rest ++ (a ++ b)).length (d.rest ++ a).length (d.fed - d.rest.length) (d.rest ++ a) _ _ (by simp) (by simp) (Nat.le_refl _)] at ht
  generalize hx : scan false (d.rest ++ a).length (d.fed - d.rest.length) (d.rest ++ a) d.ba d.bs = x at *
  have hxl : x.2.1.length = d.rest.length + a.length - k := by rw [he, List.length_drop, List.length_append]
  rw [List.length_append] at hk
  have n3 : ¬ ((⟨false, d.fed + a.length, x.2.2.1, x.2.2.2, x.2.1⟩ : DSt).closed = true ∨ 4611686018427387903 < (⟨false, d.fed + a.length, x.2.2.1, x.2.2.2, x.2.1⟩ : DSt).fed + b.length) := by simp; omega
  rw [feedF_scan _ b n3]
  have hp : d.fed - d.rest.length + ((d.rest ++ a).length - x.2.1.length) = d.fed + a.length - x.2.1.length := by rw [List.length_append]; omega
  rw [hp] at ht
  rw [scan_fuel false (d.rest ++ (a ++ b)).length (d.rest ++ (a ++ b)).length (x.2.1 ++ b).length _ (x.2.1 ++ b) _ _ (by simp; omega) (by simp; omega) (Nat.le_refl _)] at ht
  rw [ht]
  simp [Nat.add_assoc]

theorem feedF_st (d : DSt) (b : List UInt8) (hc : d.closed = false) (h : d.fed + b.length ≤ 4611686018427387903) : (feedF d b).2.closed = false ∧ (feedF d b).2.fed = d.fed + b.length := by
  have n1 : ¬ (d.closed = true ∨ 4611686018427387903 < d.fed + b.length) := by rw [hc]; simp; omega
  rw [feedF_scan d b n1]
  exact ⟨rfl, rfl⟩
theorem feedF_nil0 : feedF d0 [] = ([], d0) := by rw [feedF_scan d0 [] (by simp [d0])]; rfl
theorem closeF_st (d : DSt) (hc : d.closed = false) : (closeF d).2 = ⟨true, d.fed, 0, 0, []⟩ := by rw [closeF_scan d (by simp [hc])]

/-- Bytes lie in no decoder. -/
theorem DecAt.no_rd {w : World} {D : Nat} {r : Value} {d : DSt} {ao : Option Addr} {l : List UInt8} (h : DecAt w D r d) (hr : Rd w ao l) (hl : l ≠ []) : ∀ b' o', ao = some ⟨b', o', none⟩ → ¬ b' = D := by
  intro b' o' ha hb
  subst hb
  subst ha
  rcases hr with h0 | ⟨b2, o2, e, hc⟩
  · exact hl h0
  · cases e
    have hpos : 0 < l.length := List.length_pos_iff.2 hl
    have h1 := hc 0 hpos
    simp only [Nat.add_zero, World.cell?, h.block] at h1
    have hr : ∃ a n c, r = .slice a n c := by
      rcases h.own.2 with ⟨h, _⟩ | ⟨g, cap, h, _⟩
      · exact ⟨_, _, _, h⟩
      · exact ⟨_, _, _, h⟩
    obtain ⟨a, n, c, rfl⟩ := hr
    match o', h1 with
    | 0, h1 => simp at h1
    | 1, h1 => simp at h1
    | 2, h1 => simp at h1
    | 3, h1 => simp at h1
    | 4, h1 => simp at h1
    | 5, h1 => simp at h1
    | o + 6, h1 => simp at h1

/-- A decoder, and a list of what was told. -/
structure Told (N : Nat) (w : World) (D : Nat) (r l : Value) (L : List Fr) (d : DSt) : Prop where
  dec : DecAt w D r d
  own : Own w 4 l L.length (fcells L)
  newL : ∀ g, l.ownBlock = some g → N ≤ g
  newR : ∀ g, r.ownBlock = some g → N ≤ g
  apart : ∀ g, l.ownBlock = some g → r.ownBlock ≠ some g

theorem Told.keep {X : Nat → Prop} {N : Nat} {w w' : World} {D : Nat} {r l : Value} {L : List Fr} {d : DSt} (h : Told N w D r l L d) (k : Keep X w w') (hD : ¬ X D) (hx : ∀ g, N ≤ g → g < w.heap.size → ¬ X g) : Told N w' D r l L d :=
  ⟨h.dec.keep k hD (fun g hg => hx g (h.newR g hg) (h.dec.own.lt g hg)), h.own.keep k (fun g hg => hx g (h.newL g hg) (h.own.lt g hg)), h.newL, h.newR, h.apart⟩

/-- One more that is told. -/
theorem Told.more {N : Nat} {w w' : World} {D : Nat} {r l : Value} {L : List Fr} {d : DSt} {x : List Fr × DSt} {e : Ending} (h : Told N w D r l L d) (hN : N ≤ w.heap.size) (hD : D < N) (hp : FeedPost w D r x e w') :
    ∃ v' r', e = .returned v' ∧ Own w' 4 v' x.1.length (fcells x.1) ∧ Own w' 4 l L.length (fcells L) ∧ w.heap.size ≤ w'.heap.size ∧
      ∀ l'' w'', Own w'' 4 l'' (L.length + x.1.length) (fcells L ++ fcells x.1) → Keep (fun k => l.ownBlock = some k) w' w'' → (l''.ownBlock = l.ownBlock ∨ ∃ g, l''.ownBlock = some g ∧ w'.heap.size ≤ g) →
        Told N w'' D r' l'' (L ++ x.1) x.2 ∧ Keep (fun k => k = D ∨ N ≤ k) w w'' := by
  obtain ⟨v', r', rfl, ho, hd, hk, hv, hr, hvr⟩ := hp
  have hl' : Own w' 4 l L.length (fcells L) := h.own.keep hk (fun g hg hx => by
    rcases hx with rfl | hx
    · have := h.newL _ hg; omega
    · exact h.apart g hg hx)
  have hr'N : ∀ g, r'.ownBlock = some g → N ≤ g := fun g hg => by
    rcases hr with rfl | hr
    · exact h.newR g hg
    · have := hr g hg; omega
  have hr'l : ∀ g, l.ownBlock = some g → r'.ownBlock ≠ some g := fun g hg hx => by
    rcases hr with rfl | hr
    · exact h.apart g hg hx
    · have := hr g hx; have := h.own.lt g hg; omega
  refine ⟨v', r', rfl, ho, hl', hk.size, fun l'' w'' hown hk2 hb => ⟨⟨?_, ?_, ?_, hr'N, ?_⟩, ?_⟩⟩
  · exact hd.keep hk2 (fun hx => by have := h.newL _ hx; omega) (fun g hg hx => hr'l g hx hg)
  · rw [List.length_append, fcells_append]; exact hown
  · intro g hg
    rcases hb with hb | ⟨g', hb, hle⟩
    · exact h.newL g (by rw [← hb]; exact hg)
    · rw [hb] at hg; cases hg; have := hk.size; omega
  · intro g hg hx
    rcases hb with hb | ⟨g', hb, hle⟩
    · exact hr'l g (by rw [← hb]; exact hg) hx
    · rw [hb] at hg; cases hg
      have := hd.own.lt g hx
      omega
  · refine hk.trans hk2 (fun k _ hx => ?_) (fun k _ hx => .inr (h.newL k hx))
    rcases hx with rfl | hx
    · exact .inl rfl
    · exact .inr (h.newR k hx)
end Go.Proofs.YtmblghdiejneoaaGreat

/- How a decoder can stand: what Resume asks. -/
namespace Go.Proofs.YtmblghdiejneoaaGreat
set_option maxRecDepth 100000
open Go.RowKit

def aheadOf (pos ba bs : Nat) : Nat := if bs = 0 then pos else ba
structure ROk (d : DSt) : Prop where
  len : d.rest.length ≤ d.fed
  most : d.fed ≤ 4611686018427387903
  zero : d.bs = 0 → d.ba = 0
  bad : 0 < d.bs → d.ba + d.bs = d.fed - d.rest.length
  ahead : d.closed = false → aheadOf (d.fed - d.rest.length) d.ba d.bs = 0 ∨ 8 ≤ aheadOf (d.fed - d.rest.length) d.ba d.bs
  opened : d.closed = false → d.rest = [] ∨ (wholeF d.rest).2 = true
  shut : d.closed = true → d.rest = [] ∧ d.bs = 0

theorem scan_ok : ∀ (f pos : Nat) (l : List UInt8) (ba bs : Nat), l.length ≤ f → (bs = 0 → ba = 0) → (0 < bs → ba + bs = pos) → (aheadOf pos ba bs = 0 ∨ 8 ≤ aheadOf pos ba bs) →
    ∃ k, k ≤ l.length ∧ (scan false f pos l ba bs).2.1 = l.drop k ∧ ((l.drop k) = [] ∨ (wholeF (l.drop k)).2 = true) ∧
      ((scan false f pos l ba bs).2.2.2 = 0 → (scan false f pos l ba bs).2.2.1 = 0) ∧ (0 < (scan false f pos l ba bs).2.2.2 → (scan false f pos l ba bs).2.2.1 + (scan false f pos l ba bs).2.2.2 = pos + k) ∧
      (aheadOf (pos + k) (scan false f pos l ba bs).2.2.1 (scan false f pos l ba bs).2.2.2 = 0 ∨ 8 ≤ aheadOf (pos + k) (scan false f pos l ba bs).2.2.1 (scan false f pos l ba bs).2.2.2) := by
  intro f
  induction f with
  | zero =>
    intro pos l ba bs hf h1 h2 h3
    have hl : l = [] := List.eq_nil_of_length_eq_zero (by omega)
    subst hl
    rw [scan_nil]
    exact ⟨0, Nat.le_refl _, rfl, .inl rfl, h1, by simpa using h2, by simpa using h3⟩
  | succ f ih =>
    intro pos l ba bs hf h1 h2 h3
    by_cases h0 : l = []
    · subst h0
      rw [scan_nil]
      exact ⟨0, Nat.le_refl _, rfl, .inl rfl, h1, by simpa using h2, by simpa using h3⟩
    have hpos : 0 < l.length := List.length_pos_iff.2 h0
    cases hop : (wholeF l).2 with
    | true =>
      rw [scan_stop h0 ⟨hop, rfl⟩]
      exact ⟨0, Nat.zero_le _, rfl, .inr hop, h1, by simpa using h2, by simpa using h3⟩
    | false =>
      by_cases hz : (wholeF l).1 = 0
      · rw [scan_bad h0 (by rw [hop]; simp) hz]
        obtain ⟨k, hk, he, ho, g1, g2, g3⟩ := ih (pos + 1) (l.drop 1) (if bs = 0 then pos else ba) (bs + 1) (by rw [List.length_drop]; omega) (by omega) (by
          intro _
          by_cases h : bs = 0
          · rw [if_pos h, h]
          · rw [if_neg h]; have := h2 (by omega); omega) (by
          unfold aheadOf at h3 ⊢
          rw [if_neg (by omega)]
          exact h3)
        rw [List.length_drop] at hk
        rw [List.drop_drop] at he ho
        refine ⟨1 + k, by omega, he, ho, g1, fun h => by have := g2 h; omega, ?_⟩
        rw [← Nat.add_assoc]
        exact g3
      · obtain ⟨hs, hle, hlo, _, htk, hd⟩ := wholeF_good hz
        rw [scan_good hz]
        obtain ⟨k, hk, he, ho, g1, g2, g3⟩ := ih (pos + (wholeF l).1) (l.drop (wholeF l).1) 0 0 (by rw [List.length_drop]; omega) (fun _ => rfl) (fun h => by omega) (by
          unfold aheadOf
          rw [if_pos rfl]
          omega)
        rw [List.length_drop] at hk
        rw [List.drop_drop] at he ho
        refine ⟨(wholeF l).1 + k, by omega, he, ho, g1, fun h => (g2 h).trans (by omega), ?_⟩
        rw [← Nat.add_assoc]
        exact g3

theorem ROk.dok {d : DSt} (h : ROk d) : DOk d := ⟨h.len, h.most, h.zero, by
  by_cases hb : d.bs = 0
  · omega
  · have := h.bad (by omega); omega⟩
theorem d0_rok : ROk d0 := ⟨Nat.le_refl _, by decide, fun _ => rfl, fun h => by simp [d0] at h, fun _ => .inl rfl, fun _ => .inl rfl, fun h => by simp [d0] at h⟩
theorem feedF_rok {d : DSt} (h : ROk d) (b : List UInt8) (hc : d.closed = false) (hb : d.fed + b.length ≤ 4611686018427387903) : ROk (feedF d b).2 := by
  have n1 : ¬ (d.closed = true ∨ 4611686018427387903 < d.fed + b.length) := by rw [hc]; simp; omega
  rw [feedF_scan d b n1]
  obtain ⟨k, hk, he, ho, g1, g2, g3⟩ := scan_ok (d.rest ++ b).length (d.fed - d.rest.length) (d.rest ++ b) d.ba d.bs (Nat.le_refl _) h.zero h.bad (h.ahead hc)
  generalize scan false (d.rest ++ b).length (d.fed - d.rest.length) (d.rest ++ b) d.ba d.bs = x at *
  have hl := h.len
  have hxl : x.2.1.length = d.rest.length + b.length - k := by rw [he, List.length_drop, List.length_append]
  rw [List.length_append] at hk
  have hp : d.fed - d.rest.length + k = d.fed + b.length - x.2.1.length := by omega
  rw [hp] at g2 g3
  rw [← he] at ho
  exact ⟨by simp only; omega, hb, g1, g2, fun _ => g3, fun _ => ho, fun h => by simp at h⟩
theorem closed_rok (n : Nat) (h : n ≤ 4611686018427387903) : ROk ⟨true, n, 0, 0, []⟩ := ⟨Nat.zero_le _, h, fun _ => rfl, fun h => by simp at h, fun h => by simp at h, fun h => by simp at h, fun _ => ⟨rfl, rfl⟩⟩
end Go.Proofs.YtmblghdiejneoaaGreat
