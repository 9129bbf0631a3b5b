/- Streams in pieces: the plain law; a list that grows by what is told. -/
import Derived.Test.YtmblghdiejneoaaPieces
import Derived.Test.YtmblghdiejneoaaPure3
namespace Go.Proofs.Ytmblghdiejneoaa
open Go.RowKit

theorem feedF_append (d : DSt) (a b : List UInt8) (hc : d.closed = false) (hr : d.rest.length ≤ d.fed) (h : d.fed + a.length + b.length ≤ 4611686018427387903) :
    feedF d (a ++ b) = ((feedF d a).1 ++ (feedF (feedF d a).2 b).1, (feedF (feedF d a).2 b).2) := by
  have n1 : ¬ (d.closed = true ∨ 4611686018427387903 < d.fed + (a ++ b).length) := by rw [hc, List.length_append]; simp; omega
  have n2 : ¬ (d.closed = true ∨ 4611686018427387903 < d.fed + a.length) := by rw [hc]; simp; omega
  rw [feedF_scan d _ n1, feedF_scan d a n2]
  obtain ⟨k, hk, he⟩ := scan_left false (d.rest ++ a).length (d.fed - d.rest.length) (d.rest ++ a) d.ba d.bs
  have ht := scan_then false (d.rest ++ (a ++ b)).length (d.fed - d.rest.length) (d.rest ++ a) b d.ba d.bs (by simp)
  rw [List.append_assoc] at ht
  rw [scan_fuel false (d.rest ++ (a ++ b)).length (d.rest ++ (a ++ b)).length (d.rest ++ a).length (d.fed - d.rest.length) (d.rest ++ a) _ _ (by simp) (by simp) (Nat.le_refl _)] at ht
  generalize hx : scan false (d.rest ++ a).length (d.fed - d.rest.length) (d.rest ++ a) d.ba d.bs = x at *
  have hxl : x.2.1.length = d.rest.length + a.length - k := by rw [he, List.length_drop, List.length_append]
  rw [List.length_append] at hk
  have n3 : ¬ ((⟨false, d.fed + a.length, x.2.2.1, x.2.2.2, x.2.1⟩ : DSt).closed = true ∨ 4611686018427387903 < (⟨false, d.fed + a.length, x.2.2.1, x.2.2.2, x.2.1⟩ : DSt).fed + b.length) := by simp; omega
  rw [feedF_scan _ b n3]
  have hp : d.fed - d.rest.length + ((d.rest ++ a).length - x.2.1.length) = d.fed + a.length - x.2.1.length := by rw [List.length_append]; omega
  rw [hp] at ht
  rw [scan_fuel false (d.rest ++ (a ++ b)).length (d.rest ++ (a ++ b)).length (x.2.1 ++ b).length _ (x.2.1 ++ b) _ _ (by simp; omega) (by simp; omega) (Nat.le_refl _)] at ht
  rw [ht]
  simp [Nat.add_assoc]

theorem feedF_st (d : DSt) (b : List UInt8) (hc : d.closed = false) (h : d.fed + b.length ≤ 4611686018427387903) : (feedF d b).2.closed = false ∧ (feedF d b).2.fed = d.fed + b.length := by
  have n1 : ¬ (d.closed = true ∨ 4611686018427387903 < d.fed + b.length) := by rw [hc]; simp; omega
  rw [feedF_scan d b n1]
  exact ⟨rfl, rfl⟩
theorem feedF_nil0 : feedF d0 [] = ([], d0) := by rw [feedF_scan d0 [] (by simp [d0])]; rfl
theorem closeF_st (d : DSt) (hc : d.closed = false) : (closeF d).2 = ⟨true, d.fed, 0, 0, []⟩ := by rw [closeF_scan d (by simp [hc])]

/-- Bytes lie in no decoder. -/
theorem DecAt.no_rd {w : World} {D : Nat} {r : Value} {d : DSt} {ao : Option Addr} {l : List UInt8} (h : DecAt w D r d) (hr : Rd w ao l) (hl : l ≠ []) : ∀ b' o', ao = some ⟨b', o', none⟩ → ¬ b' = D := by
  intro b' o' ha hb
  subst hb
  subst ha
  rcases hr with h0 | ⟨b2, o2, e, hc⟩
  · exact hl h0
  · cases e
    have hpos : 0 < l.length := List.length_pos_iff.2 hl
    have h1 := hc 0 hpos
    simp only [Nat.add_zero, World.cell?, h.block] at h1
    have hr : ∃ a n c, r = .slice a n c := by
      rcases h.own.2 with ⟨h, _⟩ | ⟨g, cap, h, _⟩
      · exact ⟨_, _, _, h⟩
      · exact ⟨_, _, _, h⟩
    obtain ⟨a, n, c, rfl⟩ := hr
    match o', h1 with
    | 0, h1 => simp at h1
    | 1, h1 => simp at h1
    | 2, h1 => simp at h1
    | 3, h1 => simp at h1
    | 4, h1 => simp at h1
    | 5, h1 => simp at h1
    | o + 6, h1 => simp at h1

/-- A decoder, and a list of what was told. -/
structure Told (N : Nat) (w : World) (D : Nat) (r l : Value) (L : List Fr) (d : DSt) : Prop where
  dec : DecAt w D r d
  own : Own w 4 l L.length (fcells L)
  newL : ∀ g, l.ownBlock = some g → N ≤ g
  newR : ∀ g, r.ownBlock = some g → N ≤ g
  apart : ∀ g, l.ownBlock = some g → r.ownBlock ≠ some g

theorem Told.keep {X : Nat → Prop} {N : Nat} {w w' : World} {D : Nat} {r l : Value} {L : List Fr} {d : DSt} (h : Told N w D r l L d) (k : Keep X w w') (hD : ¬ X D) (hx : ∀ g, N ≤ g → g < w.heap.size → ¬ X g) : Told N w' D r l L d :=
  ⟨h.dec.keep k hD (fun g hg => hx g (h.newR g hg) (h.dec.own.lt g hg)), h.own.keep k (fun g hg => hx g (h.newL g hg) (h.own.lt g hg)), h.newL, h.newR, h.apart⟩

/-- One more that is told. -/
theorem Told.more {N : Nat} {w w' : World} {D : Nat} {r l : Value} {L : List Fr} {d : DSt} {x : List Fr × DSt} {e : Ending} (h : Told N w D r l L d) (hN : N ≤ w.heap.size) (hD : D < N) (hp : FeedPost w D r x e w') :
    ∃ v' r', e = .returned v' ∧ Own w' 4 v' x.1.length (fcells x.1) ∧ Own w' 4 l L.length (fcells L) ∧ w.heap.size ≤ w'.heap.size ∧
      ∀ l'' w'', Own w'' 4 l'' (L.length + x.1.length) (fcells L ++ fcells x.1) → Keep (fun k => l.ownBlock = some k) w' w'' → (l''.ownBlock = l.ownBlock ∨ ∃ g, l''.ownBlock = some g ∧ w'.heap.size ≤ g) →
        Told N w'' D r' l'' (L ++ x.1) x.2 ∧ Keep (fun k => k = D ∨ N ≤ k) w w'' := by
  obtain ⟨v', r', rfl, ho, hd, hk, hv, hr, hvr⟩ := hp
  have hl' : Own w' 4 l L.length (fcells L) := h.own.keep hk (fun g hg hx => by
    rcases hx with rfl | hx
    · have := h.newL _ hg; omega
    · exact h.apart g hg hx)
  have hr'N : ∀ g, r'.ownBlock = some g → N ≤ g := fun g hg => by
    rcases hr with rfl | hr
    · exact h.newR g hg
    · have := hr g hg; omega
  have hr'l : ∀ g, l.ownBlock = some g → r'.ownBlock ≠ some g := fun g hg hx => by
    rcases hr with rfl | hr
    · exact h.apart g hg hx
    · have := hr g hx; have := h.own.lt g hg; omega
  refine ⟨v', r', rfl, ho, hl', hk.size, fun l'' w'' hown hk2 hb => ⟨⟨?_, ?_, ?_, hr'N, ?_⟩, ?_⟩⟩
  · exact hd.keep hk2 (fun hx => by have := h.newL _ hx; omega) (fun g hg hx => hr'l g hx hg)
  · rw [List.length_append, fcells_append]; exact hown
  · intro g hg
    rcases hb with hb | ⟨g', hb, hle⟩
    · exact h.newL g (by rw [← hb]; exact hg)
    · rw [hb] at hg; cases hg; have := hk.size; omega
  · intro g hg hx
    rcases hb with hb | ⟨g', hb, hle⟩
    · exact hr'l g (by rw [← hb]; exact hg) hx
    · rw [hb] at hg; cases hg
      have := hd.own.lt g hx
      omega
  · refine hk.trans hk2 (fun k _ hx => ?_) (fun k _ hx => .inr (h.newL k hx))
    rcases hx with rfl | hx
    · exact .inl rfl
    · exact .inr (h.newR k hx)
end Go.Proofs.Ytmblghdiejneoaa
