/- Two decoders side by side. -/
import Derived.Test.YtmblghdiejneoaaGreatQResume2
namespace Go.Proofs.YtmblghdiejneoaaGreat
set_option maxRecDepth 100000
open Go.RowKit

theorem resume_any (w : World) (d : DSt) (h : ROk d) (hl : d.rest.length ≤ 100000000000) :
    Calls Tryz.prog 106 #[.int .i64 d.fed, .agg #[.int .i64 d.ba, .int .i64 d.bs], .string ⟨d.rest.toArray⟩, .bool d.closed] w (ResumePost w d) := by
  obtain ⟨closed, fed, ba, bs, rest⟩ := d
  cases closed with
  | true =>
    obtain ⟨h1, h2⟩ := h.shut rfl
    have h3 := h.zero h2
    simp only at h1 h2 h3
    subst h1 h2 h3
    exact resume_closed w fed h.most
  | false =>
    have hah := h.ahead rfl
    have hop := h.opened rfl
    have hln := h.len
    have hmo := h.most
    simp only [aheadOf] at hah hop hln hmo hl
    by_cases hb : bs = 0
    · have h3 := h.zero hb
      simp only at h3
      subst hb h3
      rw [if_pos rfl] at hah
      have e : fed - rest.length + rest.length = fed := by omega
      have := resume_open0 w (fed - rest.length) rest hl (by omega) hah hop
      rw [e] at this
      exact this
    · have h3 := h.bad (by simp only; omega)
      simp only at h3
      rw [if_neg hb] at hah
      have e : ba + bs + rest.length = fed := by omega
      have := resume_open1 w ba bs (by omega) rest hl (by omega) hah hop
      rw [e] at this
      exact this

structure Live (B N : Nat) (w : World) (D : Nat) (r : Value) (d : DSt) : Prop where
  dec : DecAt w D r d
  at_ : D = B ∨ N ≤ D
  new : ∀ g, r.ownBlock = some g → N ≤ g

theorem Live.keep {X : Nat → Prop} {B N : Nat} {w w' : World} {D : Nat} {r : Value} {d : DSt} (h : Live B N w D r d) (k : Keep X w w') (h1 : ¬ X D) (h2 : ∀ g, r.ownBlock = some g → ¬ X g) : Live B N w' D r d :=
  ⟨h.dec.keep k h1 h2, h.at_, h.new⟩

structure Pair (B N : Nat) (w : World) (D : Nat) (r : Value) (C : Nat) (q : Value) (d e : DSt) : Prop where
  a : Live B N w D r d
  b : Live B N w C q e
  ne : D ≠ C
  n1 : q.ownBlock ≠ some D
  n2 : r.ownBlock ≠ some C
  n3 : ∀ g, r.ownBlock = some g → q.ownBlock ≠ some g

theorem Pair.swap {B N : Nat} {w : World} {D : Nat} {r : Value} {C : Nat} {q : Value} {d e : DSt} (h : Pair B N w D r C q d e) : Pair B N w C q D r e d :=
  ⟨h.b, h.a, fun x => h.ne x.symm, h.n2, h.n1, fun g hg hx => h.n3 g hx hg⟩
theorem Pair.below {B N : Nat} {w w' : World} {D : Nat} {r : Value} {C : Nat} {q : Value} {d e : DSt} (h : Pair B N w D r C q d e) (k : Below w.heap.size w w') : Pair B N w' D r C q d e :=
  ⟨h.a.keep (Keep.of_below k (Nat.le_refl _) (fun _ => False)) id (fun _ _ => id), h.b.keep (Keep.of_below k (Nat.le_refl _) (fun _ => False)) id (fun _ _ => id), h.ne, h.n1, h.n2, h.n3⟩

/-- A new one beside an old one. -/
theorem Live.pair {B N : Nat} {w w' : World} {D : Nat} {r : Value} {d e : DSt} {C : Nat} {q : Value} (h : Live B N w D r d) (hN : N ≤ w.heap.size) (hk : Below w.heap.size w w') (hd : DecAt w' C q e) (hC : w.heap.size ≤ C) (hq : ∀ g, q.ownBlock = some g → w.heap.size ≤ g) :
    Pair B N w' D r C q d e := by
  have hD := h.dec.lt
  refine ⟨h.keep (Keep.of_below hk (Nat.le_refl _) (fun _ => False)) id (fun _ _ => id), ⟨hd, .inr (by omega), fun g hg => by have := hq g hg; omega⟩, by omega, fun hx => ?_, fun hx => ?_, fun g hg hx => ?_⟩
  · have := hq D hx; omega
  · have := h.dec.own.lt C hx; omega
  · have := hq g hx; have := h.dec.own.lt g hg; omega

theorem Pair.feed {B N : Nat} {w w' : World} {D : Nat} {r : Value} {C : Nat} {q : Value} {d e : DSt} {y : List Fr × DSt} {en : Ending} (h : Pair B N w D r C q d e) (hN : N ≤ w.heap.size) (hp : FeedPost w D r y en w') :
    ∃ v' r', en = .returned v' ∧ Own w' 4 v' y.1.length (fcells y.1) ∧ Pair B N w' D r' C q y.2 e ∧ Keep (fun k => k = B ∨ N ≤ k) w w' ∧ Keep (fun k => k = D ∨ r.ownBlock = some k) w w' ∧
      (∀ g, v'.ownBlock = some g → w.heap.size ≤ g) := by
  obtain ⟨v', r', rfl, ho, hd, hk, hv, hr, hvr⟩ := hp
  have hat := h.a.at_
  have hC := h.b.dec.lt
  refine ⟨v', r', rfl, ho, ⟨⟨hd, hat, fun g hg => ?_⟩, h.b.keep hk (fun hx => ?_) (fun g hg hx => ?_), h.ne, h.n1, fun hx => ?_, fun g hg hx => ?_⟩, hk.mono (fun k _ hx => ?_), hk, hv⟩
  · rcases hr with rfl | hr
    · exact h.a.new g hg
    · have := hr g hg; omega
  · rcases hx with rfl | hx
    · exact h.ne rfl
    · exact h.n2 hx
  · rcases hx with rfl | hx
    · exact h.n1 hg
    · exact h.n3 g hx hg
  · rcases hr with rfl | hr
    · exact h.n2 hx
    · have := hr C hx; omega
  · rcases hr with rfl | hr
    · exact h.n3 g hg hx
    · have := hr g hg; have := h.b.dec.own.lt g hx; omega
  · rcases hx with rfl | hx
    · exact hat
    · exact .inr (h.a.new k hx)
end Go.Proofs.YtmblghdiejneoaaGreat
