/- Two decoders, the reference's two, and a Book, side by side: what each call turns, and what it leaves. -/
import Derived.Test.YtmblghdiejneoaaGreatQIdx
import Derived.Test.YtmblghdiejneoaaGreatQRFeed
import Derived.Test.YtmblghdiejneoaaGreatQROk
namespace Go.Proofs.YtmblghdiejneoaaGreat
set_option maxRecDepth 100000
open Go.RowKit

/-- Sets of blocks from N on, apart from each other. -/
structure Fam (N : Nat) (w : World) (P : Nat → Nat → Prop) : Prop where
  bd : ∀ i g, P i g → N ≤ g ∧ g < w.heap.size
  dj : ∀ i j g, P i g → P j g → i = j

theorem Fam.step {N : Nat} {w w' : World} {P P' : Nat → Nat → Prop} (h : Fam N w P) (hN : N ≤ w.heap.size) (hs : w.heap.size ≤ w'.heap.size) (h1 : ∀ j g, P' j g → P j g ∨ (w.heap.size ≤ g ∧ g < w'.heap.size))
    (h2 : ∀ i j g, w.heap.size ≤ g → P' i g → P' j g → i = j) : Fam N w' P' := by
  refine ⟨fun i g hg => ?_, fun i j g hi hj => ?_⟩
  · rcases h1 i g hg with h3 | h3
    · have := h.bd i g h3; omega
    · omega
  · rcases h1 i g hi with h3 | h3
    · rcases h1 j g hj with h4 | h4
      · exact h.dj i j g h3 h4
      · have := h.bd i g h3; omega
    · exact h2 i j g h3.1 hi hj
theorem Fam.grow {N : Nat} {w w' : World} {P : Nat → Nat → Prop} (h : Fam N w P) (hs : w.heap.size ≤ w'.heap.size) : Fam N w' P :=
  ⟨fun i g hg => by have := h.bd i g hg; omega, h.dj⟩
theorem Fam.off {N : Nat} {w : World} {P : Nat → Nat → Prop} (h : Fam N w P) {i j : Nat} (hij : ¬ i = j) : ∀ g, P i g → ¬ P j g := fun g h1 h2 => hij (h.dj i j g h1 h2)

/-- A decoder at D that makes use of the blocks of P. -/
def Dec (w : World) (D : Nat) (P : Nat → Prop) (d : DSt) : Prop := ∃ r, DecAt w D r d ∧ P D ∧ (∀ g, r.ownBlock = some g → P g) ∧ ∀ g, P g → g = D ∨ r.ownBlock = some g
theorem Dec.keep {X P : Nat → Prop} {w w' : World} {D : Nat} {d : DSt} (h : Dec w D P d) (k : Keep X w w') (hx : ∀ g, P g → ¬ X g) : Dec w' D P d := by
  obtain ⟨r, h1, h2, h3, h4⟩ := h
  exact ⟨r, h1.keep k (hx D h2) (fun g hg => hx g (h3 g hg)), h2, h3, h4⟩
def RDec (w : World) (R : Nat) (P : Nat → Prop) (d : DSt) : Prop := RDecAt w R d ∧ P R ∧ ∀ g, P g → g = R
theorem RDec.keep {X P : Nat → Prop} {w w' : World} {R : Nat} {d : DSt} (h : RDec w R P d) (k : Keep X w w') (hx : ∀ g, P g → ¬ X g) : RDec w' R P d :=
  ⟨k.old h.1 (hx R h.2.1), h.2.1, h.2.2⟩

structure Play (N : Nat) (w : World) (D R C T K : Nat) (P : Nat → Nat → Prop) (ds rs es ts : DSt) (c : Nat) (L : List (Nat × Obj)) : Prop where
  low : N ≤ w.heap.size
  fam : Fam N w P
  d : Dec w D (P 0) ds
  r : RDec w R (P 1) rs
  e : Dec w C (P 2) es
  t : RDec w T (P 3) ts
  k : Bk w K (P 4) c
  ex : ∀ x ∈ L, w.heap[x.1]? = some x.2 ∧ P 7 x.1

section
variable {N : Nat} {w w' : World} {D R C T K : Nat} {P P' : Nat → Nat → Prop} {ds rs es ts : DSt} {c : Nat} {L : List (Nat × Obj)}

theorem Play.below (h : Play N w D R C T K P ds rs es ts c L) (k : Below w.heap.size w w') : Play N w' D R C T K P ds rs es ts c L := by
  have hk := Keep.of_below k (Nat.le_refl _) (fun _ => False)
  exact ⟨Nat.le_trans h.low k.size, h.fam.grow k.size, h.d.keep hk (fun _ _ => id), h.r.keep hk (fun _ _ => id), h.e.keep hk (fun _ _ => id), h.t.keep hk (fun _ _ => id), h.k.keep hk (fun _ _ => id), fun x hx => ⟨hk.old (h.ex x hx).1 id, (h.ex x hx).2⟩⟩
theorem Play.sub {L' : List (Nat × Obj)} (h : Play N w D R C T K P ds rs es ts c L) (hl : ∀ x ∈ L', x ∈ L) : Play N w D R C T K P ds rs es ts c L' := { h with ex := fun x hx => h.ex x (hl x hx) }
/-- A block that is laid, and kept. -/
theorem Play.hold (h : Play N w D R C T K P ds rs es ts c L) (k : Below w.heap.size w w') (H : Nat) (o : Obj) (h1 : w.heap.size ≤ H) (ho : w'.heap[H]? = some o) :
    ∃ P', Play N w' D R C T K P' ds rs es ts c ((H, o) :: L) := by
  have hk := Keep.of_below k (Nat.le_refl _) (fun _ => False)
  have hlt := lt_of_block ho
  refine ⟨upd P 7 (fun g => P 7 g ∨ g = H), Nat.le_trans h.low k.size, h.fam.step h.low k.size (fun j g hg => ?_) (fun i j g hg hi hj => ?_), h.d.keep hk (fun _ _ => id), h.r.keep hk (fun _ _ => id), h.e.keep hk (fun _ _ => id), h.t.keep hk (fun _ _ => id), h.k.keep hk (fun _ _ => id), fun x hx => ?_⟩
  · by_cases hj : j = 7
    · subst hj
      rw [upd_same] at hg
      rcases hg with hg | hg
      · exact .inl hg
      · subst hg; exact .inr ⟨h1, hlt⟩
    · rw [upd_other _ _ _ hj] at hg; exact .inl hg
  · have key : ∀ i, upd P 7 (fun g => P 7 g ∨ g = H) i g → i = 7 := by
      intro i hi
      by_cases h7 : i = 7
      · exact h7
      · rw [upd_other _ _ _ h7] at hi
        have := h.fam.bd i g hi; omega
    rw [key i hi, key j hj]
  · rw [upd_same]
    rcases List.mem_cons.1 hx with hx | hx
    · subst hx; exact ⟨ho, .inr rfl⟩
    · exact ⟨hk.old (h.ex x hx).1 id, .inl (h.ex x hx).2⟩
/-- A kept block is written. -/
theorem Play.write (h : Play N w D R C T K P ds rs es ts c L) (g : Nat) (hg : P 7 g) (k : Keep (fun x => x = g) w w') {L' : List (Nat × Obj)} (hl : ∀ x ∈ L', x ∈ L ∧ ¬ x.1 = g) : Play N w' D R C T K P ds rs es ts c L' := by
  have off : ∀ i, ¬ i = 7 → ∀ x, P i x → ¬ x = g := fun i hi x hx e => h.fam.off hi x hx (by rw [e]; exact hg)
  exact ⟨Nat.le_trans h.low k.size, h.fam.grow k.size, h.d.keep k (off 0 (by decide)), h.r.keep k (off 1 (by decide)), h.e.keep k (off 2 (by decide)), h.t.keep k (off 3 (by decide)), h.k.keep k (off 4 (by decide)),
    fun x hx => ⟨k.old (h.ex x (hl x hx).1).1 (hl x hx).2, (h.ex x (hl x hx).1).2⟩⟩

/-- What is laid while one of them goes on: the sets behind it. -/
theorem Fam.on {i : Nat} {Q V : Nat → Prop} (h : Fam N w P) (hN : N ≤ w.heap.size) (hs : w.heap.size ≤ w'.heap.size) (hi : ¬ i = 5) (hq : ∀ g, Q g → P i g ∨ (w.heap.size ≤ g ∧ g < w'.heap.size)) (hv : ∀ g, V g → w.heap.size ≤ g ∧ g < w'.heap.size) (hqv : ∀ g, Q g → ¬ V g) :
    Fam N w' (upd (upd P i Q) 5 V) := by
  refine h.step hN hs (fun j g hg => ?_) (fun a b g hg ha hb => ?_)
  · by_cases h5 : j = 5
    · subst h5; rw [upd_same] at hg; exact .inr (hv g hg)
    · rw [upd_other _ _ _ h5] at hg
      by_cases h6 : j = i
      · subst h6; rw [upd_same] at hg; exact hq g hg
      · rw [upd_other _ _ _ h6] at hg; exact .inl hg
  · have key : ∀ a, upd (upd P i Q) 5 V a g → (a = 5 ∧ V g) ∨ (a = i ∧ Q g) := by
      intro a ha
      by_cases h5 : a = 5
      · subst h5; rw [upd_same] at ha; exact .inl ⟨rfl, ha⟩
      · rw [upd_other _ _ _ h5] at ha
        by_cases h6 : a = i
        · subst h6; rw [upd_same] at ha; exact .inr ⟨rfl, ha⟩
        · rw [upd_other _ _ _ h6] at ha
          have := h.bd a g ha; omega
    rcases key a ha with ⟨e1, q1⟩ | ⟨e1, q1⟩ <;> rcases key b hb with ⟨e2, q2⟩ | ⟨e2, q2⟩
    · rw [e1, e2]
    · exact absurd q1 (hqv g q2)
    · exact absurd q2 (hqv g q1)
    · rw [e1, e2]

/-- A decoder that went on. -/
theorem Dec.next {D : Nat} {Pi : Nat → Prop} {d d' : DSt} {b : List Fr} {e : Ending} {r : Value} (h1 : DecAt w D r d) (h2 : Pi D) (h3 : ∀ g, r.ownBlock = some g → Pi g) (_h4 : ∀ g, Pi g → g = D ∨ r.ownBlock = some g) (hp : FeedPost w D r (b, d') e w') :
    ∃ v Q, e = .returned v ∧ Own w' 4 v b.length (fcells b) ∧ Dec w' D Q d' ∧ Keep Pi w w' ∧ (∀ g, v.ownBlock = some g → w.heap.size ≤ g ∧ g < w'.heap.size) ∧ (∀ g, Q g → Pi g ∨ (w.heap.size ≤ g ∧ g < w'.heap.size)) ∧ (∀ g, Q g → ¬ v.ownBlock = some g) := by
  obtain ⟨v, r', rfl, ho, hd, hk, hv, hr, hvr⟩ := hp
  have hDlt := h1.lt
  refine ⟨v, fun g => g = D ∨ r'.ownBlock = some g, rfl, ho, ⟨r', hd, .inl rfl, fun g hg => .inr hg, fun g hg => hg⟩, hk.mono (fun k _ hx => hx.elim (fun h => h ▸ h2) (fun h => h3 k h)), fun g hg => ⟨hv g hg, ho.lt g hg⟩, fun g hg => ?_, fun g hg hgv => ?_⟩
  · rcases hg with hg | hg
    · exact .inl (hg ▸ h2)
    · rcases hr with hr | hr
      · exact .inl (h3 g (hr ▸ hg))
      · exact .inr ⟨hr g hg, hd.own.lt g hg⟩
  · rcases hg with hg | hg
    · have := hv g hgv; omega
    · exact hvr g hgv hg

/-- What is known behind a call that told the frames l. -/
def Told5 (w w' : World) (P P' : Nat → Nat → Prop) (i : Nat) (l : List Fr) (e : Ending) : Prop :=
  ∃ v, e = .returned v ∧ Own w' 4 v l.length (fcells l) ∧ (∀ g, v.ownBlock = some g → P' 5 g) ∧ Keep (P i) w w' ∧ ∀ j, ¬ j = i → ¬ j = 5 → P' j = P j

theorem play_feedD {ao : Option Addr} {k cc : Nat} {b : List UInt8} (h : Play N w D R C T K P ds rs es ts c L) (hok : DOk ds) (hbk : b.length = k) (hrb : Rd w ao b) (hk : ds.rest.length + k ≤ 100000000000) :
    Calls Tryz.prog 18 #[.pointer (some ⟨D, 0, none⟩), .slice ao k cc] w fun e w' => ∃ P', Told5 w w' P P' 0 (feedF ds b).1 e ∧ Play N w' D R C T K P' (feedF ds b).2 rs es ts c L := by
  obtain ⟨r, h1, h2, h3, h4⟩ := h.d
  refine (feed_any w D r ds ao k cc b h1 hok hbk hrb (fun hb => h1.no_rd hrb hb) hk).mono ?_
  intro e w' hp
  obtain ⟨v, Q, rfl, ho, hd, hkp, hv, hq, hqv⟩ := Dec.next h1 h2 h3 h4 hp
  refine ⟨upd (upd P 0 Q) 5 (fun g => v.ownBlock = some g), ⟨v, rfl, ho, fun g hg => by rw [upd_same]; exact hg, hkp, fun j hj h5 => by rw [upd_other _ _ _ h5, upd_other _ _ _ hj]⟩, Nat.le_trans h.low hkp.size, h.fam.on h.low hkp.size (by decide) hq hv hqv, hd, h.r.keep hkp (h.fam.off (i := 1) (by decide)), h.e.keep hkp (h.fam.off (i := 2) (by decide)), h.t.keep hkp (h.fam.off (i := 3) (by decide)), h.k.keep hkp (h.fam.off (i := 4) (by decide)), fun x hx => ⟨hkp.old (h.ex x hx).1 (h.fam.off (i := 7) (by decide) _ (h.ex x hx).2), (h.ex x hx).2⟩⟩
theorem play_closeD (h : Play N w D R C T K P ds rs es ts c L) (hok : DOk ds) (hk : ds.rest.length ≤ 100000000000) :
    Calls Tryz.prog 20 #[.pointer (some ⟨D, 0, none⟩)] w fun e w' => ∃ P', Told5 w w' P P' 0 (closeF ds).1 e ∧ Play N w' D R C T K P' (closeF ds).2 rs es ts c L := by
  obtain ⟨r, h1, h2, h3, h4⟩ := h.d
  refine (close_any w D r ds h1 hok hk).mono ?_
  intro e w' hp
  obtain ⟨v, Q, rfl, ho, hd, hkp, hv, hq, hqv⟩ := Dec.next h1 h2 h3 h4 hp
  refine ⟨upd (upd P 0 Q) 5 (fun g => v.ownBlock = some g), ⟨v, rfl, ho, fun g hg => by rw [upd_same]; exact hg, hkp, fun j hj h5 => by rw [upd_other _ _ _ h5, upd_other _ _ _ hj]⟩, Nat.le_trans h.low hkp.size, h.fam.on h.low hkp.size (by decide) hq hv hqv, hd, h.r.keep hkp (h.fam.off (i := 1) (by decide)), h.e.keep hkp (h.fam.off (i := 2) (by decide)), h.t.keep hkp (h.fam.off (i := 3) (by decide)), h.k.keep hkp (h.fam.off (i := 4) (by decide)), fun x hx => ⟨hkp.old (h.ex x hx).1 (h.fam.off (i := 7) (by decide) _ (h.ex x hx).2), (h.ex x hx).2⟩⟩
theorem play_feedE {ao : Option Addr} {k cc : Nat} {b : List UInt8} (h : Play N w D R C T K P ds rs es ts c L) (hok : DOk es) (hbk : b.length = k) (hrb : Rd w ao b) (hk : es.rest.length + k ≤ 100000000000) :
    Calls Tryz.prog 18 #[.pointer (some ⟨C, 0, none⟩), .slice ao k cc] w fun e w' => ∃ P', Told5 w w' P P' 2 (feedF es b).1 e ∧ Play N w' D R C T K P' ds rs (feedF es b).2 ts c L := by
  obtain ⟨r, h1, h2, h3, h4⟩ := h.e
  refine (feed_any w C r es ao k cc b h1 hok hbk hrb (fun hb => h1.no_rd hrb hb) hk).mono ?_
  intro e w' hp
  obtain ⟨v, Q, rfl, ho, hd, hkp, hv, hq, hqv⟩ := Dec.next h1 h2 h3 h4 hp
  refine ⟨upd (upd P 2 Q) 5 (fun g => v.ownBlock = some g), ⟨v, rfl, ho, fun g hg => by rw [upd_same]; exact hg, hkp, fun j hj h5 => by rw [upd_other _ _ _ h5, upd_other _ _ _ hj]⟩, Nat.le_trans h.low hkp.size, h.fam.on h.low hkp.size (by decide) hq hv hqv, h.d.keep hkp (h.fam.off (i := 0) (by decide)), h.r.keep hkp (h.fam.off (i := 1) (by decide)), hd, h.t.keep hkp (h.fam.off (i := 3) (by decide)), h.k.keep hkp (h.fam.off (i := 4) (by decide)), fun x hx => ⟨hkp.old (h.ex x hx).1 (h.fam.off (i := 7) (by decide) _ (h.ex x hx).2), (h.ex x hx).2⟩⟩

/-- What is known behind a call of the reference's that told the frames l. -/
def ToldR (w w' : World) (P : Nat → Nat → Prop) (i : Nat) (l : List Fr) (e : Ending) : Prop :=
  ∃ v, e = .returned v ∧ Own w' 4 v l.length (fcells l) ∧ Keep (P i) w w'
theorem RDec.next {R : Nat} {Pi : Nat → Prop} {d d' : DSt} {b : List Fr} {e : Ending} (h1 : RDec w R Pi d) (hp : RFeedPost w R (b, d') e w') :
    ∃ v, e = .returned v ∧ Own w' 4 v b.length (fcells b) ∧ RDec w' R Pi d' ∧ Keep Pi w w' := by
  obtain ⟨v, rfl, ho, hd, hk, _⟩ := hp
  exact ⟨v, rfl, ho, ⟨hd, h1.2⟩, hk.mono (fun k _ hx => hx ▸ h1.2.1)⟩
theorem play_feedR {ao : Option Addr} {k cc : Nat} {b : List UInt8} (h : Play N w D R C T K P ds rs es ts c L) (hok : DOk rs) (hbk : b.length = k) (hrb : Rd w ao b) (hk : rs.rest.length + k ≤ 10000000000) :
    Calls Tryz.prog 19 #[.pointer (some ⟨R, 0, none⟩), .slice ao k cc] w fun e w' => ToldR w w' P 1 (feedF rs b).1 e ∧ Play N w' D R C T K P ds (feedF rs b).2 es ts c L := by
  refine (rfeed_any w R rs ao k cc b h.r.1 hok hbk hrb hk).mono ?_
  intro e w' hp
  obtain ⟨v, rfl, ho, hd, hkp⟩ := h.r.next hp
  exact ⟨⟨v, rfl, ho, hkp⟩, Nat.le_trans h.low hkp.size, h.fam.grow hkp.size, h.d.keep hkp (h.fam.off (i := 0) (by decide)), hd, h.e.keep hkp (h.fam.off (i := 2) (by decide)), h.t.keep hkp (h.fam.off (i := 3) (by decide)), h.k.keep hkp (h.fam.off (i := 4) (by decide)), fun x hx => ⟨hkp.old (h.ex x hx).1 (h.fam.off (i := 7) (by decide) _ (h.ex x hx).2), (h.ex x hx).2⟩⟩
theorem play_closeR (h : Play N w D R C T K P ds rs es ts c L) (hok : DOk rs) (hk : rs.rest.length ≤ 10000000000) :
    Calls Tryz.prog 21 #[.pointer (some ⟨R, 0, none⟩)] w fun e w' => ToldR w w' P 1 (closeF rs).1 e ∧ Play N w' D R C T K P ds (closeF rs).2 es ts c L := by
  refine (rclose_any w R rs h.r.1 hok hk).mono ?_
  intro e w' hp
  obtain ⟨v, rfl, ho, hd, hkp⟩ := h.r.next hp
  exact ⟨⟨v, rfl, ho, hkp⟩, Nat.le_trans h.low hkp.size, h.fam.grow hkp.size, h.d.keep hkp (h.fam.off (i := 0) (by decide)), hd, h.e.keep hkp (h.fam.off (i := 2) (by decide)), h.t.keep hkp (h.fam.off (i := 3) (by decide)), h.k.keep hkp (h.fam.off (i := 4) (by decide)), fun x hx => ⟨hkp.old (h.ex x hx).1 (h.fam.off (i := 7) (by decide) _ (h.ex x hx).2), (h.ex x hx).2⟩⟩
theorem play_feedT {ao : Option Addr} {k cc : Nat} {b : List UInt8} (h : Play N w D R C T K P ds rs es ts c L) (hok : DOk ts) (hbk : b.length = k) (hrb : Rd w ao b) (hk : ts.rest.length + k ≤ 10000000000) :
    Calls Tryz.prog 19 #[.pointer (some ⟨T, 0, none⟩), .slice ao k cc] w fun e w' => ToldR w w' P 3 (feedF ts b).1 e ∧ Play N w' D R C T K P ds rs es (feedF ts b).2 c L := by
  refine (rfeed_any w T ts ao k cc b h.t.1 hok hbk hrb hk).mono ?_
  intro e w' hp
  obtain ⟨v, rfl, ho, hd, hkp⟩ := h.t.next hp
  exact ⟨⟨v, rfl, ho, hkp⟩, Nat.le_trans h.low hkp.size, h.fam.grow hkp.size, h.d.keep hkp (h.fam.off (i := 0) (by decide)), h.r.keep hkp (h.fam.off (i := 1) (by decide)), h.e.keep hkp (h.fam.off (i := 2) (by decide)), hd, h.k.keep hkp (h.fam.off (i := 4) (by decide)), fun x hx => ⟨hkp.old (h.ex x hx).1 (h.fam.off (i := 7) (by decide) _ (h.ex x hx).2), (h.ex x hx).2⟩⟩

theorem play_frames {v : Value} {l : List Fr} (h : Play N w D R C T K P ds rs es ts c L) (ho : Own w 4 v l.length (fcells l)) (hv : ∀ g, v.ownBlock = some g → P 5 g) (hc : c + 1 ≤ 10000000) (hl : l.length ≤ 100000000000) :
    Calls Tryz.prog 10 #[.pointer (some ⟨K, 0, none⟩), v] w fun e w' => e = .returned (.tuple #[]) ∧ ∃ P', Play N w' D R C T K P' ds rs es ts (c + 1) L ∧ Keep (P 4) w w' := by
  refine (bk_frames w K c (P 4) h.k v l.length (fcells l) ho (fun g hg => h.fam.off (i := 5) (by decide) g (hv g hg)) hc hl).mono ?_
  rintro e w' ⟨rfl, hb, hkp⟩
  have hfam : Fam N w' (upd (upd P 4 (fun g => P 4 g ∨ v.ownBlock = some g ∨ (w.heap.size ≤ g ∧ g < w'.heap.size))) 5 (fun _ => False)) := by
    have hq : ∀ j g, upd (upd P 4 (fun g => P 4 g ∨ v.ownBlock = some g ∨ (w.heap.size ≤ g ∧ g < w'.heap.size))) 5 (fun _ => False) j g → (j = 4 ∧ (P 4 g ∨ P 5 g ∨ (w.heap.size ≤ g ∧ g < w'.heap.size))) ∨ (¬ j = 4 ∧ ¬ j = 5 ∧ P j g) := by
      intro j g hg
      by_cases h5 : j = 5
      · subst h5; rw [upd_same] at hg; exact hg.elim
      · rw [upd_other _ _ _ h5] at hg
        by_cases h4 : j = 4
        · subst h4; rw [upd_same] at hg
          exact .inl ⟨rfl, hg.imp id (fun h => h.imp (hv g) id)⟩
        · rw [upd_other _ _ _ h4] at hg; exact .inr ⟨h4, h5, hg⟩
    refine ⟨fun j g hg => ?_, fun i j g hi hj => ?_⟩
    · have hs := hkp.size
      have hlow := h.low
      rcases hq j g hg with ⟨_, h1 | h1 | h1⟩ | ⟨_, _, h1⟩
      · have := h.fam.bd _ g h1; omega
      · have := h.fam.bd _ g h1; omega
      · omega
      · have := h.fam.bd _ g h1; omega
    · rcases hq i g hi with ⟨e1, h1⟩ | ⟨n4, n5, h1⟩ <;> rcases hq j g hj with ⟨e2, h2⟩ | ⟨m4, m5, h2⟩
      · rw [e1, e2]
      · rcases h1 with h1 | h1 | h1
        · exact absurd (h.fam.dj 4 j g h1 h2).symm m4
        · exact absurd (h.fam.dj 5 j g h1 h2).symm m5
        · have := h.fam.bd j g h2; omega
      · rcases h2 with h2 | h2 | h2
        · exact absurd (h.fam.dj 4 i g h2 h1).symm n4
        · exact absurd (h.fam.dj 5 i g h2 h1).symm n5
        · have := h.fam.bd i g h1; omega
      · exact h.fam.dj i j g h1 h2
  exact ⟨rfl, _, ⟨Nat.le_trans h.low hkp.size, hfam, h.d.keep hkp (h.fam.off (i := 0) (by decide)), h.r.keep hkp (h.fam.off (i := 1) (by decide)), h.e.keep hkp (h.fam.off (i := 2) (by decide)), h.t.keep hkp (h.fam.off (i := 3) (by decide)), hb, fun x hx => ⟨hkp.old (h.ex x hx).1 (h.fam.off (i := 7) (by decide) _ (h.ex x hx).2), (h.ex x hx).2⟩⟩, hkp⟩

/-- What each of them turns stands from N on. -/
theorem Play.out (h : Play N w D R C T K P ds rs es ts c L) {i : Nat} (k : Keep (P i) w w') {w0 : World} (hb : Below N w0 w) : Below N w0 w' :=
  hb.trans (k.below h.low (fun g hg hp => by have := h.fam.bd i g hp; omega))

theorem keep_drewN (w : World) (n : Nat) (X : Nat → Prop) : Keep X w (w.drewN n) := ⟨rfl, rfl, rfl, Nat.le_refl _, fun _ _ _ => rfl⟩
theorem dec_seen {P0 P1 : Nat → Prop} (hd : Dec w D P0 ds) (hr : RDec w R P1 ds) (hok : ROk ds) : Calls Tryz.prog 22 #[.pointer (some ⟨D, 0, none⟩), .pointer (some ⟨R, 0, none⟩)] w fun e w' => e = .returned (.bool true) ∧ Below w.heap.size w w' := by
  obtain ⟨r, h1, _⟩ := hd
  refine (lseen_of w (some ⟨D, 0, none⟩) R ds (fun n => seen_any (w.drewN n) D r ds (h1.keep (keep_drewN w n (fun _ => False)) id (fun _ _ => id)) hok.most hok.len) hr.1 hok.most hok.len).mono ?_
  rintro e w' ⟨rfl, n, rfl⟩
  exact ⟨rfl, below_drewN (Below.refl _ _) _⟩
theorem dec_held {P0 P1 : Nat → Prop} (hd : Dec w D P0 ds) (hr : RDec w R P1 ds) : Calls Tryz.prog 23 #[.pointer (some ⟨D, 0, none⟩), .pointer (some ⟨R, 0, none⟩)] w fun e w' => e = .returned (.bool true) ∧ Below w.heap.size w w' := by
  obtain ⟨r, h1, _⟩ := hd
  exact lheld_of w (some ⟨D, 0, none⟩) R ds (held_any w D r ds h1) hr.1
theorem play_seen (h : Play N w D R C T K P ds ds es ts c L) (hok : ROk ds) : Calls Tryz.prog 22 #[.pointer (some ⟨D, 0, none⟩), .pointer (some ⟨R, 0, none⟩)] w fun e w' => e = .returned (.bool true) ∧ Below w.heap.size w w' := dec_seen h.d h.r hok
theorem play_held (h : Play N w D R C T K P ds ds es ts c L) : Calls Tryz.prog 23 #[.pointer (some ⟨D, 0, none⟩), .pointer (some ⟨R, 0, none⟩)] w fun e w' => e = .returned (.bool true) ∧ Below w.heap.size w w' := dec_held h.d h.r
theorem play_heldE (h : Play N w D R C T K P ds rs es es c L) : Calls Tryz.prog 23 #[.pointer (some ⟨C, 0, none⟩), .pointer (some ⟨T, 0, none⟩)] w fun e w' => e = .returned (.bool true) ∧ Below w.heap.size w w' := by
  obtain ⟨r, h1, _⟩ := h.e
  exact lheld_of w (some ⟨C, 0, none⟩) T es (held_any w C r es h1) h.t.1
theorem play_apart (h : Play N w D R C T K P ds ds es ts c L) : Calls Tryz.prog 12 #[.pointer (some ⟨K, 0, none⟩)] w fun e w' => e = .returned (.bool true) ∧ Keep (P 4) w w' :=
  bk_apart w K c (P 4) h.k
/-- What a kept block of two cells holds. -/
theorem Play.two (h : Play N w D R C T K P ds rs es ts c L) {H : Nat} {a b : Value} {t : TypeId} (hx : (H, Obj.cells #[a, b] t (0, 0)) ∈ L) : w.cell? ⟨H, 0, none⟩ = some a ∧ w.cell? ⟨H, 1, none⟩ = some b ∧ H < w.heap.size := by
  have h1 := (h.ex _ hx).1
  simp only at h1
  exact ⟨by simp [World.cell?, h1], by simp [World.cell?, h1], lt_of_block h1⟩
theorem row_obj {g cap size : Nat} {xs : List Value} (h : Row w g cap size xs) : ∃ o, w.heap[g]? = some o := ⟨_, Array.getElem?_eq_getElem h.lt⟩
theorem row_rdb {g k : Nat} {b : List UInt8} {x : UInt8} (h : Row w g (k + 1) 1 (bcells (b ++ [x]))) : Rd w (some ⟨g, 0, none⟩) b := by
  refine .inr ⟨g, 0, rfl, fun i hi => ?_⟩
  rw [Nat.zero_add]
  refine h.cell i _ ?_
  simp only [bcells, List.getElem?_map]
  rw [List.getElem?_append_left hi, List.getElem?_eq_getElem hi]
  rfl
end
end Go.Proofs.YtmblghdiejneoaaGreat
