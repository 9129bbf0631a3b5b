/- The lists that a Book keeps, and rows of marks. No program in sight. -/
import Derived.Test.YtmblghdiejneoaaGreatQMem2
namespace Go.Proofs.YtmblghdiejneoaaGreat
set_option maxRecDepth 100000
open Go.RowKit

/-- A list that is kept: its value, its length, its number. -/
structure Held where
  v : Value
  k : Nat
  n : Nat

def hcells (f : Nat → Held) (L : Nat → Value) : Nat → List Value
  | 0 => []
  | m + 1 => hcells f L m ++ [(f m).v, L m, .int .i64 ((f m).n : Int)]
theorem hcells_length (f : Nat → Held) (L : Nat → Value) (m : Nat) : (hcells f L m).length = m * 3 := by
  induction m with
  | zero => rfl
  | succ m ih => simp only [hcells, List.length_append, ih, List.length_cons, List.length_nil]; omega
theorem hcells_get (f : Nat → Held) (L : Nat → Value) (m : Nat) (i : Nat) (hi : i < m) :
    (hcells f L m)[i * 3]? = some (f i).v ∧ (hcells f L m)[i * 3 + 1]? = some (L i) ∧ (hcells f L m)[i * 3 + 2]? = some (.int .i64 ((f i).n : Int)) := by
  induction m with
  | zero => omega
  | succ m ih =>
    have hl := hcells_length f L m
    by_cases h : i < m
    · obtain ⟨h0, h1, h2⟩ := ih h
      simp only [hcells]
      refine ⟨?_, ?_, ?_⟩ <;> rw [List.getElem?_append_left (by omega)] <;> assumption
    · obtain rfl : i = m := by omega
      simp only [hcells]
      refine ⟨?_, ?_, ?_⟩ <;> rw [List.getElem?_append_right (by omega), hl]
      · rw [show i * 3 - i * 3 = 0 by omega]; rfl
      · rw [show i * 3 + 1 - i * 3 = 1 by omega]; rfl
      · rw [show i * 3 + 2 - i * 3 = 2 by omega]; rfl
theorem hcells_congr {f f' : Nat → Held} {L L' : Nat → Value} {m : Nat} (h : ∀ i, i < m → f i = f' i) (h' : ∀ i, i < m → L i = L' i) : hcells f L m = hcells f' L' m := by
  induction m with
  | zero => rfl
  | succ m ih =>
    simp only [hcells]
    rw [ih (fun i hi => h i (by omega)) (fun i hi => h' i (by omega)), h m (by omega), h' m (by omega)]
/-- One entry is another. -/
def upd {α : Type} (L : Nat → α) (i : Nat) (x : α) : Nat → α := fun j => if j = i then x else L j
theorem upd_same {α : Type} (L : Nat → α) (i : Nat) (x : α) : upd L i x i = x := by simp [upd]
theorem upd_other {α : Type} (L : Nat → α) (i : Nat) (x : α) {j : Nat} (h : ¬ j = i) : upd L i x j = L j := by simp [upd, h]
theorem hcells_set (f : Nat → Held) (L : Nat → Value) (m i : Nat) (hi : i < m) (x : Value) : (hcells f L m).set (i * 3 + 1) x = hcells f (upd L i x) m := by
  induction m with
  | zero => omega
  | succ m ih =>
    have hl := hcells_length f L m
    simp only [hcells]
    by_cases h : i < m
    · rw [List.set_append_left _ _ (by omega), ih h, upd_other L i x (by omega : ¬ m = i)]
    · obtain rfl : i = m := by omega
      rw [List.set_append_right _ _ (by omega), hl, show i * 3 + 1 - i * 3 = 1 by omega, upd_same]
      congr 1
      exact hcells_congr (fun _ _ => rfl) (fun j hj => (upd_other L i x (by omega)).symm)

/-- k times the cells c. -/
def marks (c : List Value) : Nat → List Value
  | 0 => []
  | k + 1 => marks c k ++ c
theorem marks_length (c : List Value) (k : Nat) : (marks c k).length = k * c.length := by
  induction k with
  | zero => simp [marks]
  | succ k ih => simp only [marks, List.length_append, ih, Nat.add_mul, Nat.one_mul]
theorem marks_get (c : List Value) (k i j : Nat) (u : Value) (hi : i < k) (hu : c[j]? = some u) : (marks c k)[i * c.length + j]? = some u := by
  have hj := (List.getElem?_eq_some_iff.1 hu).1
  induction k with
  | zero => omega
  | succ k ih =>
    have hl := marks_length c k
    simp only [marks]
    by_cases h : i < k
    · have : i * c.length + j < k * c.length := by
        have := Nat.mul_le_mul_right c.length (show i + 1 ≤ k from h)
        rw [Nat.add_mul, Nat.one_mul] at this
        omega
      rw [List.getElem?_append_left (by omega)]
      exact ih h
    · obtain rfl : i = k := by omega
      rw [List.getElem?_append_right (by omega), hl, show i * c.length + j - i * c.length = j by omega]
      exact hu
theorem marks_oneCell (c : List Value) (h : ∀ u ∈ c, u.oneCell' = true) (k : Nat) : ∀ u ∈ marks c k, u.oneCell' = true := by
  induction k with
  | zero => intro u hu; simp [marks] at hu
  | succ k ih =>
    intro u hu
    simp only [marks, List.mem_append] at hu
    rcases hu with hu | hu
    · exact ih u hu
    · exact h u hu

/-- Several cells of an owned row are stored. -/
theorem Row.puts {w : World} {g cap size : Nat} {xs : List Value} (h : Row w g cap size xs) (o : Nat) (a c r : List Value) (vs : List Value) (hx : xs = a ++ c ++ r) (ha : a.length = o) (hc : c.length = vs.length) (hle : o + vs.length ≤ cap * size) :
    Row (w.setCells g o vs) g cap size (a ++ vs ++ r) := by
  have hK := Keep.setCells w g o vs
  refine ⟨Nat.lt_of_lt_of_le h.lt hK.size, fun j u hu => ?_, fun j hj => World.isSome_setCells g vs _ w _ (h.there j hj), fun j hj => by rw [World.frozen?_setCells]; exact h.free j hj⟩
  by_cases hj : o ≤ j ∧ j < o + vs.length
  · have h1 := World.cell?_setCells_in g vs o w (fun k hk => h.there _ (by omega)) (j - o) (by omega)
    rw [show o + (j - o) = j by omega] at h1
    rw [h1]
    rw [List.getElem?_append_left (by rw [List.length_append]; omega), List.getElem?_append_right (by omega), ha] at hu
    exact (List.getElem?_eq_getElem (by omega)).symm.trans hu
  · rw [World.cell?_setCells_out g vs _ w ⟨g, j, none⟩ (fun _ _ => by simp; omega)]
    refine h.cell j u ?_
    rw [hx]
    by_cases hj2 : j < o
    · rw [List.getElem?_append_left (by rw [List.length_append]; omega), List.getElem?_append_left (by omega)] at hu ⊢
      exact hu
    · rw [List.getElem?_append_right (by rw [List.length_append]; omega)] at hu ⊢
      rw [List.length_append] at hu ⊢
      rw [hc]
      exact hu

/-- The same at a value, element by element: the element at k turns into a mark. -/
theorem Own.mark {w : World} {size : Nat} {g cap n k : Nat} {c r : List Value} (hc : c.length = size) (h : Own w size (.slice (some ⟨g, 0, none⟩) n cap) n (marks c k ++ r)) (hk : k < n) :
    Own (w.setCells g (k * size) c) size (.slice (some ⟨g, 0, none⟩) n cap) n (marks c (k + 1) ++ r.drop size) := by
  have hml := marks_length c k
  rw [hc] at hml
  have hlen := h.1
  rw [List.length_append, hml] at hlen
  have h1 := Nat.mul_le_mul_right size (show k + 1 ≤ n from hk)
  rw [Nat.add_mul, Nat.one_mul] at h1
  have hrl : size ≤ r.length := by omega
  rcases h.2 with ⟨h0, _⟩ | ⟨g', cap', he, hn, hm, hr⟩
  · cases h0
  · cases he
    refine ⟨?_, .inr ⟨g, cap, rfl, hn, hm, ?_⟩⟩
    · rw [List.length_append, marks_length, hc, List.length_drop, Nat.add_mul, Nat.one_mul]; omega
    · simp only [marks]
      refine hr.puts (k * size) (marks c k) (r.take size) (r.drop size) c (by rw [List.append_assoc, List.take_append_drop]) hml (by rw [List.length_take]; omega) ?_
      have h2 := Nat.mul_le_mul_right size hn
      omega
theorem Own.first {w : World} {size : Nat} {v : Value} {n : Nat} {xs : List Value} (h : Own w size v n xs) (c : List Value) : Own w size v n (marks c 0 ++ xs) := by
  simpa [marks] using h
theorem Own.full {w : World} {size : Nat} {v : Value} {n : Nat} {c r : List Value} (hc : c.length = size) (h : Own w size v n (marks c n ++ r)) : Own w size v n (marks c n) := by
  have h1 := h.1
  rw [List.length_append, marks_length, hc] at h1
  have : r = [] := List.eq_nil_of_length_eq_zero (by omega)
  subst this
  simpa using h
/-- What such a row's cells are. -/
theorem Own.mark_cell {w : World} {size : Nat} {g cap n : Nat} {c : List Value} (hc : c.length = size) (h : Own w size (.slice (some ⟨g, 0, none⟩) n cap) n (marks c n)) {k j : Nat} {u : Value} (hk : k < n) (hu : c[j]? = some u) :
    w.cell? ⟨g, k * size + j, none⟩ = some u := by
  rcases h.2 with ⟨h0, _⟩ | ⟨g', cap', he, hn, hm, hr⟩
  · cases h0
  · cases he
    refine hr.cell _ _ ?_
    have := marks_get c n k j u hk hu
    rwa [hc] at this
theorem marks_pre (c : List Value) (k e j : Nat) (u : Value) (h : (marks c k)[j]? = some u) : (marks c (k + e))[j]? = some u := by
  induction e with
  | zero => exact h
  | succ e ih =>
    rw [show k + (e + 1) = (k + e) + 1 by omega]
    simp only [marks]
    rw [List.getElem?_append_left (List.getElem?_eq_some_iff.1 ih).1]
    exact ih

/-- One mark more behind a list that grows: what was there is seen as before. -/
theorem grow_step {W1 wx w2 : World} {size : Nat} {v0 long : Value} {k0 n g cap : Nat} {c : List Value} (hs : Sees wx v0 k0 (marks c k0)) (hle : k0 ≤ n)
    (ho : long.ownBlock = v0.ownBlock ∨ ∃ g, long.ownBlock = some g ∧ W1.heap.size ≤ g) (h0 : ∀ g, v0.ownBlock = some g → g < W1.heap.size) (hk : Keep (fun k => v0.ownBlock = some k) W1 wx)
    (hnew : Own w2 size (.slice (some ⟨g, 0, none⟩) (n + 1) cap) (n + 1) (marks c n ++ c))
    (hcase : (long.ownBlock = some g ∧ Keep (fun k => long.ownBlock = some k) wx w2) ∨ (wx.heap.size ≤ g ∧ Keep (fun _ => False) wx w2)) :
    Sees w2 v0 k0 (marks c k0) ∧ ((Value.slice (some ⟨g, 0, none⟩) (n + 1) cap).ownBlock = v0.ownBlock ∨ ∃ g', (Value.slice (some ⟨g, 0, none⟩) (n + 1) cap).ownBlock = some g' ∧ W1.heap.size ≤ g') ∧ Keep (fun k => v0.ownBlock = some k) W1 w2 := by
  have hob : (Value.slice (some ⟨g, 0, none⟩) (n + 1) cap).ownBlock = some g := rfl
  rcases hcase with ⟨hl, hk2⟩ | ⟨hg, hk2⟩
  · rcases ho with ho | ⟨g', ho, hg'⟩
    · have hv0 : v0.ownBlock = some g := by rw [← ho]; exact hl
      refine ⟨?_, .inl (hob.trans hv0.symm), hk.trans hk2 (fun _ _ h => h) (fun k _ h => by rw [← ho]; exact h)⟩
      rcases hs with ⟨rfl, _⟩ | ⟨g1, cap1, rfl, hg1, hc1⟩
      · simp [Value.ownBlock] at hv0
      · simp [Value.ownBlock] at hv0
        subst hv0
        refine .inr ⟨g1, cap1, rfl, Nat.lt_of_lt_of_le hg1 hk2.size, fun j u hu => ?_⟩
        rcases hnew.2 with ⟨h, _⟩ | ⟨g2, cap2, he, _, _, hr⟩
        · cases h
        · cases he
          refine hr.cell j u ?_
          have := marks_pre c k0 (n - k0 + 1) j u hu
          rw [show k0 + (n - k0 + 1) = n + 1 by omega] at this
          exact this
    · rw [hl] at ho
      cases ho
      refine ⟨hs.keep hk2 (fun g1 h1 h2 => ?_), .inr ⟨g, rfl, hg'⟩, hk.trans hk2 (fun _ _ h => h) (fun k hk' h => ?_)⟩
      · rw [hl] at h2; cases h2
        have := h0 _ h1; omega
      · rw [hl] at h; cases h
        omega
  · exact ⟨hs.keep hk2 (fun _ _ => id), .inr ⟨g, rfl, Nat.le_trans hk.size hg⟩, hk.trans hk2 (fun _ _ h => h) (fun _ _ h => h.elim)⟩
end Go.Proofs.YtmblghdiejneoaaGreat
