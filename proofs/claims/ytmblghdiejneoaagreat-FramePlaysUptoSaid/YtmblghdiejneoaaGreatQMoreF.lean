/- Plain law: the reference's decoder tells what the program's tells. -/
import Derived.Test.YtmblghdiejneoaaGreatQGone
import Derived.Test.YtmblghdiejneoaaGreatQROk
namespace Go.Proofs.YtmblghdiejneoaaGreat

/-- One frame of Gone, told on: what is told, the bad bytes not told yet. -/
def mstep (base : Nat) (st : List Fr × Nat × Nat) (f : Fr) : List Fr × Nat × Nat :=
  if f.kind = 2 then (st.1, if st.2.2 = 0 then f.pos + base else st.2.1, st.2.2 + f.size)
  else (st.1 ++ tellB st.2.1 st.2.2 ++ [⟨f.kind, f.pos + base, f.size, f.content⟩], 0, 0)
def mfold (base : Nat) (st : List Fr × Nat × Nat) (l : List Fr) : List Fr × Nat × Nat := l.foldl (mstep base) st
theorem mfold_append (base : Nat) (st : List Fr × Nat × Nat) (l m : List Fr) : mfold base st (l ++ m) = mfold base (mfold base st l) m := by simp [mfold, List.foldl_append]

/-- Bad bytes that join others. -/
def merge (a b x y : Nat) : Nat × Nat := if y = 0 then (a, b) else (if b = 0 then x else a, b + y)
theorem mfold_tellB (base : Nat) (out : List Fr) (a b x y : Nat) : mfold base (out, a, b) (tellB x y) = (out, merge a b (x + base) y) := by
  unfold tellB merge
  by_cases hy : y = 0
  · rw [if_pos hy, if_pos hy]; rfl
  · rw [if_neg hy, if_neg hy]
    simp [mfold, mstep]

/-- From the frames of a stream's end, taken by itself, to what a decoder tells that has bad bytes in hand. -/
theorem mfold_scan (last : Bool) (base : Nat) : ∀ (f pos : Nat) (l : List UInt8) (x y a b : Nat) (out : List Fr), l.length ≤ f →
    mfold base (out, a, b) ((scan last f pos l x y).1 ++ tellB (scan last f pos l x y).2.2.1 (scan last f pos l x y).2.2.2) =
      (out ++ (scan last f (base + pos) l (merge a b (x + base) y).1 (merge a b (x + base) y).2).1, (scan last f (base + pos) l (merge a b (x + base) y).1 (merge a b (x + base) y).2).2.2) ∧
    (scan last f pos l x y).2.1 = (scan last f (base + pos) l (merge a b (x + base) y).1 (merge a b (x + base) y).2).2.1 := by
  intro f
  induction f with
  | zero =>
    intro pos l x y a b out hl
    have : l = [] := List.eq_nil_of_length_eq_zero (by omega)
    subst this
    rw [scan_nil, scan_nil, List.nil_append, mfold_tellB]
    simp
  | succ f ih =>
    intro pos l x y a b out hl
    by_cases h0 : l = []
    · subst h0
      rw [scan_nil, scan_nil, List.nil_append, mfold_tellB]
      simp
    have hpos : 0 < l.length := List.length_pos_iff.2 h0
    by_cases hst : (wholeF l).2 = true ∧ last = false
    · rw [scan_stop h0 hst, scan_stop h0 hst, List.nil_append, mfold_tellB]
      simp
    by_cases hz : (wholeF l).1 = 0
    · rw [scan_bad h0 hst hz, scan_bad h0 hst hz]
      have := ih (pos + 1) (l.drop 1) (if y = 0 then pos else x) (y + 1) a b out (by rw [List.length_drop]; omega)
      have hm : merge a b ((if y = 0 then pos else x) + base) (y + 1) = (if (merge a b (x + base) y).2 = 0 then base + pos else (merge a b (x + base) y).1, (merge a b (x + base) y).2 + 1) := by
        unfold merge
        rw [if_neg (by omega)]
        by_cases hy : y = 0
        · subst hy
          simp only [if_true]
          by_cases hb : b = 0
          · subst hb; simp; omega
          · simp [hb]
        · simp only [if_neg hy]
          by_cases hb : b = 0
          · subst hb; simp [hy]
          · have : ¬ b + y = 0 := by omega
            simp [hb]
            omega
      rw [hm] at this
      rw [Nat.add_assoc]
      exact this
    · rw [scan_good hz, scan_good hz]
      simp only
      have := ih (pos + (wholeF l).1) (l.drop (wholeF l).1) 0 0 0 0 (out ++ tellB (merge a b (x + base) y).1 (merge a b (x + base) y).2 ++ [⟨1, pos + base, (wholeF l).1, (l.drop 4).take ((wholeF l).1 - 8)⟩]) (by rw [List.length_drop]; omega)
      rw [show merge 0 0 (0 + base) 0 = (0, 0) from rfl] at this
      obtain ⟨h1, h2⟩ := this
      refine ⟨?_, by rw [h2, Nat.add_assoc]⟩
      rw [List.append_assoc, mfold_append, mfold_tellB, List.cons_append]
      have hstep : ∀ (m : List Fr), mfold base (out, merge a b (x + base) y) (⟨1, pos, (wholeF l).1, (l.drop 4).take ((wholeF l).1 - 8)⟩ :: m) = mfold base (out ++ tellB (merge a b (x + base) y).1 (merge a b (x + base) y).2 ++ [⟨1, pos + base, (wholeF l).1, (l.drop 4).take ((wholeF l).1 - 8)⟩], 0, 0) m := by
        intro m
        simp [mfold, mstep]
      rw [hstep, h1, Nat.add_comm pos base]
      simp [Nat.add_assoc]

/-- What Gone is, by scan. -/
theorem gone_eq (last : Bool) (l : List UInt8) : gone last (l.length + 1) 0 l [] = ((scan last l.length 0 l 0 0).1 ++ tellB (scan last l.length 0 l 0 0).2.2.1 (scan last l.length 0 l 0 0).2.2.2, (scan last l.length 0 l 0 0).2.1) := by
  have h := gone_scan last (l.length + 1) 0 l [] 0 0 (by omega) (fun _ x hx => by simp at hx)
  rw [show ([] : List Fr) ++ tellB 0 0 = [] from rfl, scan_fuel last l.length (l.length + 1) l.length 0 l 0 0 (Nat.le_refl _) (by omega) (Nat.le_refl _)] at h
  simpa using h

/-- What 'more' comes to. -/
def moreF (d : DSt) (b : List UInt8) (last : Bool) : List Fr × DSt :=
  let g := gone last ((d.rest ++ b).length + 1) 0 (d.rest ++ b) []
  let m := mfold (d.fed - d.rest.length) ([], d.ba, d.bs) g.1
  if last then (m.1 ++ tellB m.2.1 m.2.2, ⟨last, d.fed + b.length, 0, 0, g.2⟩) else (m.1, ⟨last, d.fed + b.length, m.2.1, m.2.2, g.2⟩)

theorem more_feed (d : DSt) (b : List UInt8) (h : ¬ (d.closed = true ∨ 4611686018427387903 < d.fed + b.length)) : moreF d b false = feedF d b := by
  rw [feedF_scan d b h]
  unfold moreF
  rw [gone_eq]
  have h1 := mfold_scan false (d.fed - d.rest.length) (d.rest ++ b).length 0 (d.rest ++ b) 0 0 d.ba d.bs [] (Nat.le_refl _)
  rw [show merge d.ba d.bs (0 + (d.fed - d.rest.length)) 0 = (d.ba, d.bs) from rfl, Nat.add_zero] at h1
  obtain ⟨h1, h2⟩ := h1
  simp only [h1, h2]
  simp
theorem more_close (d : DSt) (h : ¬ d.closed = true) : moreF d [] true = closeF d := by
  rw [closeF_scan d h]
  unfold moreF
  rw [List.append_nil, gone_eq]
  have h1 := mfold_scan true (d.fed - d.rest.length) d.rest.length 0 d.rest 0 0 d.ba d.bs [] (Nat.le_refl _)
  rw [show merge d.ba d.bs (0 + (d.fed - d.rest.length)) 0 = (d.ba, d.bs) from rfl, Nat.add_zero] at h1
  obtain ⟨h1, h2⟩ := h1
  have h3 := scan_last d.rest.length (d.fed - d.rest.length) d.rest d.ba d.bs (Nat.le_refl _)
  simp only [h1, h2]
  simp [h3]

/-- The sizes of what Gone tells, and of what is left. -/
def sizes (l : List Fr) : Nat := (l.map Fr.size).sum
theorem sizes_append (l m : List Fr) : sizes (l ++ m) = sizes l + sizes m := by simp [sizes]
theorem sizes_bump (out : List Fr) (p : Nat) : sizes (bump out p) = sizes out + 1 := by
  unfold bump
  split
  · rename_i x hx
    split
    · obtain ⟨l, rfl⟩ : ∃ l, out = l ++ [x] := by
        rcases List.eq_nil_or_concat out with h | ⟨l, y, h⟩
        · subst h; simp at hx
        · subst h; simp at hx; subst hx; exact ⟨l, by simp⟩
      rw [List.dropLast_concat, sizes_append, sizes_append]
      simp [sizes]; omega
    · rw [sizes_append]; simp [sizes]
  · rw [sizes_append]; simp [sizes]
theorem pos_bump {out : List Fr} {p M : Nat} (h : ∀ x ∈ out, x.pos ≤ M) (hp : p ≤ M) : ∀ x ∈ bump out p, x.pos ≤ M := by
  intro x hx
  unfold bump at hx
  split at hx
  · rename_i y hy
    split at hx
    · rcases List.mem_append.1 hx with h1 | h1
      · exact h x ((List.dropLast_subset out) h1)
      · simp at h1
        subst h1
        exact h y (List.mem_of_getLast? hy)
    · rcases List.mem_append.1 hx with h1 | h1
      · exact h x h1
      · simp at h1; subst h1; exact hp
  · rcases List.mem_append.1 hx with h1 | h1
    · exact h x h1
    · simp at h1; subst h1; exact hp
theorem gone_sizes (last : Bool) : ∀ (f pos : Nat) (l : List UInt8) (out : List Fr) (M : Nat), l.length < f → pos + l.length ≤ M → (∀ x ∈ out, x.pos ≤ M) →
    sizes (gone last f pos l out).1 + (gone last f pos l out).2.length = sizes out + l.length ∧ ∀ x ∈ (gone last f pos l out).1, x.pos ≤ M := by
  intro f
  induction f with
  | zero => intro pos l out M h; omega
  | succ f ih =>
    intro pos l out M hf hM hx
    rw [gone]
    by_cases h3 : (standsF l).1 = 3 ∧ (last = false ∨ l = [])
    · rw [if_pos h3]; exact ⟨rfl, hx⟩
    rw [if_neg h3]
    have hne : l ≠ [] := fun h => h3 ⟨by rw [h]; rfl, .inr h⟩
    have hpos : 0 < l.length := List.length_pos_iff.2 hne
    by_cases h2 : (standsF l).1 = 2
    · rw [if_pos h2]
      have hst := standsF_whole hne
      have hg : 8 ≤ (standsF l).2 ∧ (standsF l).2 ≤ l.length := by
        by_cases hz : (wholeF l).1 = 0
        · rw [if_neg (by simpa using hz)] at hst
          rw [hst] at h2
          split at h2 <;> simp at h2
        · rw [if_pos hz] at hst
          rw [hst]
          obtain ⟨h4, h5, _⟩ := wholeF_good hz
          simp only
          omega
      obtain ⟨h4, h5⟩ := ih (pos + (standsF l).2) (l.drop (standsF l).2) (out ++ [⟨1, pos, (standsF l).2, (l.drop 4).take ((standsF l).2 - 8)⟩]) M (by rw [List.length_drop]; omega) (by rw [List.length_drop]; omega) (by
        intro x hx'
        rcases List.mem_append.1 hx' with h | h
        · exact hx x h
        · simp at h; subst h; simp only; omega)
      refine ⟨?_, h5⟩
      rw [h4, sizes_append, List.length_drop]
      simp [sizes]
      omega
    · rw [if_neg h2]
      obtain ⟨h4, h5⟩ := ih (pos + 1) (l.drop 1) (bump out pos) M (by rw [List.length_drop]; omega) (by rw [List.length_drop]; omega) (pos_bump hx (by omega))
      refine ⟨?_, h5⟩
      rw [h4, sizes_bump, List.length_drop]
      omega
theorem mfold_bs (base : Nat) (l : List Fr) : ∀ (st : List Fr × Nat × Nat), (mfold base st l).2.2 ≤ st.2.2 + sizes l ∧ (mfold base st l).1.length ≤ st.1.length + 2 * l.length := by
  induction l with
  | nil => intro st; exact ⟨Nat.le_refl _, Nat.le_refl _⟩
  | cons x l ih =>
    intro st
    obtain ⟨h1, h2⟩ := ih (mstep base st x)
    have hs : sizes (x :: l) = x.size + sizes l := by simp [sizes]
    have e : mfold base st (x :: l) = mfold base (mstep base st x) l := rfl
    rw [e, hs, List.length_cons]
    have h3 : (mstep base st x).2.2 ≤ st.2.2 + x.size ∧ (mstep base st x).1.length ≤ st.1.length + 2 := by
      unfold mstep
      split
      · exact ⟨Nat.le_refl _, Nat.le_add_right _ _⟩
      · refine ⟨Nat.zero_le _, ?_⟩
        unfold tellB
        split <;> simp
    omega
theorem sizes_take (l : List Fr) (i : Nat) : sizes (l.take i) ≤ sizes l := by
  have h := sizes_append (l.take i) (l.drop i)
  rw [List.take_append_drop] at h
  omega
theorem sizes_mem {l : List Fr} {i : Nat} {x : Fr} (h : l[i]? = some x) : sizes (l.take i) + x.size ≤ sizes l := by
  have hi := (List.getElem?_eq_some_iff.1 h).1
  have he := (List.getElem?_eq_some_iff.1 h).2
  have h1 := sizes_take l (i + 1)
  rw [List.take_succ_eq_append_getElem hi, sizes_append] at h1
  simp [sizes, he] at h1 ⊢
  omega
end Go.Proofs.YtmblghdiejneoaaGreat
