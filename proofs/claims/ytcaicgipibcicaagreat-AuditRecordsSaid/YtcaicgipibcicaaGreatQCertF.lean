/- Chapters 16 to 18 as plain functions: what a pair is worth in a graph, matchings, prices. No program in sight. -/
import Derived.Test.YtcaicgipibcicaaGreatQAllF
namespace Go.Proofs.YtcaicgipibcicaaGreat
open Go.RowKit

/-- Is it the edge of a row and a column? -/
def isE (r c : Int) (e : PEdge) : Bool := decide (e.r = r ∧ e.c = c)
/-- What the edge of a row and a column is worth; 0: there is none. -/
def worthAt (es : List PEdge) (r c : Int) : Int := match es.find? (isE r c) with
  | none => 0
  | some e => e.w
theorem worthAt_hit {es : List PEdge} {r c : Int} {k : Nat} {x : PEdge} (hx : es[k]? = some x) (h : x.r = r ∧ x.c = c) (hno : ∀ (j : Nat) (y : PEdge), j < k → es[j]? = some y → ¬ (y.r = r ∧ y.c = c)) : worthAt es r c = x.w := by
  have : es.find? (isE r c) = some x := by
    rw [List.find?_eq_some_iff_getElem]
    have hk := (List.getElem?_eq_some_iff.1 hx).1
    refine ⟨decide_eq_true h, k, hk, (List.getElem?_eq_some_iff.1 hx).2, fun j hj => ?_⟩
    have := hno j (es[j]'(by omega)) hj (List.getElem?_eq_getElem _)
    simp only [isE, decide_eq_false this, Bool.not_false]
  simp only [worthAt, this]
theorem worthAt_none {es : List PEdge} {r c : Int} (hno : ∀ (j : Nat) (y : PEdge), es[j]? = some y → ¬ (y.r = r ∧ y.c = c)) : worthAt es r c = 0 := by
  have : es.find? (isE r c) = none := by
    rw [List.find?_eq_none]
    intro y hy
    obtain ⟨j, hj, rfl⟩ := List.getElem_of_mem hy
    have := hno j _ (List.getElem?_eq_getElem hj)
    simp only [isE, decide_eq_false this, Bool.false_eq_true, not_false_eq_true]
  simp only [worthAt, this]
/-- Is there an edge? -/
def edgeIs (es : List PEdge) (r c : Int) : Bool := es.any (isE r c)

/-! graphs that may be -/
theorem graphF_hdr {rows cols : Int} {es : List PEdge} (h : graphF rows cols es = true) : 0 ≤ rows ∧ rows ≤ 64 ∧ 0 ≤ cols ∧ cols ≤ 64 := by
  unfold graphF at h
  rw [Bool.and_eq_true] at h
  exact of_decide_eq_true h.1
theorem graphF_at {rows cols : Int} {es : List PEdge} (h : graphF rows cols es = true) {i : Nat} {x : PEdge} (hx : es[i]? = some x) : 0 ≤ x.r ∧ x.r < rows ∧ 0 ≤ x.c ∧ x.c < cols ∧ 1 ≤ x.w ∧ x.w ≤ 1099513724929 := by
  unfold graphF at h
  rw [Bool.and_eq_true] at h
  have hi := (List.getElem?_eq_some_iff.1 hx).1
  have := (List.all_eq_true.1 h.2) i (List.mem_range.2 hi)
  unfold edgeAt at this
  simp only [hx, Bool.and_eq_true] at this
  exact of_decide_eq_true this.1
theorem graphF_next {rows cols : Int} {es : List PEdge} (h : graphF rows cols es = true) {i : Nat} {x y : PEdge} (hx : es[i]? = some x) (hy : es[i + 1]? = some y) : x.r < y.r ∨ (x.r = y.r ∧ x.c < y.c) := by
  have hin := graphF_at h hy
  unfold graphF at h
  rw [Bool.and_eq_true] at h
  have hi := (List.getElem?_eq_some_iff.1 hy).1
  have := (List.all_eq_true.1 h.2) (i + 1) (List.mem_range.2 hi)
  rw [edgeAt_next hx hy hin] at this
  exact of_decide_eq_true this
theorem graphF_rise {rows cols : Int} {es : List PEdge} (h : graphF rows cols es = true) : ∀ (d i : Nat) (x y : PEdge), es[i]? = some x → es[i + d + 1]? = some y → x.r < y.r ∨ (x.r = y.r ∧ x.c < y.c) := by
  intro d
  induction d with
  | zero => intro i x y hx hy; exact graphF_next h hx hy
  | succ d ih =>
    intro i x y hx hy
    have hl := (List.getElem?_eq_some_iff.1 hy).1
    have hm : es[i + d + 1]? = some (es[i + d + 1]'(by omega)) := List.getElem?_eq_getElem _
    have h1 := ih i x _ hx hm
    have h2 := graphF_next h hm hy
    omega
theorem graphF_lt {rows cols : Int} {es : List PEdge} (h : graphF rows cols es = true) {i j : Nat} (hij : i < j) {x y : PEdge} (hx : es[i]? = some x) (hy : es[j]? = some y) : x.r < y.r ∨ (x.r = y.r ∧ x.c < y.c) :=
  graphF_rise h (j - i - 1) i x y hx (by rw [show i + (j - i - 1) + 1 = j by omega]; exact hy)

/-- Is the edge ahead of the pair? -/
def aheadF (x : PEdge) (r c : Int) : Bool := decide (x.r < r ∨ (x.r = r ∧ x.c < c))
/-- What a search by halves has found: all ahead of low lie ahead, all from high on do not. -/
structure Halves (es : List PEdge) (r c : Int) (low high : Nat) : Prop where
  le : low ≤ high
  len : high ≤ es.length
  ahead : ∀ (j : Nat) (x : PEdge), j < low → es[j]? = some x → aheadF x r c = true
  behind : ∀ (j : Nat) (x : PEdge), high ≤ j → es[j]? = some x → aheadF x r c = false
theorem Halves.begin (es : List PEdge) (r c : Int) : Halves es r c 0 es.length :=
  ⟨Nat.zero_le _, Nat.le_refl _, fun j x h => absurd h (Nat.not_lt_zero j), fun j x h hx => by have := (List.getElem?_eq_some_iff.1 hx).1; omega⟩
theorem Halves.up {rows cols : Int} {es : List PEdge} {r c : Int} {low high m : Nat} (hg : graphF rows cols es = true) (h : Halves es r c low high) {x : PEdge} (hm : low ≤ m) (hm2 : m < high) (hx : es[m]? = some x) (ha : aheadF x r c = true) : Halves es r c (m + 1) high := by
  refine ⟨hm2, h.len, fun j y hj hy => ?_, h.behind⟩
  rcases Nat.lt_succ_iff_lt_or_eq.1 hj with hj | rfl
  · have h1 := graphF_lt hg hj hy hx
    have h2 := of_decide_eq_true ha
    exact decide_eq_true (by omega)
  · rw [hx] at hy; cases hy; exact ha
theorem Halves.down {rows cols : Int} {es : List PEdge} {r c : Int} {low high m : Nat} (hg : graphF rows cols es = true) (h : Halves es r c low high) {x : PEdge} (hm : low ≤ m) (hm2 : m < high) (hx : es[m]? = some x) (ha : aheadF x r c = false) : Halves es r c low m := by
  refine ⟨hm, by have := h.len; omega, h.ahead, fun j y hj hy => ?_⟩
  rcases Nat.lt_or_eq_of_le hj with hj | rfl
  · have h1 := graphF_lt hg hj hx hy
    have h2 := of_decide_eq_false ha
    exact decide_eq_false (by omega)
  · rw [hx] at hy; cases hy; exact ha
theorem Halves.hit {es : List PEdge} {r c : Int} {low : Nat} (h : Halves es r c low low) {x : PEdge} (hx : es[low]? = some x) (he : x.r = r ∧ x.c = c) : worthAt es r c = x.w :=
  worthAt_hit hx he (fun j y hj hy hh => by have := of_decide_eq_true (h.ahead j y hj hy); omega)
theorem Halves.miss {rows cols : Int} {es : List PEdge} {r c : Int} {low : Nat} (hg : graphF rows cols es = true) (h : Halves es r c low low) {x : PEdge} (hx : es[low]? = some x) (he : ¬ (x.r = r ∧ x.c = c)) : worthAt es r c = 0 := by
  refine worthAt_none fun j y hy hh => ?_
  rcases Nat.lt_trichotomy j low with hj | rfl | hj
  · have := of_decide_eq_true (h.ahead j y hj hy); omega
  · rw [hx] at hy; cases hy; exact he hh
  · have h1 := graphF_lt hg hj hx hy
    have h2 := of_decide_eq_false (h.behind low x (Nat.le_refl _) hx)
    omega
theorem Halves.past {es : List PEdge} {r c : Int} {low : Nat} (h : Halves es r c low low) (hl : es.length ≤ low) : worthAt es r c = 0 :=
  worthAt_none fun j y hy hh => by
    have := (List.getElem?_eq_some_iff.1 hy).1
    have := of_decide_eq_true (h.ahead j y (by omega) hy); omega

theorem worthAt_in {rows cols : Int} {es : List PEdge} (hg : graphF rows cols es = true) (r c : Int) : (worthAt es r c = 0 ∧ ∀ (j : Nat) (y : PEdge), es[j]? = some y → ¬ (y.r = r ∧ y.c = c)) ∨ (1 ≤ worthAt es r c ∧ worthAt es r c ≤ 1099513724929 ∧ 0 ≤ r ∧ r < rows ∧ 0 ≤ c ∧ c < cols ∧ ∃ (j : Nat) (y : PEdge), es[j]? = some y ∧ y.r = r ∧ y.c = c ∧ worthAt es r c = y.w) := by
  cases hf : es.find? (isE r c) with
  | none =>
    left
    refine ⟨by simp only [worthAt, hf], fun j y hy => ?_⟩
    have := List.find?_eq_none.1 hf y (List.mem_of_getElem? hy)
    exact fun h => this (decide_eq_true h)
  | some e =>
    right
    have hm := List.mem_of_find?_eq_some hf
    have hp1 : isE r c e = true := List.find?_some hf
    have hp := of_decide_eq_true hp1
    obtain ⟨j, hj, rfl⟩ := List.getElem_of_mem hm
    have := graphF_at hg (List.getElem?_eq_getElem hj)
    have hw : worthAt es r c = es[j].w := by simp only [worthAt, hf]
    rw [hw]
    exact ⟨by omega, by omega, by omega, by omega, by omega, by omega, j, _, List.getElem?_eq_getElem hj, hp.1, hp.2, rfl⟩
theorem edgeIs_eq {rows cols : Int} {es : List PEdge} (hg : graphF rows cols es = true) (r c : Int) : edgeIs es r c = decide (worthAt es r c ≠ 0) := by
  rcases worthAt_in hg r c with ⟨h0, hno⟩ | ⟨h1, _, _, _, _, _, j, y, hy, hr, hc, _⟩
  · rw [h0]
    have : edgeIs es r c = false := by
      unfold edgeIs
      rw [List.any_eq_false]
      intro x hx
      obtain ⟨j, hj, rfl⟩ := List.getElem_of_mem hx
      have := hno j _ (List.getElem?_eq_getElem hj)
      simp only [isE, decide_eq_false this, Bool.false_eq_true, not_false_eq_true]
    simp [this]
  · have : edgeIs es r c = true := by
      unfold edgeIs
      rw [List.any_eq_true]
      exact ⟨y, List.mem_of_getElem? hy, decide_eq_true ⟨hr, hc⟩⟩
    rw [this]
    exact (decide_eq_true (by omega)).symm

/-! matchings -/
/-- The row of the pair ahead; -1 ahead of the first one. -/
def prevR (ps : List PPair) (i : Nat) : Int := match i with
  | 0 => -1
  | j + 1 => (ps.getD j ⟨-1, 0⟩).r
theorem prevR_succ {ps : List PPair} {i : Nat} {x : PPair} (hx : ps[i]? = some x) : prevR ps (i + 1) = x.r := by simp [prevR, hx]
/-- Does no pair ahead of place i have the column? -/
def freeC (ps : List PPair) (i : Nat) (c : Int) : Bool := allF i (fun k => match ps[k]? with | none => true | some y => decide (y.c ≠ c))
def pairAt (es : List PEdge) (ps : List PPair) (i : Nat) : Bool := match ps[i]? with
  | none => true
  | some x => decide (prevR ps i < x.r) && decide (worthAt es x.r x.c ≠ 0) && freeC ps i x.c
def matchF (es : List PEdge) (ps : List PPair) : Bool := allF ps.length (pairAt es ps)
theorem pairAt_eq {es : List PEdge} {ps : List PPair} {i : Nat} {x : PPair} (hx : ps[i]? = some x) : pairAt es ps i = (decide (prevR ps i < x.r) && decide (worthAt es x.r x.c ≠ 0) && freeC ps i x.c) := by simp only [pairAt, hx]
theorem freeC_succ {ps : List PPair} {i : Nat} {x : PPair} (hx : ps[i]? = some x) (c : Int) : freeC ps (i + 1) c = (freeC ps i c && decide (x.c ≠ c)) := by
  unfold freeC allF
  rw [List.range_succ, List.all_append]
  simp [hx]
theorem freeC_zero (ps : List PPair) (c : Int) : freeC ps 0 c = true := rfl
theorem matchF_bad {es : List PEdge} {ps : List PPair} {i : Nat} {x : PPair} (hx : ps[i]? = some x) (h : pairAt es ps i = false) : matchF es ps = false := allF_bad (List.getElem?_eq_some_iff.1 hx).1 h
theorem matchF_at {es : List PEdge} {ps : List PPair} (h : matchF es ps = true) {i : Nat} {x : PPair} (hx : ps[i]? = some x) : prevR ps i < x.r ∧ worthAt es x.r x.c ≠ 0 ∧ freeC ps i x.c = true := by
  have := allF_at h (List.getElem?_eq_some_iff.1 hx).1
  rw [pairAt_eq hx, Bool.and_eq_true, Bool.and_eq_true] at this
  exact ⟨of_decide_eq_true this.1.1, of_decide_eq_true this.1.2, this.2⟩
/-- The rows of a matching rise. -/
theorem match_rows {rows cols : Int} {es : List PEdge} {ps : List PPair} (hg : graphF rows cols es = true) (h : matchF es ps = true) : ∀ (i : Nat) (x : PPair), ps[i]? = some x → (i : Int) ≤ x.r ∧ x.r < rows := by
  intro i
  induction i with
  | zero =>
    intro x hx
    obtain ⟨h1, h2, _⟩ := matchF_at h hx
    rcases worthAt_in hg x.r x.c with ⟨h0, _⟩ | ⟨_, _, h3, h4, _⟩
    · exact absurd h0 h2
    · omega
  | succ i ih =>
    intro x hx
    have hl := (List.getElem?_eq_some_iff.1 hx).1
    have hy : ps[i]? = some (ps[i]'(by omega)) := List.getElem?_eq_getElem _
    have := ih _ hy
    obtain ⟨h1, h2, _⟩ := matchF_at h hx
    rw [prevR_succ hy] at h1
    rcases worthAt_in hg x.r x.c with ⟨h0, _⟩ | ⟨_, _, h3, h4, _⟩
    · exact absurd h0 h2
    · omega
theorem match_len {rows cols : Int} {es : List PEdge} {ps : List PPair} (hg : graphF rows cols es = true) (h : matchF es ps = true) : ps.length ≤ 64 := by
  have hr := graphF_hdr hg
  cases hps : ps.length with
  | zero => omega
  | succ n =>
    have hx : ps[n]? = some (ps[n]'(by omega)) := List.getElem?_eq_getElem _
    have := match_rows hg h n _ hx
    omega
def pairsE (rows cols : Int) (es : List PEdge) (ps : List PPair) : Int := if graphF rows cols es then (if matchF es ps then 0 else 180) else 170

/-! prices -/
def allNat (l : List Int) : Bool := l.all (fun n => decide (0 ≤ n))
def priceAt (es : List PEdge) (ys zs : List Int) (i : Nat) : Bool := match es[i]? with
  | none => true
  | some x => decide (x.w - ys.getD x.r.toNat 0 ≤ zs.getD x.c.toNat 0)
def holdF (es : List PEdge) (ys zs : List Int) : Bool := allNat ys && allNat zs && allF es.length (priceAt es ys zs)
/-- The sum of a list, from n on; none: it is too great. -/
def sumF : Int → List Int → Option Int
  | n, [] => some n
  | n, p :: l => if 4611686018427387903 - n < p then none else sumF (n + p) l
def sumAll (ys zs : List Int) : Option Int := sumF 0 (ys ++ zs)
theorem sumF_append (l m : List Int) : ∀ n, sumF n (l ++ m) = (sumF n l).bind fun k => sumF k m := by
  induction l with
  | nil => intro n; simp [sumF]
  | cons p l ih => intro n; simp only [List.cons_append, sumF]; split <;> simp [ih]
def worthF (es : List PEdge) (ps : List PPair) : Int := (ps.map fun p => worthAt es p.r p.c).sum
/-- Lengths, prices, the gap. -/
def lengthsB (rows cols : Int) (ys zs : List Int) : Bool := decide ((ys.length : Int) = rows) && decide ((zs.length : Int) = cols)
def boundE (rows cols : Int) (es : List PEdge) (ys zs : List Int) : Int :=
  if lengthsB rows cols ys zs then (if holdF es ys zs then 0 else 181) else 1
def gapB (es : List PEdge) (ps : List PPair) (ys zs : List Int) : Bool := decide (sumAll ys zs = some (worthF es ps))
def certE (rows cols : Int) (es : List PEdge) (ps : List PPair) (ys zs : List Int) : Int :=
  if pairsE rows cols es ps ≠ 0 then pairsE rows cols es ps else if boundE rows cols es ys zs ≠ 0 then boundE rows cols es ys zs else if gapB es ps ys zs then 0 else 182
theorem sumF_snoc (l : List Int) (p n : Int) : sumF n (l ++ [p]) = (sumF n l).bind fun k => if 4611686018427387903 - k < p then none else some (k + p) := by
  rw [sumF_append]; rfl
theorem sumF_none_append {l m : List Int} {n : Int} (h : sumF n l = none) : sumF n (l ++ m) = none := by rw [sumF_append, h]; rfl
theorem sumF_in (l : List Int) : ∀ n, 0 ≤ n → n ≤ 4611686018427387903 → allNat l = true → ∀ k, sumF n l = some k → n ≤ k ∧ k ≤ 4611686018427387903 := by
  induction l with
  | nil => intro n h0 h1 _ k hk; simp only [sumF, Option.some.injEq] at hk; omega
  | cons p l ih =>
    intro n h0 h1 hn k hk
    simp only [allNat, List.all_cons, Bool.and_eq_true] at hn ih
    have hp := of_decide_eq_true hn.1
    simp only [sumF] at hk
    split at hk
    · cases hk
    · have := ih (n + p) (by omega) (by omega) hn.2 k hk
      omega
theorem worthF_snoc (es : List PEdge) (ps : List PPair) (x : PPair) : worthF es (ps ++ [x]) = worthF es ps + worthAt es x.r x.c := by simp [worthF]
theorem worthAt_bd {rows cols : Int} {es : List PEdge} (hg : graphF rows cols es = true) (r c : Int) : 0 ≤ worthAt es r c ∧ worthAt es r c ≤ 1099513724929 := by
  rcases worthAt_in hg r c with ⟨h0, _⟩ | ⟨h1, h2, _⟩ <;> omega
theorem worthF_bd {rows cols : Int} {es : List PEdge} (hg : graphF rows cols es = true) (ps : List PPair) : 0 ≤ worthF es ps ∧ worthF es ps ≤ 1099513724929 * ps.length := by
  induction ps with
  | nil => simp [worthF]
  | cons p ps ih =>
    have := worthAt_bd hg p.r p.c
    simp only [worthF, List.map_cons, List.sum_cons, List.length_cons] at ih ⊢
    omega
end Go.Proofs.YtcaicgipibcicaaGreat
