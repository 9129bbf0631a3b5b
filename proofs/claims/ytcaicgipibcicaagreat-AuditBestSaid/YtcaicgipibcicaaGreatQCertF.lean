/- Lists that grow by one struct: what append makes of them. -/
import Derived.Test.YtcaicgipibcicaaGreatQCells
namespace Go.Proofs.YtcaicgipibcicaaGreat
set_option maxRecDepth 100000
set_option linter.unusedVariables false
open Go.RowKit Go.Sort

theorem infos {P : Program} {e : TypeId} {z : Value} {s b : Nat} (h : (P.info? e).map (fun i => (i.zero, i.size, i.bytes)) = some (some z, s, b)) : ∃ i, P.info? e = some i ∧ i.zero = some z ∧ i.size = s ∧ i.bytes = b := by
  cases hq : P.info? e with
  | none => simp [hq] at h
  | some i =>
    simp [hq] at h
    exact ⟨i, rfl, h.1, h.2.1, h.2.2⟩
def zeroWait : Value := .agg #[.int .u8 0, .int .u8 0, .int .u8 0, .int .u8 0, .int .u8 0, .int .u8 0, .int .u8 0, .int .u8 0, .int .i16 0, .int .i16 0, .int .i16 0, .int .i16 0, .int .u8 0, .int .u8 0, .int .i64 0, .int .i64 0, .int .i64 0, .int .i64 0]
def zeroIdle : Value := .agg #[.int .u8 0, .int .u8 0, .int .u8 0, .int .u8 0, .int .u8 0, .int .u8 0, .int .u8 0, .int .u8 0, .int .i16 0, .int .i16 0, .int .u8 0, .int .u8 0, .int .i64 0, .int .i64 0]
def zeroEdge : Value := .agg #[.int .i64 0, .int .i64 0, .int .i64 0]
def zeroPair : Value := .agg #[.int .i64 0, .int .i64 0]
theorem info_wait : (Tryz.prog.info? 79).map (fun i => (i.zero, i.size, i.bytes)) = some (some zeroWait, 18, 56) := by kernel_rfl
theorem info_idle : (Tryz.prog.info? 83).map (fun i => (i.zero, i.size, i.bytes)) = some (some zeroIdle, 14, 32) := by kernel_rfl
theorem info_edge : (Tryz.prog.info? 114).map (fun i => (i.zero, i.size, i.bytes)) = some (some zeroEdge, 3, 24) := by kernel_rfl
theorem info_pair : (Tryz.prog.info? 69).map (fun i => (i.zero, i.size, i.bytes)) = some (some zeroPair, 2, 16) := by kernel_rfl
theorem info_int : (Tryz.prog.info? 3).map (fun i => (i.zero, i.size, i.bytes)) = some (some (.int .i64 0), 1, 8) := by kernel_rfl
theorem info_u8 : (Tryz.prog.info? 5).map (fun i => (i.zero, i.size, i.bytes)) = some (some (.int .u8 0), 1, 1) := by kernel_rfl

/-- One element that a literal has laid. -/
theorem Src.lit {P : Program} {w : World} {tx e : TypeId} (hk : P.underlying tx = some (.slice e)) (k : Nat) (xs : List Value) (hl : xs.length = k) (h1 : ∀ u ∈ xs, u.oneCell' = true) (cs : Array Value) (t : TypeId) (h : cs = xs.toArray) :
    Src P k tx (.slice (some ⟨w.heap.size, 0, none⟩) 1 1) 1 xs (w.alloc (.cells cs t)) := by
  subst h
  refine Src.ofSlice (P := P) _ hk _ _ 1 xs (by omega) (fun j u hu => ?_) h1
  have hadd : (⟨w.heap.size, 0, none⟩ : Addr).add j = ⟨w.heap.size, j, none⟩ := by unfold Addr.add; split <;> simp_all
  rw [hadd, World.cell?_alloc_mark]
  simpa using hu
theorem Src.litDrew {P : Program} {w : World} {tx e : TypeId} (hk : P.underlying tx = some (.slice e)) (k : Nat) (xs : List Value) (hl : xs.length = k) (h1 : ∀ u ∈ xs, u.oneCell' = true) (cs : Array Value) (t : TypeId) (h : cs = xs.toArray) :
    Src P k tx (.slice (some ⟨w.heap.size, 0, none⟩) 1 1) 1 xs (w.alloc (.cells cs t)).drew := by
  subst h
  refine Src.ofSlice (P := P) _ hk _ _ 1 xs (by omega) (fun j u hu => ?_) h1
  have hadd : (⟨w.heap.size, 0, none⟩ : Addr).add j = ⟨w.heap.size, j, none⟩ := by unfold Addr.add; split <;> simp_all
  rw [hadd]
  show (w.alloc (.cells xs.toArray t)).cell? ⟨w.heap.size, j, none⟩ = _
  rw [World.cell?_alloc_mark]
  simpa using hu
theorem PWait.cells_one (x : PWait) : ∀ u ∈ x.cells, u.oneCell' = true := by
  intro u hu
  simp only [PWait.cells, List.mem_cons, List.not_mem_nil, or_false] at hu
  rcases hu with rfl | rfl | rfl | rfl | rfl | rfl | rfl | rfl | rfl | rfl | rfl | rfl | rfl | rfl | rfl | rfl | rfl | rfl <;> rfl
theorem PIdle.cells_one (x : PIdle) : ∀ u ∈ x.cells, u.oneCell' = true := by
  intro u hu
  simp only [PIdle.cells, List.mem_cons, List.not_mem_nil, or_false] at hu
  rcases hu with rfl | rfl | rfl | rfl | rfl | rfl | rfl | rfl | rfl | rfl | rfl | rfl | rfl | rfl <;> rfl
theorem PEdge.cells_one (x : PEdge) : ∀ u ∈ x.cells, u.oneCell' = true := by
  intro u hu
  simp only [PEdge.cells, List.mem_cons, List.not_mem_nil, or_false] at hu
  rcases hu with rfl | rfl | rfl <;> rfl
theorem PPair.cells_one (x : PPair) : ∀ u ∈ x.cells, u.oneCell' = true := by
  intro u hu
  simp only [PPair.cells, List.mem_cons, List.not_mem_nil, or_false] at hu
  rcases hu with rfl | rfl <;> rfl
theorem icell_one (n : Int) : ∀ u ∈ icell n, u.oneCell' = true := by
  intro u hu
  simp only [icell, List.mem_cons, List.not_mem_nil, or_false] at hu
  subst hu; rfl
theorem cellsOf_one {α : Type} (f : α → List Value) (hf : ∀ a, ∀ u ∈ f a, u.oneCell' = true) (l : List α) : ∀ u ∈ cellsOf f l, u.oneCell' = true := by
  intro u hu
  simp only [cellsOf, List.mem_flatMap] at hu
  obtain ⟨a, _, h⟩ := hu
  exact hf a u h

/-- A list of structs that was begun in w1 and is its owner's alone. -/
structure Grown {α : Type} (w1 : World) (f : α → List Value) (k : Nat) (l : List α) (v : Value) (wr : World) : Prop where
  own : Own wr k v l.length (cellsOf f l)
  below : Below w1.heap.size w1 wr
  new : ∀ g, v.ownBlock = some g → w1.heap.size ≤ g
theorem Grown.begin {α : Type} (w1 : World) (f : α → List Value) (k : Nat) : Grown w1 f k [] (.slice none 0 0) w1 :=
  ⟨Own.nil _ _, Below.refl _ _, fun g h => by simp [Value.ownBlock] at h⟩
theorem Grown.next {α : Type} {w1 : World} {f : α → List Value} {k : Nat} {l : List α} {v : Value} {wr w2 : World} (h : Grown w1 f k l v wr) (hb : Below wr.heap.size wr w2) : Grown w1 f k l v w2 :=
  ⟨h.own.keep (Keep.of_below hb (Nat.le_refl _) (fun _ => False)) (fun _ _ => id), Below.next h.below hb, h.new⟩
theorem Grown.app {α : Type} {w1 : World} {f : α → List Value} {k : Nat} {l : List α} {x : α} {v : Value} {wr : World} (h : Grown w1 f k l v wr) {WY : World} (hy : Keep (fun _ => False) wr WY) {g cap M : Nat} {w' : World}
    (hown : Own w' k (.slice (some ⟨g, 0, none⟩) (l.length + 1) cap) (l.length + 1) (cellsOf f l ++ f x))
    (hc : (v.ownBlock = some g ∧ Keep (fun k => v.ownBlock = some k) WY w') ∨ (M ≤ g ∧ Keep (fun _ => False) WY w')) (hM : wr.heap.size ≤ M := by omega) :
    Grown w1 f k (l ++ [x]) (.slice (some ⟨g, 0, none⟩) (l.length + 1) cap) w' := by
  have hs := Nat.le_trans h.below.size hy.size
  refine ⟨?_, ?_, ?_⟩
  · rw [cellsOf_snoc, List.length_append]
    exact hown
  · rcases hc with ⟨_, hk⟩ | ⟨_, hk⟩
    · exact (h.below.trans (hy.below (B := w1.heap.size) h.below.size (fun _ _ => id))).trans (hk.below (Nat.le_trans h.below.size hy.size) (fun i hi hx => by have := h.new i hx; omega))
    · exact (h.below.trans (hy.below (B := w1.heap.size) h.below.size (fun _ _ => id))).trans (hk.below (Nat.le_trans h.below.size hy.size) (fun _ _ => id))
  · intro g' hg
    simp only [Value.ownBlock, Option.some.injEq] at hg
    subst hg
    rcases hc with ⟨hv, _⟩ | ⟨hg, _⟩
    · exact h.new _ hv
    · have := h.below.size; omega
/-- Its shape. -/
theorem Grown.shape {α : Type} {w1 : World} {f : α → List Value} {k : Nat} {l : List α} {v : Value} {wr : World} (h : Grown w1 f k l v wr) : ∃ ao cap, v = .slice ao l.length cap ∧ RdC wr ao (cellsOf f l) := by
  rcases h.own.2 with ⟨rfl, h0⟩ | ⟨g, cap, rfl, hn, hm, hr⟩
  · refine ⟨none, 0, by rw [h0], .inl ?_⟩
    have := h.own.1
    rw [h0, Nat.zero_mul] at this
    exact List.eq_nil_of_length_eq_zero this
  · exact ⟨_, cap, rfl, .inr ⟨g, 0, rfl, fun j u hu => by rw [Nat.zero_add]; exact hr.cell j u hu⟩⟩
end Go.Proofs.YtcaicgipibcicaaGreat

/- Graphs that may be; what a pair is worth. No program in sight. -/
namespace Go.Proofs.YtcaicgipibcicaaGreat
open Go.RowKit

def edgeIn (rows cols : Int) (x : PEdge) : Bool := decide (0 ≤ x.r ∧ x.r < rows ∧ 0 ≤ x.c ∧ x.c < cols ∧ 1 ≤ x.w ∧ x.w ≤ 1099513724929)
def edgeAfter (p x : PEdge) : Bool := decide (p.r < x.r ∨ (p.r = x.r ∧ p.c < x.c))
def edgeAt (rows cols : Int) (l : List PEdge) (i : Nat) : Bool := match l[i]? with
  | none => true
  | some x => edgeIn rows cols x && (match i with
    | 0 => true
    | j + 1 => match l[j]? with
      | none => true
      | some p => edgeAfter p x)
def hdrF (rows cols : Int) : Bool := decide (0 ≤ rows ∧ rows ≤ 64 ∧ 0 ≤ cols ∧ cols ≤ 64)
def graphF (rows cols : Int) (l : List PEdge) : Bool := hdrF rows cols && (List.range l.length).all (edgeAt rows cols l)
def graphE (rows cols : Int) (l : List PEdge) : Int := if graphF rows cols l then 0 else 170
theorem graphE_hdr {rows cols : Int} {l : List PEdge} (h : ¬ (0 ≤ rows ∧ rows ≤ 64 ∧ 0 ≤ cols ∧ cols ≤ 64)) : graphE rows cols l = 170 := by
  have : hdrF rows cols = false := by unfold hdrF; exact decide_eq_false h
  simp [graphE, graphF, this]
theorem graphE_bad {rows cols : Int} {l : List PEdge} {i : Nat} (hi : i < l.length) (h : edgeAt rows cols l i = false) : graphE rows cols l = 170 := by
  have : (List.range l.length).all (edgeAt rows cols l) = false := by
    rw [List.all_eq_false]
    exact ⟨i, List.mem_range.2 hi, by simp [h]⟩
  simp [graphE, graphF, this]
theorem graphE_good {rows cols : Int} {l : List PEdge} (h0 : 0 ≤ rows ∧ rows ≤ 64 ∧ 0 ≤ cols ∧ cols ≤ 64) (h : ∀ j, j < l.length → edgeAt rows cols l j = true) : graphE rows cols l = 0 := by
  have h1 : (List.range l.length).all (edgeAt rows cols l) = true := by
    rw [List.all_eq_true]
    intro x hx
    exact h x (List.mem_range.1 hx)
  have h2 : hdrF rows cols = true := by unfold hdrF; exact decide_eq_true h0
  simp [graphE, graphF, h1, h2]
theorem edgeAt_out {rows cols : Int} {l : List PEdge} {i : Nat} {x : PEdge} (hx : l[i]? = some x) (h : ¬ (0 ≤ x.r ∧ x.r < rows ∧ 0 ≤ x.c ∧ x.c < cols ∧ 1 ≤ x.w ∧ x.w ≤ 1099513724929)) : edgeAt rows cols l i = false := by
  have : edgeIn rows cols x = false := by unfold edgeIn; exact decide_eq_false h
  unfold edgeAt
  simp [hx, this]
theorem edgeAt_first {rows cols : Int} {l : List PEdge} {x : PEdge} (hx : l[0]? = some x) (h : 0 ≤ x.r ∧ x.r < rows ∧ 0 ≤ x.c ∧ x.c < cols ∧ 1 ≤ x.w ∧ x.w ≤ 1099513724929) : edgeAt rows cols l 0 = true := by
  have : edgeIn rows cols x = true := by unfold edgeIn; exact decide_eq_true h
  unfold edgeAt
  simp [hx, this]
theorem edgeAt_next {rows cols : Int} {l : List PEdge} {i : Nat} {p x : PEdge} (hp : l[i]? = some p) (hx : l[i + 1]? = some x) (h : 0 ≤ x.r ∧ x.r < rows ∧ 0 ≤ x.c ∧ x.c < cols ∧ 1 ≤ x.w ∧ x.w ≤ 1099513724929) : edgeAt rows cols l (i + 1) = edgeAfter p x := by
  have : edgeIn rows cols x = true := by unfold edgeIn; exact decide_eq_true h
  unfold edgeAt
  simp only [hx, this, hp, Bool.true_and]
theorem edgeAfter_no {p x : PEdge} (h : x.r < p.r ∨ (x.r = p.r ∧ x.c ≤ p.c)) : edgeAfter p x = false := by unfold edgeAfter; exact decide_eq_false (by omega)
theorem edgeAfter_yes {p x : PEdge} (h : ¬ (x.r < p.r ∨ (x.r = p.r ∧ x.c ≤ p.c))) : edgeAfter p x = true := by unfold edgeAfter; exact decide_eq_true (by omega)

/-- The edge ahead of place i; ahead of the first one the program lays -1. -/
def prevE (l : List PEdge) (i : Nat) : PEdge := match i with
  | 0 => ⟨-1, 0, 0⟩
  | j + 1 => l.getD j ⟨-1, 0, 0⟩
theorem edgeAt_prev {rows cols : Int} {l : List PEdge} {i : Nat} {x : PEdge} (hx : l[i]? = some x) (h : 0 ≤ x.r ∧ x.r < rows ∧ 0 ≤ x.c ∧ x.c < cols ∧ 1 ≤ x.w ∧ x.w ≤ 1099513724929) : edgeAt rows cols l i = edgeAfter (prevE l i) x := by
  cases i with
  | zero =>
    rw [edgeAt_first hx h]
    symm
    apply edgeAfter_yes
    simp only [prevE]
    omega
  | succ j =>
    have hj : j < l.length := by have := (List.getElem?_eq_some_iff.1 hx).1; omega
    have hp : l[j]? = some (l.getD j ⟨-1, 0, 0⟩) := by simp [hj]
    rw [edgeAt_next hp hx h]
    rfl
theorem edgeAt_bad {rows cols : Int} {l : List PEdge} {i : Nat} {x p : PEdge} (hx : l[i]? = some x) (hp : prevE l i = p) (h : ¬ (0 ≤ x.r ∧ x.r < rows ∧ 0 ≤ x.c ∧ x.c < cols ∧ 1 ≤ x.w ∧ x.w ≤ 1099513724929) ∨ x.r < p.r ∨ (x.r = p.r ∧ x.c ≤ p.c)) : edgeAt rows cols l i = false := by
  by_cases hin : 0 ≤ x.r ∧ x.r < rows ∧ 0 ≤ x.c ∧ x.c < cols ∧ 1 ≤ x.w ∧ x.w ≤ 1099513724929
  · rw [edgeAt_prev hx hin, hp]
    exact edgeAfter_no (h.resolve_left (fun k => k hin))
  · exact edgeAt_out hx hin
theorem edgeAt_ok {rows cols : Int} {l : List PEdge} {i : Nat} {x p : PEdge} (hx : l[i]? = some x) (hp : prevE l i = p) (hin : 0 ≤ x.r ∧ x.r < rows ∧ 0 ≤ x.c ∧ x.c < cols ∧ 1 ≤ x.w ∧ x.w ≤ 1099513724929) (h : p.r < x.r ∨ (x.r = p.r ∧ p.c < x.c)) : edgeAt rows cols l i = true := by
  rw [edgeAt_prev hx hin, hp]
  exact edgeAfter_yes (by omega)
theorem prevE_succ {l : List PEdge} {i : Nat} {x : PEdge} (hx : l[i]? = some x) : prevE l (i + 1) = x := by
  simp [prevE, hx]

/-! what a pair is worth -/
def tickB (n : Int) : Bool := decide (0 ≤ n ∧ n ≤ 1099511627776)
/-- The weight of one who waits, and the error. -/
def weightE (c : PConf) (now : Int) (w : PWait) (e : Int) : Int × Int :=
  if e ≠ 0 then (0, e) else if ¬ (0 ≤ now ∧ now ≤ 1099511627776 ∧ 0 ≤ w.since ∧ w.since ≤ 1099511627776 ∧ w.since ≤ now) then (0, 1) else if w.r.ttl < now - w.since then (0, 131)
  else ((now - w.since) * (c.b + 1) + w.r.base + 1, 0)
end Go.Proofs.YtcaicgipibcicaaGreat

/- Tests over all places of a list. No program in sight. -/
namespace Go.Proofs.YtcaicgipibcicaaGreat
open Go.RowKit

def allF (n : Nat) (p : Nat → Bool) : Bool := (List.range n).all p
theorem allF_bad {n : Nat} {p : Nat → Bool} {i : Nat} (hi : i < n) (h : p i = false) : allF n p = false := by
  unfold allF
  rw [List.all_eq_false]
  exact ⟨i, List.mem_range.2 hi, by simp [h]⟩
theorem allF_good {n : Nat} {p : Nat → Bool} (h : ∀ j, j < n → p j = true) : allF n p = true := by
  unfold allF
  rw [List.all_eq_true]
  intro x hx
  exact h x (List.mem_range.1 hx)
theorem allF_at {n : Nat} {p : Nat → Bool} (h : allF n p = true) {j : Nat} (hj : j < n) : p j = true := by
  unfold allF at h
  rw [List.all_eq_true] at h
  exact h j (List.mem_range.2 hj)
theorem allF_iff {n : Nat} {p : Nat → Bool} : allF n p = true ↔ ∀ j, j < n → p j = true := ⟨fun h _ hj => allF_at h hj, allF_good⟩
theorem allF_congr {n : Nat} {p q : Nat → Bool} (h : ∀ j, j < n → p j = q j) : allF n p = allF n q := by
  rw [Bool.eq_iff_iff, allF_iff, allF_iff]
  exact ⟨fun a j hj => by rw [← h j hj]; exact a j hj, fun a j hj => by rw [h j hj]; exact a j hj⟩
theorem upto_next {k : Nat} {p : Nat → Bool} (h : ∀ j, j < k → p j = true) (hk : p k = true) : ∀ j, j < k + 1 → p j = true := fun j hj => by
  rcases Nat.lt_succ_iff_lt_or_eq.1 hj with hj | rfl
  · exact h j hj
  · exact hk
theorem upto_none {p : Nat → Bool} : ∀ j, j < 0 → p j = true := fun j hj => absurd hj (Nat.not_lt_zero j)
end Go.Proofs.YtcaicgipibcicaaGreat

/- Chapters 16 to 18 as plain functions: what a pair is worth in a graph, matchings, prices. No program in sight. -/
namespace Go.Proofs.YtcaicgipibcicaaGreat
open Go.RowKit

/-- Is it the edge of a row and a column? -/
def isE (r c : Int) (e : PEdge) : Bool := decide (e.r = r ∧ e.c = c)
/-- What the edge of a row and a column is worth; 0: there is none. -/
def worthAt (es : List PEdge) (r c : Int) : Int := match es.find? (isE r c) with
  | none => 0
  | some e => e.w
theorem worthAt_hit {es : List PEdge} {r c : Int} {k : Nat} {x : PEdge} (hx : es[k]? = some x) (h : x.r = r ∧ x.c = c) (hno : ∀ (j : Nat) (y : PEdge), j < k → es[j]? = some y → ¬ (y.r = r ∧ y.c = c)) : worthAt es r c = x.w := by
  have : es.find? (isE r c) = some x := by
    rw [List.find?_eq_some_iff_getElem]
    have hk := (List.getElem?_eq_some_iff.1 hx).1
    refine ⟨decide_eq_true h, k, hk, (List.getElem?_eq_some_iff.1 hx).2, fun j hj => ?_⟩
    have := hno j (es[j]'(by omega)) hj (List.getElem?_eq_getElem _)
    simp only [isE, decide_eq_false this, Bool.not_false]
  simp only [worthAt, this]
theorem worthAt_none {es : List PEdge} {r c : Int} (hno : ∀ (j : Nat) (y : PEdge), es[j]? = some y → ¬ (y.r = r ∧ y.c = c)) : worthAt es r c = 0 := by
  have : es.find? (isE r c) = none := by
    rw [List.find?_eq_none]
    intro y hy
    obtain ⟨j, hj, rfl⟩ := List.getElem_of_mem hy
    have := hno j _ (List.getElem?_eq_getElem hj)
    simp only [isE, decide_eq_false this, Bool.false_eq_true, not_false_eq_true]
  simp only [worthAt, this]
/-- Is there an edge? -/
def edgeIs (es : List PEdge) (r c : Int) : Bool := es.any (isE r c)

/-! graphs that may be -/
theorem graphF_hdr {rows cols : Int} {es : List PEdge} (h : graphF rows cols es = true) : 0 ≤ rows ∧ rows ≤ 64 ∧ 0 ≤ cols ∧ cols ≤ 64 := by
  unfold graphF at h
  rw [Bool.and_eq_true] at h
  exact of_decide_eq_true h.1
theorem graphF_at {rows cols : Int} {es : List PEdge} (h : graphF rows cols es = true) {i : Nat} {x : PEdge} (hx : es[i]? = some x) : 0 ≤ x.r ∧ x.r < rows ∧ 0 ≤ x.c ∧ x.c < cols ∧ 1 ≤ x.w ∧ x.w ≤ 1099513724929 := by
  unfold graphF at h
  rw [Bool.and_eq_true] at h
  have hi := (List.getElem?_eq_some_iff.1 hx).1
  have := (List.all_eq_true.1 h.2) i (List.mem_range.2 hi)
  unfold edgeAt at this
  simp only [hx, Bool.and_eq_true] at this
  exact of_decide_eq_true this.1
theorem graphF_next {rows cols : Int} {es : List PEdge} (h : graphF rows cols es = true) {i : Nat} {x y : PEdge} (hx : es[i]? = some x) (hy : es[i + 1]? = some y) : x.r < y.r ∨ (x.r = y.r ∧ x.c < y.c) := by
  have hin := graphF_at h hy
  unfold graphF at h
  rw [Bool.and_eq_true] at h
  have hi := (List.getElem?_eq_some_iff.1 hy).1
  have := (List.all_eq_true.1 h.2) (i + 1) (List.mem_range.2 hi)
  rw [edgeAt_next hx hy hin] at this
  exact of_decide_eq_true this
theorem graphF_rise {rows cols : Int} {es : List PEdge} (h : graphF rows cols es = true) : ∀ (d i : Nat) (x y : PEdge), es[i]? = some x → es[i + d + 1]? = some y → x.r < y.r ∨ (x.r = y.r ∧ x.c < y.c) := by
  intro d
  induction d with
  | zero => intro i x y hx hy; exact graphF_next h hx hy
  | succ d ih =>
    intro i x y hx hy
    have hl := (List.getElem?_eq_some_iff.1 hy).1
    have hm : es[i + d + 1]? = some (es[i + d + 1]'(by omega)) := List.getElem?_eq_getElem _
    have h1 := ih i x _ hx hm
    have h2 := graphF_next h hm hy
    omega
theorem graphF_lt {rows cols : Int} {es : List PEdge} (h : graphF rows cols es = true) {i j : Nat} (hij : i < j) {x y : PEdge} (hx : es[i]? = some x) (hy : es[j]? = some y) : x.r < y.r ∨ (x.r = y.r ∧ x.c < y.c) :=
  graphF_rise h (j - i - 1) i x y hx (by rw [show i + (j - i - 1) + 1 = j by omega]; exact hy)

/-- Is the edge ahead of the pair? -/
def aheadF (x : PEdge) (r c : Int) : Bool := decide (x.r < r ∨ (x.r = r ∧ x.c < c))
/-- What a search by halves has found: all ahead of low lie ahead, all from high on do not. -/
structure Halves (es : List PEdge) (r c : Int) (low high : Nat) : Prop where
  le : low ≤ high
  len : high ≤ es.length
  ahead : ∀ (j : Nat) (x : PEdge), j < low → es[j]? = some x → aheadF x r c = true
  behind : ∀ (j : Nat) (x : PEdge), high ≤ j → es[j]? = some x → aheadF x r c = false
theorem Halves.begin (es : List PEdge) (r c : Int) : Halves es r c 0 es.length :=
  ⟨Nat.zero_le _, Nat.le_refl _, fun j x h => absurd h (Nat.not_lt_zero j), fun j x h hx => by have := (List.getElem?_eq_some_iff.1 hx).1; omega⟩
theorem Halves.up {rows cols : Int} {es : List PEdge} {r c : Int} {low high m : Nat} (hg : graphF rows cols es = true) (h : Halves es r c low high) {x : PEdge} (hm : low ≤ m) (hm2 : m < high) (hx : es[m]? = some x) (ha : aheadF x r c = true) : Halves es r c (m + 1) high := by
  refine ⟨hm2, h.len, fun j y hj hy => ?_, h.behind⟩
  rcases Nat.lt_succ_iff_lt_or_eq.1 hj with hj | rfl
  · have h1 := graphF_lt hg hj hy hx
    have h2 := of_decide_eq_true ha
    exact decide_eq_true (by omega)
  · rw [hx] at hy; cases hy; exact ha
theorem Halves.down {rows cols : Int} {es : List PEdge} {r c : Int} {low high m : Nat} (hg : graphF rows cols es = true) (h : Halves es r c low high) {x : PEdge} (hm : low ≤ m) (hm2 : m < high) (hx : es[m]? = some x) (ha : aheadF x r c = false) : Halves es r c low m := by
  refine ⟨hm, by have := h.len; omega, h.ahead, fun j y hj hy => ?_⟩
  rcases Nat.lt_or_eq_of_le hj with hj | rfl
  · have h1 := graphF_lt hg hj hx hy
    have h2 := of_decide_eq_false ha
    exact decide_eq_false (by omega)
  · rw [hx] at hy; cases hy; exact ha
theorem Halves.hit {es : List PEdge} {r c : Int} {low : Nat} (h : Halves es r c low low) {x : PEdge} (hx : es[low]? = some x) (he : x.r = r ∧ x.c = c) : worthAt es r c = x.w :=
  worthAt_hit hx he (fun j y hj hy hh => by have := of_decide_eq_true (h.ahead j y hj hy); omega)
theorem Halves.miss {rows cols : Int} {es : List PEdge} {r c : Int} {low : Nat} (hg : graphF rows cols es = true) (h : Halves es r c low low) {x : PEdge} (hx : es[low]? = some x) (he : ¬ (x.r = r ∧ x.c = c)) : worthAt es r c = 0 := by
  refine worthAt_none fun j y hy hh => ?_
  rcases Nat.lt_trichotomy j low with hj | rfl | hj
  · have := of_decide_eq_true (h.ahead j y hj hy); omega
  · rw [hx] at hy; cases hy; exact he hh
  · have h1 := graphF_lt hg hj hx hy
    have h2 := of_decide_eq_false (h.behind low x (Nat.le_refl _) hx)
    omega
theorem Halves.past {es : List PEdge} {r c : Int} {low : Nat} (h : Halves es r c low low) (hl : es.length ≤ low) : worthAt es r c = 0 :=
  worthAt_none fun j y hy hh => by
    have := (List.getElem?_eq_some_iff.1 hy).1
    have := of_decide_eq_true (h.ahead j y (by omega) hy); omega

theorem worthAt_in {rows cols : Int} {es : List PEdge} (hg : graphF rows cols es = true) (r c : Int) : (worthAt es r c = 0 ∧ ∀ (j : Nat) (y : PEdge), es[j]? = some y → ¬ (y.r = r ∧ y.c = c)) ∨ (1 ≤ worthAt es r c ∧ worthAt es r c ≤ 1099513724929 ∧ 0 ≤ r ∧ r < rows ∧ 0 ≤ c ∧ c < cols ∧ ∃ (j : Nat) (y : PEdge), es[j]? = some y ∧ y.r = r ∧ y.c = c ∧ worthAt es r c = y.w) := by
  cases hf : es.find? (isE r c) with
  | none =>
    left
    refine ⟨by simp only [worthAt, hf], fun j y hy => ?_⟩
    have := List.find?_eq_none.1 hf y (List.mem_of_getElem? hy)
    exact fun h => this (decide_eq_true h)
  | some e =>
    right
    have hm := List.mem_of_find?_eq_some hf
    have hp1 : isE r c e = true := List.find?_some hf
    have hp := of_decide_eq_true hp1
    obtain ⟨j, hj, rfl⟩ := List.getElem_of_mem hm
    have := graphF_at hg (List.getElem?_eq_getElem hj)
    have hw : worthAt es r c = es[j].w := by simp only [worthAt, hf]
    rw [hw]
    exact ⟨by omega, by omega, by omega, by omega, by omega, by omega, j, _, List.getElem?_eq_getElem hj, hp.1, hp.2, rfl⟩
theorem edgeIs_eq {rows cols : Int} {es : List PEdge} (hg : graphF rows cols es = true) (r c : Int) : edgeIs es r c = decide (worthAt es r c ≠ 0) := by
  rcases worthAt_in hg r c with ⟨h0, hno⟩ | ⟨h1, _, _, _, _, _, j, y, hy, hr, hc, _⟩
  · rw [h0]
    have : edgeIs es r c = false := by
      unfold edgeIs
      rw [List.any_eq_false]
      intro x hx
      obtain ⟨j, hj, rfl⟩ := List.getElem_of_mem hx
      have := hno j _ (List.getElem?_eq_getElem hj)
      simp only [isE, decide_eq_false this, Bool.false_eq_true, not_false_eq_true]
    simp [this]
  · have : edgeIs es r c = true := by
      unfold edgeIs
      rw [List.any_eq_true]
      exact ⟨y, List.mem_of_getElem? hy, decide_eq_true ⟨hr, hc⟩⟩
    rw [this]
    exact (decide_eq_true (by omega)).symm

/-! matchings -/
/-- The row of the pair ahead; -1 ahead of the first one. -/
def prevR (ps : List PPair) (i : Nat) : Int := match i with
  | 0 => -1
  | j + 1 => (ps.getD j ⟨-1, 0⟩).r
theorem prevR_succ {ps : List PPair} {i : Nat} {x : PPair} (hx : ps[i]? = some x) : prevR ps (i + 1) = x.r := by simp [prevR, hx]
/-- Does no pair ahead of place i have the column? -/
def freeC (ps : List PPair) (i : Nat) (c : Int) : Bool := allF i (fun k => match ps[k]? with | none => true | some y => decide (y.c ≠ c))
def pairAt (es : List PEdge) (ps : List PPair) (i : Nat) : Bool := match ps[i]? with
  | none => true
  | some x => decide (prevR ps i < x.r) && decide (worthAt es x.r x.c ≠ 0) && freeC ps i x.c
def matchF (es : List PEdge) (ps : List PPair) : Bool := allF ps.length (pairAt es ps)
theorem pairAt_eq {es : List PEdge} {ps : List PPair} {i : Nat} {x : PPair} (hx : ps[i]? = some x) : pairAt es ps i = (decide (prevR ps i < x.r) && decide (worthAt es x.r x.c ≠ 0) && freeC ps i x.c) := by simp only [pairAt, hx]
theorem freeC_succ {ps : List PPair} {i : Nat} {x : PPair} (hx : ps[i]? = some x) (c : Int) : freeC ps (i + 1) c = (freeC ps i c && decide (x.c ≠ c)) := by
  unfold freeC allF
  rw [List.range_succ, List.all_append]
  simp [hx]
theorem freeC_zero (ps : List PPair) (c : Int) : freeC ps 0 c = true := rfl
theorem matchF_bad {es : List PEdge} {ps : List PPair} {i : Nat} {x : PPair} (hx : ps[i]? = some x) (h : pairAt es ps i = false) : matchF es ps = false := allF_bad (List.getElem?_eq_some_iff.1 hx).1 h
theorem matchF_at {es : List PEdge} {ps : List PPair} (h : matchF es ps = true) {i : Nat} {x : PPair} (hx : ps[i]? = some x) : prevR ps i < x.r ∧ worthAt es x.r x.c ≠ 0 ∧ freeC ps i x.c = true := by
  have := allF_at h (List.getElem?_eq_some_iff.1 hx).1
  rw [pairAt_eq hx, Bool.and_eq_true, Bool.and_eq_true] at this
  exact ⟨of_decide_eq_true this.1.1, of_decide_eq_true this.1.2, this.2⟩
/-- The rows of a matching rise. -/
theorem match_rows {rows cols : Int} {es : List PEdge} {ps : List PPair} (hg : graphF rows cols es = true) (h : matchF es ps = true) : ∀ (i : Nat) (x : PPair), ps[i]? = some x → (i : Int) ≤ x.r ∧ x.r < rows := by
  intro i
  induction i with
  | zero =>
    intro x hx
    obtain ⟨h1, h2, _⟩ := matchF_at h hx
    rcases worthAt_in hg x.r x.c with ⟨h0, _⟩ | ⟨_, _, h3, h4, _⟩
    · exact absurd h0 h2
    · omega
  | succ i ih =>
    intro x hx
    have hl := (List.getElem?_eq_some_iff.1 hx).1
    have hy : ps[i]? = some (ps[i]'(by omega)) := List.getElem?_eq_getElem _
    have := ih _ hy
    obtain ⟨h1, h2, _⟩ := matchF_at h hx
    rw [prevR_succ hy] at h1
    rcases worthAt_in hg x.r x.c with ⟨h0, _⟩ | ⟨_, _, h3, h4, _⟩
    · exact absurd h0 h2
    · omega
theorem match_len {rows cols : Int} {es : List PEdge} {ps : List PPair} (hg : graphF rows cols es = true) (h : matchF es ps = true) : ps.length ≤ 64 := by
  have hr := graphF_hdr hg
  cases hps : ps.length with
  | zero => omega
  | succ n =>
    have hx : ps[n]? = some (ps[n]'(by omega)) := List.getElem?_eq_getElem _
    have := match_rows hg h n _ hx
    omega
def pairsE (rows cols : Int) (es : List PEdge) (ps : List PPair) : Int := if graphF rows cols es then (if matchF es ps then 0 else 180) else 170

/-! prices -/
def allNat (l : List Int) : Bool := l.all (fun n => decide (0 ≤ n))
def priceAt (es : List PEdge) (ys zs : List Int) (i : Nat) : Bool := match es[i]? with
  | none => true
  | some x => decide (x.w - ys.getD x.r.toNat 0 ≤ zs.getD x.c.toNat 0)
def holdF (es : List PEdge) (ys zs : List Int) : Bool := allNat ys && allNat zs && allF es.length (priceAt es ys zs)
/-- The sum of a list, from n on; none: it is too great. -/
def sumF : Int → List Int → Option Int
  | n, [] => some n
  | n, p :: l => if 4611686018427387903 - n < p then none else sumF (n + p) l
def sumAll (ys zs : List Int) : Option Int := sumF 0 (ys ++ zs)
theorem sumF_append (l m : List Int) : ∀ n, sumF n (l ++ m) = (sumF n l).bind fun k => sumF k m := by
  induction l with
  | nil => intro n; simp [sumF]
  | cons p l ih => intro n; simp only [List.cons_append, sumF]; split <;> simp [ih]
def worthF (es : List PEdge) (ps : List PPair) : Int := (ps.map fun p => worthAt es p.r p.c).sum
/-- Lengths, prices, the gap. -/
def lengthsB (rows cols : Int) (ys zs : List Int) : Bool := decide ((ys.length : Int) = rows) && decide ((zs.length : Int) = cols)
def boundE (rows cols : Int) (es : List PEdge) (ys zs : List Int) : Int :=
  if lengthsB rows cols ys zs then (if holdF es ys zs then 0 else 181) else 1
def gapB (es : List PEdge) (ps : List PPair) (ys zs : List Int) : Bool := decide (sumAll ys zs = some (worthF es ps))
def certE (rows cols : Int) (es : List PEdge) (ps : List PPair) (ys zs : List Int) : Int :=
  if pairsE rows cols es ps ≠ 0 then pairsE rows cols es ps else if boundE rows cols es ys zs ≠ 0 then boundE rows cols es ys zs else if gapB es ps ys zs then 0 else 182
theorem sumF_snoc (l : List Int) (p n : Int) : sumF n (l ++ [p]) = (sumF n l).bind fun k => if 4611686018427387903 - k < p then none else some (k + p) := by
  rw [sumF_append]; rfl
theorem sumF_none_append {l m : List Int} {n : Int} (h : sumF n l = none) : sumF n (l ++ m) = none := by rw [sumF_append, h]; rfl
theorem sumF_in (l : List Int) : ∀ n, 0 ≤ n → n ≤ 4611686018427387903 → allNat l = true → ∀ k, sumF n l = some k → n ≤ k ∧ k ≤ 4611686018427387903 := by
  induction l with
  | nil => intro n h0 h1 _ k hk; simp only [sumF, Option.some.injEq] at hk; omega
  | cons p l ih =>
    intro n h0 h1 hn k hk
    simp only [allNat, List.all_cons, Bool.and_eq_true] at hn ih
    have hp := of_decide_eq_true hn.1
    simp only [sumF] at hk
    split at hk
    · cases hk
    · have := ih (n + p) (by omega) (by omega) hn.2 k hk
      omega
theorem worthF_snoc (es : List PEdge) (ps : List PPair) (x : PPair) : worthF es (ps ++ [x]) = worthF es ps + worthAt es x.r x.c := by simp [worthF]
theorem worthAt_bd {rows cols : Int} {es : List PEdge} (hg : graphF rows cols es = true) (r c : Int) : 0 ≤ worthAt es r c ∧ worthAt es r c ≤ 1099513724929 := by
  rcases worthAt_in hg r c with ⟨h0, _⟩ | ⟨h1, h2, _⟩ <;> omega
theorem worthF_bd {rows cols : Int} {es : List PEdge} (hg : graphF rows cols es = true) (ps : List PPair) : 0 ≤ worthF es ps ∧ worthF es ps ≤ 1099513724929 * ps.length := by
  induction ps with
  | nil => simp [worthF]
  | cons p ps ih =>
    have := worthAt_bd hg p.r p.c
    simp only [worthF, List.map_cons, List.sum_cons, List.length_cons] at ih ⊢
    omega
end Go.Proofs.YtcaicgipibcicaaGreat
