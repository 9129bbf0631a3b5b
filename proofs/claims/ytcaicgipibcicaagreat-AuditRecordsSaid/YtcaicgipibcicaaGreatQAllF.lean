/- Lists that grow by one struct: what append makes of them. -/
import Derived.Test.YtcaicgipibcicaaGreatQCells
namespace Go.Proofs.YtcaicgipibcicaaGreat
set_option maxRecDepth 100000
set_option linter.unusedVariables false
open Go.RowKit Go.Sort

theorem infos {P : Program} {e : TypeId} {z : Value} {s b : Nat} (h : (P.info? e).map (fun i => (i.zero, i.size, i.bytes)) = some (some z, s, b)) : ∃ i, P.info? e = some i ∧ i.zero = some z ∧ i.size = s ∧ i.bytes = b := by
  cases hq : P.info? e with
  | none => simp [hq] at h
  | some i =>
    simp [hq] at h
    exact ⟨i, rfl, h.1, h.2.1, h.2.2⟩
def zeroWait : Value := .agg #[.int .u8 0, .int .u8 0, .int .u8 0, .int .u8 0, .int .u8 0, .int .u8 0, .int .u8 0, .int .u8 0, .int .i16 0, .int .i16 0, .int .i16 0, .int .i16 0, .int .u8 0, .int .u8 0, .int .i64 0, .int .i64 0, .int .i64 0, .int .i64 0]
def zeroIdle : Value := .agg #[.int .u8 0, .int .u8 0, .int .u8 0, .int .u8 0, .int .u8 0, .int .u8 0, .int .u8 0, .int .u8 0, .int .i16 0, .int .i16 0, .int .u8 0, .int .u8 0, .int .i64 0, .int .i64 0]
def zeroEdge : Value := .agg #[.int .i64 0, .int .i64 0, .int .i64 0]
def zeroPair : Value := .agg #[.int .i64 0, .int .i64 0]
theorem info_wait : (Tryz.prog.info? 79).map (fun i => (i.zero, i.size, i.bytes)) = some (some zeroWait, 18, 56) := by kernel_rfl
theorem info_idle : (Tryz.prog.info? 83).map (fun i => (i.zero, i.size, i.bytes)) = some (some zeroIdle, 14, 32) := by kernel_rfl
theorem info_edge : (Tryz.prog.info? 114).map (fun i => (i.zero, i.size, i.bytes)) = some (some zeroEdge, 3, 24) := by kernel_rfl
theorem info_pair : (Tryz.prog.info? 69).map (fun i => (i.zero, i.size, i.bytes)) = some (some zeroPair, 2, 16) := by kernel_rfl
theorem info_int : (Tryz.prog.info? 3).map (fun i => (i.zero, i.size, i.bytes)) = some (some (.int .i64 0), 1, 8) := by kernel_rfl
theorem info_u8 : (Tryz.prog.info? 5).map (fun i => (i.zero, i.size, i.bytes)) = some (some (.int .u8 0), 1, 1) := by kernel_rfl

/-- One element that a literal has laid. -/
theorem Src.lit {P : Program} {w : World} {tx e : TypeId} (hk : P.underlying tx = some (.slice e)) (k : Nat) (xs : List Value) (hl : xs.length = k) (h1 : ∀ u ∈ xs, u.oneCell' = true) (cs : Array Value) (t : TypeId) (h : cs = xs.toArray) :
    Src P k tx (.slice (some ⟨w.heap.size, 0, none⟩) 1 1) 1 xs (w.alloc (.cells cs t)) := by
  subst h
  refine Src.ofSlice (P := P) _ hk _ _ 1 xs (by omega) (fun j u hu => ?_) h1
  have hadd : (⟨w.heap.size, 0, none⟩ : Addr).add j = ⟨w.heap.size, j, none⟩ := by unfold Addr.add; split <;> simp_all
  rw [hadd, World.cell?_alloc_mark]
  simpa using hu
theorem Src.litDrew {P : Program} {w : World} {tx e : TypeId} (hk : P.underlying tx = some (.slice e)) (k : Nat) (xs : List Value) (hl : xs.length = k) (h1 : ∀ u ∈ xs, u.oneCell' = true) (cs : Array Value) (t : TypeId) (h : cs = xs.toArray) :
    Src P k tx (.slice (some ⟨w.heap.size, 0, none⟩) 1 1) 1 xs (w.alloc (.cells cs t)).drew := by
  subst h
  refine Src.ofSlice (P := P) _ hk _ _ 1 xs (by omega) (fun j u hu => ?_) h1
  have hadd : (⟨w.heap.size, 0, none⟩ : Addr).add j = ⟨w.heap.size, j, none⟩ := by unfold Addr.add; split <;> simp_all
  rw [hadd]
  show (w.alloc (.cells xs.toArray t)).cell? ⟨w.heap.size, j, none⟩ = _
  rw [World.cell?_alloc_mark]
  simpa using hu
theorem PWait.cells_one (x : PWait) : ∀ u ∈ x.cells, u.oneCell' = true := by
  intro u hu
  simp only [PWait.cells, List.mem_cons, List.not_mem_nil, or_false] at hu
  rcases hu with rfl | rfl | rfl | rfl | rfl | rfl | rfl | rfl | rfl | rfl | rfl | rfl | rfl | rfl | rfl | rfl | rfl | rfl <;> rfl
theorem PIdle.cells_one (x : PIdle) : ∀ u ∈ x.cells, u.oneCell' = true := by
  intro u hu
  simp only [PIdle.cells, List.mem_cons, List.not_mem_nil, or_false] at hu
  rcases hu with rfl | rfl | rfl | rfl | rfl | rfl | rfl | rfl | rfl | rfl | rfl | rfl | rfl | rfl <;> rfl
theorem PEdge.cells_one (x : PEdge) : ∀ u ∈ x.cells, u.oneCell' = true := by
  intro u hu
  simp only [PEdge.cells, List.mem_cons, List.not_mem_nil, or_false] at hu
  rcases hu with rfl | rfl | rfl <;> rfl
theorem PPair.cells_one (x : PPair) : ∀ u ∈ x.cells, u.oneCell' = true := by
  intro u hu
  simp only [PPair.cells, List.mem_cons, List.not_mem_nil, or_false] at hu
  rcases hu with rfl | rfl <;> rfl
theorem icell_one (n : Int) : ∀ u ∈ icell n, u.oneCell' = true := by
  intro u hu
  simp only [icell, List.mem_cons, List.not_mem_nil, or_false] at hu
  subst hu; rfl
theorem cellsOf_one {α : Type} (f : α → List Value) (hf : ∀ a, ∀ u ∈ f a, u.oneCell' = true) (l : List α) : ∀ u ∈ cellsOf f l, u.oneCell' = true := by
  intro u hu
  simp only [cellsOf, List.mem_flatMap] at hu
  obtain ⟨a, _, h⟩ := hu
  exact hf a u h

/-- A list of structs that was begun in w1 and is its owner's alone. -/
structure Grown {α : Type} (w1 : World) (f : α → List Value) (k : Nat) (l : List α) (v : Value) (wr : World) : Prop where
  own : Own wr k v l.length (cellsOf f l)
  below : Below w1.heap.size w1 wr
  new : ∀ g, v.ownBlock = some g → w1.heap.size ≤ g
theorem Grown.begin {α : Type} (w1 : World) (f : α → List Value) (k : Nat) : Grown w1 f k [] (.slice none 0 0) w1 :=
  ⟨Own.nil _ _, Below.refl _ _, fun g h => by simp [Value.ownBlock] at h⟩
theorem Grown.next {α : Type} {w1 : World} {f : α → List Value} {k : Nat} {l : List α} {v : Value} {wr w2 : World} (h : Grown w1 f k l v wr) (hb : Below wr.heap.size wr w2) : Grown w1 f k l v w2 :=
  ⟨h.own.keep (Keep.of_below hb (Nat.le_refl _) (fun _ => False)) (fun _ _ => id), Below.next h.below hb, h.new⟩
theorem Grown.app {α : Type} {w1 : World} {f : α → List Value} {k : Nat} {l : List α} {x : α} {v : Value} {wr : World} (h : Grown w1 f k l v wr) {WY : World} (hy : Keep (fun _ => False) wr WY) {g cap M : Nat} {w' : World}
    (hown : Own w' k (.slice (some ⟨g, 0, none⟩) (l.length + 1) cap) (l.length + 1) (cellsOf f l ++ f x))
    (hc : (v.ownBlock = some g ∧ Keep (fun k => v.ownBlock = some k) WY w') ∨ (M ≤ g ∧ Keep (fun _ => False) WY w')) (hM : wr.heap.size ≤ M := by omega) :
    Grown w1 f k (l ++ [x]) (.slice (some ⟨g, 0, none⟩) (l.length + 1) cap) w' := by
  have hs := Nat.le_trans h.below.size hy.size
  refine ⟨?_, ?_, ?_⟩
  · rw [cellsOf_snoc, List.length_append]
    exact hown
  · rcases hc with ⟨_, hk⟩ | ⟨_, hk⟩
    · exact (h.below.trans (hy.below (B := w1.heap.size) h.below.size (fun _ _ => id))).trans (hk.below (Nat.le_trans h.below.size hy.size) (fun i hi hx => by have := h.new i hx; omega))
    · exact (h.below.trans (hy.below (B := w1.heap.size) h.below.size (fun _ _ => id))).trans (hk.below (Nat.le_trans h.below.size hy.size) (fun _ _ => id))
  · intro g' hg
    simp only [Value.ownBlock, Option.some.injEq] at hg
    subst hg
    rcases hc with ⟨hv, _⟩ | ⟨hg, _⟩
    · exact h.new _ hv
    · have := h.below.size; omega
/-- Its shape. -/
theorem Grown.shape {α : Type} {w1 : World} {f : α → List Value} {k : Nat} {l : List α} {v : Value} {wr : World} (h : Grown w1 f k l v wr) : ∃ ao cap, v = .slice ao l.length cap ∧ RdC wr ao (cellsOf f l) := by
  rcases h.own.2 with ⟨rfl, h0⟩ | ⟨g, cap, rfl, hn, hm, hr⟩
  · refine ⟨none, 0, by rw [h0], .inl ?_⟩
    have := h.own.1
    rw [h0, Nat.zero_mul] at this
    exact List.eq_nil_of_length_eq_zero this
  · exact ⟨_, cap, rfl, .inr ⟨g, 0, rfl, fun j u hu => by rw [Nat.zero_add]; exact hr.cell j u hu⟩⟩
end Go.Proofs.YtcaicgipibcicaaGreat

/- Graphs that may be; what a pair is worth. No program in sight. -/
namespace Go.Proofs.YtcaicgipibcicaaGreat
open Go.RowKit

def edgeIn (rows cols : Int) (x : PEdge) : Bool := decide (0 ≤ x.r ∧ x.r < rows ∧ 0 ≤ x.c ∧ x.c < cols ∧ 1 ≤ x.w ∧ x.w ≤ 1099513724929)
def edgeAfter (p x : PEdge) : Bool := decide (p.r < x.r ∨ (p.r = x.r ∧ p.c < x.c))
def edgeAt (rows cols : Int) (l : List PEdge) (i : Nat) : Bool := match l[i]? with
  | none => true
  | some x => edgeIn rows cols x && (match i with
    | 0 => true
    | j + 1 => match l[j]? with
      | none => true
      | some p => edgeAfter p x)
def hdrF (rows cols : Int) : Bool := decide (0 ≤ rows ∧ rows ≤ 64 ∧ 0 ≤ cols ∧ cols ≤ 64)
def graphF (rows cols : Int) (l : List PEdge) : Bool := hdrF rows cols && (List.range l.length).all (edgeAt rows cols l)
def graphE (rows cols : Int) (l : List PEdge) : Int := if graphF rows cols l then 0 else 170
theorem graphE_hdr {rows cols : Int} {l : List PEdge} (h : ¬ (0 ≤ rows ∧ rows ≤ 64 ∧ 0 ≤ cols ∧ cols ≤ 64)) : graphE rows cols l = 170 := by
  have : hdrF rows cols = false := by unfold hdrF; exact decide_eq_false h
  simp [graphE, graphF, this]
theorem graphE_bad {rows cols : Int} {l : List PEdge} {i : Nat} (hi : i < l.length) (h : edgeAt rows cols l i = false) : graphE rows cols l = 170 := by
  have : (List.range l.length).all (edgeAt rows cols l) = false := by
    rw [List.all_eq_false]
    exact ⟨i, List.mem_range.2 hi, by simp [h]⟩
  simp [graphE, graphF, this]
theorem graphE_good {rows cols : Int} {l : List PEdge} (h0 : 0 ≤ rows ∧ rows ≤ 64 ∧ 0 ≤ cols ∧ cols ≤ 64) (h : ∀ j, j < l.length → edgeAt rows cols l j = true) : graphE rows cols l = 0 := by
  have h1 : (List.range l.length).all (edgeAt rows cols l) = true := by
    rw [List.all_eq_true]
    intro x hx
    exact h x (List.mem_range.1 hx)
  have h2 : hdrF rows cols = true := by unfold hdrF; exact decide_eq_true h0
  simp [graphE, graphF, h1, h2]
theorem edgeAt_out {rows cols : Int} {l : List PEdge} {i : Nat} {x : PEdge} (hx : l[i]? = some x) (h : ¬ (0 ≤ x.r ∧ x.r < rows ∧ 0 ≤ x.c ∧ x.c < cols ∧ 1 ≤ x.w ∧ x.w ≤ 1099513724929)) : edgeAt rows cols l i = false := by
  have : edgeIn rows cols x = false := by unfold edgeIn; exact decide_eq_false h
  unfold edgeAt
  simp [hx, this]
theorem edgeAt_first {rows cols : Int} {l : List PEdge} {x : PEdge} (hx : l[0]? = some x) (h : 0 ≤ x.r ∧ x.r < rows ∧ 0 ≤ x.c ∧ x.c < cols ∧ 1 ≤ x.w ∧ x.w ≤ 1099513724929) : edgeAt rows cols l 0 = true := by
  have : edgeIn rows cols x = true := by unfold edgeIn; exact decide_eq_true h
  unfold edgeAt
  simp [hx, this]
theorem edgeAt_next {rows cols : Int} {l : List PEdge} {i : Nat} {p x : PEdge} (hp : l[i]? = some p) (hx : l[i + 1]? = some x) (h : 0 ≤ x.r ∧ x.r < rows ∧ 0 ≤ x.c ∧ x.c < cols ∧ 1 ≤ x.w ∧ x.w ≤ 1099513724929) : edgeAt rows cols l (i + 1) = edgeAfter p x := by
  have : edgeIn rows cols x = true := by unfold edgeIn; exact decide_eq_true h
  unfold edgeAt
  simp only [hx, this, hp, Bool.true_and]
theorem edgeAfter_no {p x : PEdge} (h : x.r < p.r ∨ (x.r = p.r ∧ x.c ≤ p.c)) : edgeAfter p x = false := by unfold edgeAfter; exact decide_eq_false (by omega)
theorem edgeAfter_yes {p x : PEdge} (h : ¬ (x.r < p.r ∨ (x.r = p.r ∧ x.c ≤ p.c))) : edgeAfter p x = true := by unfold edgeAfter; exact decide_eq_true (by omega)

/-- The edge ahead of place i; ahead of the first one the program lays -1. -/
def prevE (l : List PEdge) (i : Nat) : PEdge := match i with
  | 0 => ⟨-1, 0, 0⟩
  | j + 1 => l.getD j ⟨-1, 0, 0⟩
theorem edgeAt_prev {rows cols : Int} {l : List PEdge} {i : Nat} {x : PEdge} (hx : l[i]? = some x) (h : 0 ≤ x.r ∧ x.r < rows ∧ 0 ≤ x.c ∧ x.c < cols ∧ 1 ≤ x.w ∧ x.w ≤ 1099513724929) : edgeAt rows cols l i = edgeAfter (prevE l i) x := by
  cases i with
  | zero =>
    rw [edgeAt_first hx h]
    symm
    apply edgeAfter_yes
    simp only [prevE]
    omega
  | succ j =>
    have hj : j < l.length := by have := (List.getElem?_eq_some_iff.1 hx).1; omega
    have hp : l[j]? = some (l.getD j ⟨-1, 0, 0⟩) := by simp [hj]
    rw [edgeAt_next hp hx h]
    rfl
theorem edgeAt_bad {rows cols : Int} {l : List PEdge} {i : Nat} {x p : PEdge} (hx : l[i]? = some x) (hp : prevE l i = p) (h : ¬ (0 ≤ x.r ∧ x.r < rows ∧ 0 ≤ x.c ∧ x.c < cols ∧ 1 ≤ x.w ∧ x.w ≤ 1099513724929) ∨ x.r < p.r ∨ (x.r = p.r ∧ x.c ≤ p.c)) : edgeAt rows cols l i = false := by
  by_cases hin : 0 ≤ x.r ∧ x.r < rows ∧ 0 ≤ x.c ∧ x.c < cols ∧ 1 ≤ x.w ∧ x.w ≤ 1099513724929
  · rw [edgeAt_prev hx hin, hp]
    exact edgeAfter_no (h.resolve_left (fun k => k hin))
  · exact edgeAt_out hx hin
theorem edgeAt_ok {rows cols : Int} {l : List PEdge} {i : Nat} {x p : PEdge} (hx : l[i]? = some x) (hp : prevE l i = p) (hin : 0 ≤ x.r ∧ x.r < rows ∧ 0 ≤ x.c ∧ x.c < cols ∧ 1 ≤ x.w ∧ x.w ≤ 1099513724929) (h : p.r < x.r ∨ (x.r = p.r ∧ p.c < x.c)) : edgeAt rows cols l i = true := by
  rw [edgeAt_prev hx hin, hp]
  exact edgeAfter_yes (by omega)
theorem prevE_succ {l : List PEdge} {i : Nat} {x : PEdge} (hx : l[i]? = some x) : prevE l (i + 1) = x := by
  simp [prevE, hx]

/-! what a pair is worth -/
def tickB (n : Int) : Bool := decide (0 ≤ n ∧ n ≤ 1099511627776)
/-- The weight of one who waits, and the error. -/
def weightE (c : PConf) (now : Int) (w : PWait) (e : Int) : Int × Int :=
  if e ≠ 0 then (0, e) else if ¬ (0 ≤ now ∧ now ≤ 1099511627776 ∧ 0 ≤ w.since ∧ w.since ≤ 1099511627776 ∧ w.since ≤ now) then (0, 1) else if w.r.ttl < now - w.since then (0, 131)
  else ((now - w.since) * (c.b + 1) + w.r.base + 1, 0)
end Go.Proofs.YtcaicgipibcicaaGreat

/- Tests over all places of a list. No program in sight. -/
namespace Go.Proofs.YtcaicgipibcicaaGreat
open Go.RowKit

def allF (n : Nat) (p : Nat → Bool) : Bool := (List.range n).all p
theorem allF_bad {n : Nat} {p : Nat → Bool} {i : Nat} (hi : i < n) (h : p i = false) : allF n p = false := by
  unfold allF
  rw [List.all_eq_false]
  exact ⟨i, List.mem_range.2 hi, by simp [h]⟩
theorem allF_good {n : Nat} {p : Nat → Bool} (h : ∀ j, j < n → p j = true) : allF n p = true := by
  unfold allF
  rw [List.all_eq_true]
  intro x hx
  exact h x (List.mem_range.1 hx)
theorem allF_at {n : Nat} {p : Nat → Bool} (h : allF n p = true) {j : Nat} (hj : j < n) : p j = true := by
  unfold allF at h
  rw [List.all_eq_true] at h
  exact h j (List.mem_range.2 hj)
theorem allF_iff {n : Nat} {p : Nat → Bool} : allF n p = true ↔ ∀ j, j < n → p j = true := ⟨fun h _ hj => allF_at h hj, allF_good⟩
theorem allF_congr {n : Nat} {p q : Nat → Bool} (h : ∀ j, j < n → p j = q j) : allF n p = allF n q := by
  rw [Bool.eq_iff_iff, allF_iff, allF_iff]
  exact ⟨fun a j hj => by rw [← h j hj]; exact a j hj, fun a j hj => by rw [h j hj]; exact a j hj⟩
theorem upto_next {k : Nat} {p : Nat → Bool} (h : ∀ j, j < k → p j = true) (hk : p k = true) : ∀ j, j < k + 1 → p j = true := fun j hj => by
  rcases Nat.lt_succ_iff_lt_or_eq.1 hj with hj | rfl
  · exact h j hj
  · exact hk
theorem upto_none {p : Nat → Bool} : ∀ j, j < 0 → p j = true := fun j hj => absurd hj (Nat.not_lt_zero j)
end Go.Proofs.YtcaicgipibcicaaGreat
