/- The Book in memory, and what it keeps. -/
import Derived.Test.YtmblghdiejneoaaGreatQHeld
import Derived.Test.YtmblghdiejneoaaGreatQBookF
import Derived.Test.YtmblghdiejneoaaGreatQRowSet
import Derived.Deep.RegionLaw
namespace Go.Proofs.YtmblghdiejneoaaGreat
set_option maxRecDepth 100000
open Go.RowKit

/-- Append onto an owned row, as one step of a region that draws. -/
theorem step_append_own {P : Program} {ops : Array Oper} {o : Oper} {a : Act} {w : World} {K : Act → World → Prop} {Q : Exit → Act → World → Prop} {E : Prop}
    (hg : o.guard = none) (s x : Operand) (t tx : TypeId) (hop : o.op = Op.call { callee := Callee.builtin Builtin.append, args := #[s, x], argTypes := #[t, tx] })
    (e : TypeId) (i : TypeInfo) (z : Value) (size bytes : Nat) (ht : P.underlying t = some (.slice e)) (hi : P.info? e = some i) (hz : i.zero = some z) (hsize : i.size = size) (hby : i.bytes = bytes) (hzs : z.cells.size = size)
    (v : Value) (n : Nat) (xs : List Value) (hs : a.eval s = v) (hown : Own w size v n xs) (xv : Value) (m : Nat) (news : List Value) (hx : a.eval x = xv) (hsrc : Src P size tx xv m news w)
    (h63 : n + m ≤ maxLen) (hbytes : (n + m) * bytes ≤ 140737488355328)
    (hK : ∀ ao cap w', Own w' size (.slice ao (n + m) cap) (n + m) (xs ++ news) → Keep (fun k => v.ownBlock = some k) w w' → ((Value.slice ao (n + m) cap).ownBlock = v.ownBlock ∨ ∃ g, (Value.slice ao (n + m) cap).ownBlock = some g ∧ w.heap.size ≤ g) → K (a.put o.dst (.slice ao (n + m) cap)) w') :
    if Region.wanted o (yielded ops a.tmps) = true then Oper.wp P o a w K Q else E := by
  have hw : Region.wanted o (yielded ops a.tmps) = true := by simp [Region.wanted, hg]
  rw [if_pos hw]
  obtain ⟨v', w', hr, h2, h3, h4, h5⟩ := run_append_any (P := P) w t tx o.type e i z size bytes ht hi hz hsize hby hzs v n xs hown xv m news hsrc h63 hbytes
  obtain ⟨ao, cap, hv⟩ : ∃ ao cap, v' = .slice ao (n + m) cap := by
    rcases h2.2 with ⟨h, h0⟩ | ⟨g, c, h, _⟩
    · exact ⟨none, 0, by rw [h, h0]⟩
    · exact ⟨_, _, h⟩
  subst hv
  unfold Oper.wp
  simp [execOp, hop, resolve, invoke, builtin, hs, hx, hr, Result.andThen]
  exact hK _ _ _ h2 h3 h4

/-- The Book's cells: how many lists it keeps, those of bytes, those of frames. -/
def bookCells (n : Nat) (B F : Value) : Array Value :=
  #[.int .i64 n, .slice none 0 0, B, .slice none 0 0, .slice none 0 0, .slice none 0 0, .slice none 0 0, .slice none 0 0, .slice none 0 0, .slice none 0 0, .slice none 0 0, .slice none 0 0, .slice none 0 0,
    .slice none 0 0, .slice none 0 0, .slice none 0 0, .slice none 0 0, .slice none 0 0, .slice none 0 0, .slice none 0 0, F, .slice none 0 0, .slice none 0 0, .slice none 0 0, .slice none 0 0, .slice none 0 0]
def BookAt (w : World) (K n : Nat) (B F : Value) : Prop := w.heap[K]? = some (.cells (bookCells n B F) 54 (0, 0))
theorem info_hf : (Tryz.prog.info? 105).map (fun i => (i.zero, i.size, i.bytes)) = some (some (.agg #[.slice none 0 0, .slice none 0 0, .int .i64 0]), 3, 56) := by kernel_rfl
theorem book_cells {w : World} {K n : Nat} {B F : Value} (h : BookAt w K n B F) : w.cell? ⟨K, 0, none⟩ = some (.int .i64 n) ∧ w.cell? ⟨K, 2, none⟩ = some B ∧ w.cell? ⟨K, 20, none⟩ = some F ∧ (∀ j, w.frozen? ⟨K, j, none⟩ = false) ∧ K < w.heap.size := by
  unfold BookAt at h
  refine ⟨?_, ?_, ?_, fun j => ?_, lt_of_block h⟩ <;> simp [World.cell?, World.frozen?, h, bookCells]
theorem info_hb : (Tryz.prog.info? 107).map (fun i => (i.zero, i.size, i.bytes)) = some (some (.agg #[.slice none 0 0, .slice none 0 0, .int .i64 0]), 3, 56) := by kernel_rfl

/-- Three values that a literal has laid. -/
theorem Src.three {P : Program} {w : World} {tx e : TypeId} (hk : P.underlying tx = some (.slice e)) (a b c : Value) (ha : a.oneCell' = true) (hb : b.oneCell' = true) (hc : c.oneCell' = true) (cs : Array Value) (t : TypeId) (h : cs = #[a, b, c]) : Src P 3 tx (.slice (some ⟨w.heap.size, 0, none⟩) 1 1) 1 [a, b, c] (w.alloc (.cells cs t)).drew := by
  subst h
  refine Src.ofSlice (P := P) _ hk _ _ 1 [a, b, c] rfl (fun j u' hu' => ?_) (fun u' hu' => by simp at hu'; rcases hu' with rfl | rfl | rfl <;> assumption)
  have hadd : (⟨w.heap.size, 0, none⟩ : Addr).add j = ⟨w.heap.size, j, none⟩ := by unfold Addr.add; split <;> simp_all
  rw [hadd]
  show (w.alloc (.cells #[a, b, c] t)).cell? ⟨w.heap.size, j, none⟩ = _
  rw [World.cell?_alloc_mark]
  simpa using hu'

theorem Keep.past {X : Nat → Prop} {w w2 : World} {o : Obj} (h : Keep X (w.alloc o).drew w2) : Keep X w w2 :=
  ((Keep.alloc (fun _ => False) w o).trans (Keep.drew (fun _ => False) _) (fun _ _ h => h) (fun _ _ h => h)).trans h (fun _ _ h => h.elim) (fun _ _ h => h)
theorem ge_past {v F : Value} {w : World} {o : Obj} (h : v.ownBlock = F.ownBlock ∨ ∃ g, v.ownBlock = some g ∧ (w.alloc o).drew.heap.size ≤ g) : v.ownBlock = F.ownBlock ∨ ∃ g, v.ownBlock = some g ∧ w.heap.size ≤ g := by
  rcases h with h | ⟨g, h, hg⟩
  · exact .inl h
  · refine .inr ⟨g, h, ?_⟩
    have : (w.alloc o).drew.heap.size = w.heap.size + 1 := by show (w.alloc o).heap.size = _; simp
    omega

/-- What a Book at K keeps in one of its rows F: lists apart from each other, from the row, from the Book. -/
structure Kept (K : Nat) (F : Value) (f : Nat → Held) (m : Nat) : Prop where
  apart : ∀ i j, i < m → j < m → ¬ i = j → ∀ g, (f i).v.ownBlock = some g → ¬ (f j).v.ownBlock = some g
  off : ∀ i, i < m → ∀ g, (f i).v.ownBlock = some g → ¬ g = K ∧ ¬ F.ownBlock = some g
  book : ∀ g, F.ownBlock = some g → ¬ g = K
  small : m ≤ 10000000
  num : ∀ i, i < m → (f i).n ≤ 10000000
  len : ∀ i, i < m → (f i).k ≤ 100000000000

theorem Own.cellAt {w : World} {size g cap n : Nat} {xs : List Value} (h : Own w size (.slice (some ⟨g, 0, none⟩) n cap) n xs) {j : Nat} {u : Value} (hj : xs[j]? = some u) : w.cell? ⟨g, j, none⟩ = some u := by
  rcases h.2 with ⟨h0, _⟩ | ⟨g', cap', he, hn, hm, hr⟩
  · cases h0
  · cases he
    exact hr.cell _ _ hj
theorem Own.freeAt {w : World} {size g cap n : Nat} {xs : List Value} (h : Own w size (.slice (some ⟨g, 0, none⟩) n cap) n xs) {j : Nat} (hj : j < n * size) : w.frozen? ⟨g, j, none⟩ = false := by
  rcases h.2 with ⟨h0, _⟩ | ⟨g', cap', he, hn, hm, hr⟩
  · cases h0
  · cases he
    exact hr.free _ (Nat.lt_of_lt_of_le hj (Nat.mul_le_mul_right _ hn))
theorem Own.set {w : World} {size g cap n : Nat} {xs : List Value} (h : Own w size (.slice (some ⟨g, 0, none⟩) n cap) n xs) (j : Nat) (v : Value) (hj : j < n * size) : Own (w.setCell ⟨g, j, none⟩ v) size (.slice (some ⟨g, 0, none⟩) n cap) n (xs.set j v) := by
  rcases h.2 with ⟨h0, _⟩ | ⟨g', cap', he, hn, hm, hr⟩
  · cases h0
  · cases he
    exact ⟨by rw [List.length_set]; exact h.1, .inr ⟨g, cap, rfl, hn, hm, hr.set j v (Nat.lt_of_lt_of_le hj (Nat.mul_le_mul_right _ hn))⟩⟩
end Go.Proofs.YtmblghdiejneoaaGreat
