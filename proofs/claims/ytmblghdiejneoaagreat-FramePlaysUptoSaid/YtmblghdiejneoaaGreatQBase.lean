/- Plain words: the check sum over bytes, and how a slice of bytes reads in memory. No program in sight. -/
import Derived.WalkKit
import Derived.WalkSpells
namespace Go.Proofs.YtmblghdiejneoaaGreat
open Go.RowKit

/-! ### the check sum -/
def crcBit (c : Nat) : Nat := if c % 2 = 1 then (c / 2) ^^^ 3988292384 else c / 2
def crcIt : Nat → Nat → Nat
  | 0, c => c
  | k + 1, c => crcBit (crcIt k c)
def crcByte (c b : Nat) : Nat := crcIt 8 (c ^^^ b)
def crcAcc (l : List UInt8) : Nat := l.foldl (fun c b => crcByte c b.toNat) 4294967295
def crc (l : List UInt8) : Nat := 4294967295 - crcAcc l

theorem crcBit_lt {c : Nat} (h : c < 4294967296) : crcBit c < 4294967296 := by
  unfold crcBit
  split
  · exact Nat.xor_lt_two_pow (n := 32) (by omega) (by decide)
  · omega
theorem crcIt_lt (k : Nat) {c : Nat} (h : c < 4294967296) : crcIt k c < 4294967296 := by
  induction k with
  | zero => exact h
  | succ k ih => exact crcBit_lt ih
theorem crcByte_lt {c b : Nat} (h : c < 4294967296) (hb : b < 256) : crcByte c b < 4294967296 :=
  crcIt_lt 8 (Nat.xor_lt_two_pow (n := 32) (by omega) (by omega))
theorem crcFold_lt (l : List UInt8) : ∀ c, c < 4294967296 → l.foldl (fun c b => crcByte c b.toNat) c < 4294967296 := by
  induction l with
  | nil => intro c h; exact h
  | cons b l ih => intro c h; exact ih _ (crcByte_lt h b.toNat_lt)
theorem crcAcc_lt (l : List UInt8) : crcAcc l < 4294967296 := crcFold_lt l _ (by decide)
theorem crc_lt (l : List UInt8) : crc l < 4294967296 := by unfold crc; omega
theorem crcAcc_snoc (l : List UInt8) (b : UInt8) : crcAcc (l ++ [b]) = crcByte (crcAcc l) b.toNat := by
  simp [crcAcc, List.foldl_append]

theorem u8_beq (x y : UInt8) : ((x.toNat : Int) == (y.toNat : Int)) = (x == y) := by
  by_cases h : x = y
  · subst h; simp
  · have : ¬ (x.toNat : Int) = (y.toNat : Int) := fun e => h (UInt8.toNat_inj.1 (by omega))
    rw [beq_eq_false_iff_ne.2 this, beq_eq_false_iff_ne.2 h]

/-! ### bytes in memory -/
/-- At 'ao' the bytes l lie (nothing is said where there are none). -/
def Rd (w : World) (ao : Option Addr) (l : List UInt8) : Prop :=
  l = [] ∨ ∃ b o, ao = some ⟨b, o, none⟩ ∧ ∀ i (h : i < l.length), w.cell? ⟨b, o + i, none⟩ = some (.int .u8 (l[i].toNat : Int))

/-- The cells of bytes. -/
def bcells (l : List UInt8) : List Value := l.map fun b => Value.int .u8 (b.toNat : Int)
@[simp] theorem bcells_length (l : List UInt8) : (bcells l).length = l.length := by simp [bcells]
theorem bcells_append (l m : List UInt8) : bcells (l ++ m) = bcells l ++ bcells m := by simp [bcells]
theorem bcells_oneCell (l : List UInt8) : ∀ u ∈ bcells l, u.oneCell' = true := by
  intro u hu
  simp only [bcells, List.mem_map] at hu
  obtain ⟨b, _, rfl⟩ := hu
  rfl
theorem bcells_get (l : List UInt8) (j : Nat) (u : Value) (h : (bcells l)[j]? = some u) : ∃ hj : j < l.length, u = .int .u8 (l[j].toNat : Int) := by
  have hj : j < l.length := by
    have := (List.getElem?_eq_some_iff.1 h).1
    simpa using this
  refine ⟨hj, ?_⟩
  simp [bcells, hj] at h
  exact h.symm

/-- A world that keeps every old block but those of X. -/
structure Keep (X : Nat → Prop) (w w' : World) : Prop where
  os : w'.os = w.os
  tape : w'.tape = w.tape
  output : w'.output = w.output
  size : w.heap.size ≤ w'.heap.size
  block : ∀ k, k < w.heap.size → ¬ X k → w'.heap[k]? = w.heap[k]?

theorem Keep.refl (X : Nat → Prop) (w : World) : Keep X w w := ⟨rfl, rfl, rfl, Nat.le_refl _, fun _ _ _ => rfl⟩
theorem Keep.trans {X Y Z : Nat → Prop} {a b c : World} (h : Keep X a b) (k : Keep Y b c) (hx : ∀ i, i < a.heap.size → X i → Z i) (hy : ∀ i, i < a.heap.size → Y i → Z i) : Keep Z a c :=
  ⟨k.os.trans h.os, k.tape.trans h.tape, k.output.trans h.output, Nat.le_trans h.size k.size,
   fun i hi hz => (k.block i (Nat.lt_of_lt_of_le hi h.size) (fun y => hz (hy i hi y))).trans (h.block i hi (fun x => hz (hx i hi x)))⟩
theorem Keep.mono {X Z : Nat → Prop} {a b : World} (h : Keep X a b) (hx : ∀ i, i < a.heap.size → X i → Z i) : Keep Z a b :=
  ⟨h.os, h.tape, h.output, h.size, fun i hi hz => h.block i hi (fun x => hz (hx i hi x))⟩
theorem Keep.of_below {B : Nat} {a b : World} (h : Below B a b) (hB : a.heap.size ≤ B) (X : Nat → Prop) : Keep X a b :=
  ⟨h.os, h.tape, h.output, h.size, fun i hi _ => h.block i (Nat.lt_of_lt_of_le hi hB)⟩
theorem Keep.below {X : Nat → Prop} {a b : World} (h : Keep X a b) {B : Nat} (hB : B ≤ a.heap.size) (hx : ∀ i, i < B → ¬ X i) : Below B a b :=
  ⟨h.os, h.tape, h.output, h.size, fun i hi => h.block i (Nat.lt_of_lt_of_le hi hB) (hx i hi)⟩
theorem Keep.of_grown {w w' : World} {row : Option Nat} (h : w.grownBy w' row) : Keep (fun k => some k = row) w w' :=
  ⟨h.os, h.tape, h.output, h.size, fun k hk hx => h.block k hk hx⟩
theorem Keep.cell {X : Nat → Prop} {w w' : World} (h : Keep X w w') {p : Addr} {v : Value} (hv : w.cell? p = some v) (hx : ¬ X p.block) : w'.cell? p = some v :=
  (World.cell?_of_block (w := w) (h.block p.block (World.block_lt_of_cell? w p hv) hx)).trans hv
theorem Keep.old {X : Nat → Prop} {w w' : World} (h : Keep X w w') {b : Nat} {o : Obj} (hb : w.heap[b]? = some o) (hx : ¬ X b) : w'.heap[b]? = some o :=
  (h.block b (lt_of_block hb) hx).trans hb
theorem Keep.rd {X : Nat → Prop} {w w' : World} (h : Keep X w w') {ao : Option Addr} {l : List UInt8} (hr : Rd w ao l) (hx : ∀ b o, ao = some ⟨b, o, none⟩ → ¬ X b) : Rd w' ao l := by
  rcases hr with h0 | ⟨b, o, rfl, hc⟩
  · exact .inl h0
  · exact .inr ⟨b, o, rfl, fun i hi => h.cell (hc i hi) (hx b o rfl)⟩
theorem Keep.rd' {X : Nat → Prop} {w w' : World} (h : Keep X w w') {ao : Option Addr} {l : List UInt8} (hr : Rd w ao l) (hx : l ≠ [] → ∀ b o, ao = some ⟨b, o, none⟩ → ¬ X b) : Rd w' ao l := by
  by_cases hl : l = []
  · exact .inl hl
  · exact h.rd hr (hx hl)
theorem Below.rd {B : Nat} {w w' : World} (h : Below B w w') {ao : Option Addr} {l : List UInt8} (hr : Rd w ao l) (hB : w.heap.size ≤ B) : Rd w' ao l :=
  (Keep.of_below h hB (fun _ => False)).rd hr (fun _ _ _ => id)
theorem Below.next {w a w1 : World} (h : Below w.heap.size w a) (k : Below a.heap.size a w1) : Below w.heap.size w w1 := h.trans (k.mono h.size)
/-- What stands below stays. -/
theorem below_rd {B : Nat} {w w' : World} (h : Below B w w') {ao : Option Addr} {l : List UInt8} (hr : Rd w ao l) (hb : ∀ b o, ao = some ⟨b, o, none⟩ → b < B) : Rd w' ao l := by
  rcases hr with h0 | ⟨b, o, rfl, hc⟩
  · exact .inl h0
  · exact .inr ⟨b, o, rfl, fun i hi => (h.cell (p := ⟨b, o + i, none⟩) (hb b o rfl)).trans (hc i hi)⟩
theorem Rd.lt {w : World} {ao : Option Addr} {l : List UInt8} (hr : Rd w ao l) (h : l ≠ []) : ∃ b o, ao = some ⟨b, o, none⟩ ∧ b < w.heap.size := by
  rcases hr with h0 | ⟨b, o, rfl, hc⟩
  · exact absurd h0 h
  · have : 0 < l.length := List.length_pos_iff.2 h
    exact ⟨b, o, rfl, World.block_lt_of_cell? w _ (hc 0 this)⟩
theorem Rd.take {w : World} {ao : Option Addr} {l : List UInt8} (hr : Rd w ao l) (k : Nat) : Rd w ao (l.take k) := by
  rcases hr with rfl | ⟨b, o, rfl, hc⟩
  · left; simp
  · right
    refine ⟨b, o, rfl, fun i hi => ?_⟩
    simp only [List.length_take] at hi
    rw [List.getElem_take]
    exact hc i (by omega)
theorem Rd.drop {w : World} {b o : Nat} {l : List UInt8} (hr : Rd w (some ⟨b, o, none⟩) l) (k : Nat) : Rd w (some ⟨b, o + k, none⟩) (l.drop k) := by
  rcases hr with rfl | ⟨b', o', e, hc⟩
  · left; simp
  · simp only [Option.some.injEq, Addr.mk.injEq, and_true] at e
    obtain ⟨rfl, rfl⟩ := e
    right
    refine ⟨b, o + k, rfl, fun i hi => ?_⟩
    simp only [List.length_drop] at hi
    rw [List.getElem_drop, Nat.add_assoc]
    exact hc (k + i) (by omega)
end Go.Proofs.YtmblghdiejneoaaGreat
