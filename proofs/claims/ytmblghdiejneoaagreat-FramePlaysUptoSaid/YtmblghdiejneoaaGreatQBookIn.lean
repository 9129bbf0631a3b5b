/- What a Book holds, and how it is told one list more. -/
import Derived.Test.YtmblghdiejneoaaGreatQBookKB
import Derived.Test.YtmblghdiejneoaaGreatQBookLookB
import Derived.Test.YtmblghdiejneoaaGreatQBookLook
namespace Go.Proofs.YtmblghdiejneoaaGreat
set_option maxRecDepth 100000
open Go.RowKit

/-- The blocks that a Book makes use of. -/
def Used (K : Nat) (B F : Value) (mB : Nat) (fB : Nat → Held) (mF : Nat) (fF : Nat → Held) (g : Nat) : Prop :=
  g = K ∨ B.ownBlock = some g ∨ F.ownBlock = some g ∨ (∃ i, i < mB ∧ (fB i).v.ownBlock = some g) ∨ ∃ i, i < mF ∧ (fF i).v.ownBlock = some g

/-- A Book at K that was told n lists: mB of bytes, mF of frames; all apart. -/
structure BookIn (w : World) (K n : Nat) (B F : Value) (mB : Nat) (fB : Nat → Held) (mF : Nat) (fF : Nat → Held) : Prop where
  at_ : BookAt w K n B F
  rowB : Own w 3 B mB (hcells fB L0 mB)
  rowF : Own w 3 F mF (hcells fF L0 mF)
  keptB : Kept K B fB mB
  keptF : Kept K F fF mF
  ownB : ∀ i, i < mB → ∃ xs, Own w 1 (fB i).v (fB i).k xs
  ownF : ∀ i, i < mF → ∃ xs, Own w 4 (fF i).v (fF i).k xs
  rows : ∀ g, B.ownBlock = some g → ¬ F.ownBlock = some g
  crossB : ∀ i, i < mB → ∀ g, (fB i).v.ownBlock = some g → ¬ F.ownBlock = some g
  crossF : ∀ i, i < mF → ∀ g, (fF i).v.ownBlock = some g → ¬ B.ownBlock = some g
  cross : ∀ i j, i < mB → j < mF → ∀ g, (fB i).v.ownBlock = some g → ¬ (fF j).v.ownBlock = some g
  count : n ≤ 10000000

theorem BookIn.used_lt {w : World} {K n : Nat} {B F : Value} {mB : Nat} {fB : Nat → Held} {mF : Nat} {fF : Nat → Held} (h : BookIn w K n B F mB fB mF fF) {g : Nat} (hu : Used K B F mB fB mF fF g) : g < w.heap.size := by
  rcases hu with rfl | hu | hu | ⟨i, hi, hu⟩ | ⟨i, hi, hu⟩
  · exact lt_of_block h.at_
  · exact h.rowB.lt g hu
  · exact h.rowF.lt g hu
  · obtain ⟨xs, hx⟩ := h.ownB i hi; exact hx.lt g hu
  · obtain ⟨xs, hx⟩ := h.ownF i hi; exact hx.lt g hu

theorem BookIn.keep {X : Nat → Prop} {w w' : World} {K n : Nat} {B F : Value} {mB : Nat} {fB : Nat → Held} {mF : Nat} {fF : Nat → Held} (h : BookIn w K n B F mB fB mF fF) (k : Keep X w w') (hx : ∀ g, Used K B F mB fB mF fF g → ¬ X g) : BookIn w' K n B F mB fB mF fF :=
  { h with
    at_ := k.old h.at_ (hx K (.inl rfl))
    rowB := h.rowB.keep k (fun g hg => hx g (.inr (.inl hg)))
    rowF := h.rowF.keep k (fun g hg => hx g (.inr (.inr (.inl hg))))
    ownB := fun i hi => (h.ownB i hi).imp fun _ ho => ho.keep k (fun g hg => hx g (.inr (.inr (.inr (.inl ⟨i, hi, hg⟩)))))
    ownF := fun i hi => (h.ownF i hi).imp fun _ ho => ho.keep k (fun g hg => hx g (.inr (.inr (.inr (.inr ⟨i, hi, hg⟩))))) }

def noHeld : Nat → Held := fun _ => ⟨.slice none 0 0, 0, 0⟩
/-- A Book that was told nothing. -/
theorem bookIn_new (w : World) : BookIn (w.alloc (.cells (bookCells 0 (.slice none 0 0) (.slice none 0 0)) 54 (0, 0))) w.heap.size 0 (.slice none 0 0) (.slice none 0 0) 0 noHeld 0 noHeld :=
  ⟨heap_alloc_new w _, Own.nil _ 3, Own.nil _ 3, ⟨fun _ _ h => absurd h (Nat.not_lt_zero _), fun _ h => absurd h (Nat.not_lt_zero _), fun g h => by simp [Value.ownBlock] at h, by omega, fun _ h => absurd h (Nat.not_lt_zero _), fun _ h => absurd h (Nat.not_lt_zero _)⟩,
    ⟨fun _ _ h => absurd h (Nat.not_lt_zero _), fun _ h => absurd h (Nat.not_lt_zero _), fun g h => by simp [Value.ownBlock] at h, by omega, fun _ h => absurd h (Nat.not_lt_zero _), fun _ h => absurd h (Nat.not_lt_zero _)⟩,
    fun _ h => absurd h (Nat.not_lt_zero _), fun _ h => absurd h (Nat.not_lt_zero _), fun g h => by simp [Value.ownBlock] at h, fun _ h => absurd h (Nat.not_lt_zero _), fun _ h => absurd h (Nat.not_lt_zero _), fun _ _ h => absurd h (Nat.not_lt_zero _), by omega⟩

theorem hcells_more (f : Nat → Held) (m : Nat) (h : Held) : hcells (upd f m h) L0 (m + 1) = hcells f L0 m ++ [h.v, .slice none 0 0, .int .i64 (h.n : Int)] := by
  simp only [hcells, upd_same]
  rw [hcells_congr (f := upd f m h) (f' := f) (L := L0) (L' := L0) (fun i hi => upd_other f m h (by omega)) (fun _ _ => rfl)]
  rfl

/-- A list more in a row. -/
theorem Kept.more {w : World} {K : Nat} {F F' : Value} {f : Nat → Held} {m : Nat} {h : Held} (k : Kept K F f m) (hF : F'.ownBlock = F.ownBlock ∨ ∃ g, F'.ownBlock = some g ∧ w.heap.size ≤ g) (hK : K < w.heap.size)
    (hl : ∀ i, i < m → ∀ g, (f i).v.ownBlock = some g → g < w.heap.size) (hv : ∀ g, h.v.ownBlock = some g → g < w.heap.size ∧ ¬ g = K ∧ ¬ F.ownBlock = some g ∧ ∀ i, i < m → ¬ (f i).v.ownBlock = some g) (hm : m + 1 ≤ 10000000) (hn : h.n ≤ 10000000) (hk : h.k ≤ 100000000000) : Kept K F' (upd f m h) (m + 1) where
  apart := by
    intro i j hi hj hij g hg hg'
    by_cases h1 : i = m
    · subst h1
      rw [upd_same] at hg
      rw [upd_other _ _ _ (fun e => hij e.symm)] at hg'
      exact (hv g hg).2.2.2 j (by omega) hg'
    · rw [upd_other _ _ _ h1] at hg
      by_cases h2 : j = m
      · subst h2
        rw [upd_same] at hg'
        exact (hv g hg').2.2.2 i (by omega) hg
      · rw [upd_other _ _ _ h2] at hg'
        exact k.apart i j (by omega) (by omega) hij g hg hg'
  off := by
    intro i hi g hg
    have hlt : g < w.heap.size ∧ ¬ g = K ∧ ¬ F.ownBlock = some g := by
      by_cases h1 : i = m
      · subst h1
        rw [upd_same] at hg
        exact ⟨(hv g hg).1, (hv g hg).2.1, (hv g hg).2.2.1⟩
      · rw [upd_other _ _ _ h1] at hg
        exact ⟨hl i (by omega) g hg, k.off i (by omega) g hg⟩
    refine ⟨hlt.2.1, fun hg' => ?_⟩
    rcases hF with h1 | ⟨g', h1, h2⟩
    · exact hlt.2.2 (h1.symm.trans hg')
    · rw [hg'] at h1; cases h1; omega
  book := by
    intro g hg e
    rcases hF with h1 | ⟨g', h1, h2⟩
    · exact k.book g (h1.symm.trans hg) e
    · rw [hg] at h1; cases h1; omega
  small := hm
  num := by
    intro i hi
    by_cases h1 : i = m
    · subst h1; rw [upd_same]; exact hn
    · rw [upd_other _ _ _ h1]; exact k.num i (by omega)
  len := by
    intro i hi
    by_cases h1 : i = m
    · subst h1; rw [upd_same]; exact hk
    · rw [upd_other _ _ _ h1]; exact k.len i (by omega)

/-- Frames: one list of frames more. -/
theorem frames_any (w : World) (K n : Nat) (B F : Value) (mB : Nat) (fB : Nat → Held) (mF : Nat) (fF : Nat → Held) (hb : BookIn w K n B F mB fB mF fF) (v : Value) (lk : Nat) (xs : List Value) (ho : Own w 4 v lk xs)
    (hfr : ∀ g, v.ownBlock = some g → ¬ Used K B F mB fB mF fF g) (hm : mF + 1 ≤ 10000000) (hn : n + 1 ≤ 10000000) (hk : lk ≤ 100000000000) :
    Calls Tryz.prog 10 #[.pointer (some ⟨K, 0, none⟩), v] w fun e w' => ∃ F', e = .returned (.tuple #[]) ∧ BookIn w' K (n + 1) B F' mB fB (mF + 1) (upd fF mF ⟨v, lk, n + 1⟩) ∧ Keep (fun g => g = K ∨ F.ownBlock = some g) w w' ∧ (F'.ownBlock = F.ownBlock ∨ ∃ g, F'.ownBlock = some g ∧ w.heap.size ≤ g) := by
  obtain ⟨la, lc, rfl, _⟩ := own_shape ho
  have HK := Lib.hid (keepFrame_any w K n mF B F la lk lc (hcells fF L0 mF) hb.at_ hb.rowF hb.keptF.book (by omega) (by omega))
  have HB := Lib.hid hb
  have HO := Lib.hid ho
  have HR := Lib.hid hfr
  clear hb ho hfr
  go_enter Tryz.func10, Tryz.ntmps10
  go_wp2_with fail
  refine HK.out.mono ?_
  rintro e w1 ⟨ao, c, rfl, h1, h2, h3, h4⟩
  have H1 := Lib.hid h1
  have H2 := Lib.hid h2
  have H3 := Lib.hid h3
  have H4 := Lib.hid h4
  clear h1 h2 h3 h4
  go_wp2_with fail
  have hb := HB.out
  have hoff : ∀ g, Used K B F mB fB mF fF g → ¬ (g = K ∨ F.ownBlock = some g) → ¬ (fun g => g = K ∨ F.ownBlock = some g) g := fun g _ h => h
  have hF' : ∀ g, (Value.slice ao (mF + 1) c).ownBlock = some g → F.ownBlock = some g ∨ w.heap.size ≤ g := fun g hg => by
    rcases H4.out with h | ⟨g', h, h'⟩
    · exact .inl (h.symm.trans hg)
    · rw [hg] at h; cases h; exact .inr h'
  have hKs : K < w.heap.size := hb.used_lt (.inl rfl)
  refine bodyPost_end (v := .tuple #[]) (by simp [results, Tryz.results10, go_sem]) rfl ⟨.slice ao (mF + 1) c, rfl, ⟨H1.out, ?_, ?_, hb.keptB, ?_, ?_, ?_, ?_, ?_, ?_, ?_, hn⟩, H3.out, H4.out⟩
  · refine hb.rowB.keep H3.out (fun g hg h => ?_)
    rcases h with h | h
    · exact hb.keptB.book g hg h
    · exact hb.rows g hg h
  · rw [hcells_more]; exact H2.out
  · refine hb.keptF.more (w := w) H4.out hKs (fun i hi g hg => hb.used_lt (.inr (.inr (.inr (.inr ⟨i, hi, hg⟩))))) (fun g hg => ⟨HO.out.lt g hg, fun h => HR.out g hg (.inl h), fun h => HR.out g hg (.inr (.inr (.inl h))), fun i hi h => HR.out g hg (.inr (.inr (.inr (.inr ⟨i, hi, h⟩))))⟩) hm hn hk
  · intro i hi
    refine (hb.ownB i hi).imp fun _ ho => ho.keep H3.out (fun g hg h => ?_)
    rcases h with h | h
    · exact (hb.keptB.off i hi g hg).1 h
    · exact hb.crossB i hi g hg h
  · intro i hi
    by_cases h1 : i = mF
    · subst h1
      rw [upd_same]
      refine ⟨xs, HO.out.keep H3.out (fun g hg h => ?_)⟩
      rcases h with h | h
      · exact HR.out g hg (.inl h)
      · exact HR.out g hg (.inr (.inr (.inl h)))
    · rw [upd_other _ _ _ h1]
      refine (hb.ownF i (by omega)).imp fun _ ho => ho.keep H3.out (fun g hg h => ?_)
      rcases h with h | h
      · exact (hb.keptF.off i (by omega) g hg).1 h
      · exact (hb.keptF.off i (by omega) g hg).2 h
  · intro g hg hg'
    rcases hF' g hg' with h | h
    · exact hb.rows g hg h
    · have := hb.used_lt (.inr (.inl hg)); omega
  · intro i hi g hg hg'
    rcases hF' g hg' with h | h
    · exact hb.crossB i hi g hg h
    · have := hb.used_lt (.inr (.inr (.inr (.inl ⟨i, hi, hg⟩)))); omega
  · intro i hi g hg
    by_cases h1 : i = mF
    · subst h1
      rw [upd_same] at hg
      exact fun h => HR.out g hg (.inr (.inl h))
    · rw [upd_other _ _ _ h1] at hg
      exact hb.crossF i (by omega) g hg
  · intro i j hi hj g hg hg'
    by_cases h1 : j = mF
    · subst h1
      rw [upd_same] at hg'
      exact HR.out g hg' (.inr (.inr (.inr (.inl ⟨i, hi, hg⟩))))
    · rw [upd_other _ _ _ h1] at hg'
      exact hb.cross i j hi (by omega) g hg hg'
/-- Bytes: one list of bytes more. -/
theorem bytes_any (w : World) (K n : Nat) (B F : Value) (mB : Nat) (fB : Nat → Held) (mF : Nat) (fF : Nat → Held) (hb : BookIn w K n B F mB fB mF fF) (v : Value) (lk : Nat) (xs : List Value) (ho : Own w 1 v lk xs)
    (hfr : ∀ g, v.ownBlock = some g → ¬ Used K B F mB fB mF fF g) (hm : mB + 1 ≤ 10000000) (hn : n + 1 ≤ 10000000) (hk : lk ≤ 100000000000) :
    Calls Tryz.prog 11 #[.pointer (some ⟨K, 0, none⟩), v] w fun e w' => ∃ B', e = .returned (.tuple #[]) ∧ BookIn w' K (n + 1) B' F (mB + 1) (upd fB mB ⟨v, lk, n + 1⟩) mF fF ∧ Keep (fun g => g = K ∨ B.ownBlock = some g) w w' ∧ (B'.ownBlock = B.ownBlock ∨ ∃ g, B'.ownBlock = some g ∧ w.heap.size ≤ g) := by
  obtain ⟨la, lc, rfl, _⟩ := own_shape ho
  have HK := Lib.hid (keepByte_any w K n mB F B la lk lc (hcells fB L0 mB) hb.at_ hb.rowB hb.keptB.book (by omega) (by omega))
  have HB := Lib.hid hb
  have HO := Lib.hid ho
  have HR := Lib.hid hfr
  clear hb ho hfr
  go_enter Tryz.func11, Tryz.ntmps11
  go_wp2_with fail
  refine HK.out.mono ?_
  rintro e w1 ⟨ao, c, rfl, h1, h2, h3, h4⟩
  have H1 := Lib.hid h1
  have H2 := Lib.hid h2
  have H3 := Lib.hid h3
  have H4 := Lib.hid h4
  clear h1 h2 h3 h4
  go_wp2_with fail
  have hb := HB.out
  have hB' : ∀ g, (Value.slice ao (mB + 1) c).ownBlock = some g → B.ownBlock = some g ∨ w.heap.size ≤ g := fun g hg => by
    rcases H4.out with h | ⟨g', h, h'⟩
    · exact .inl (h.symm.trans hg)
    · rw [hg] at h; cases h; exact .inr h'
  have hKs : K < w.heap.size := hb.used_lt (.inl rfl)
  refine bodyPost_end (v := .tuple #[]) (by simp [results, Tryz.results11, go_sem]) rfl ⟨.slice ao (mB + 1) c, rfl, ⟨H1.out, ?_, ?_, ?_, hb.keptF, ?_, ?_, ?_, ?_, ?_, ?_, hn⟩, H3.out, H4.out⟩
  · rw [hcells_more]; exact H2.out
  · refine hb.rowF.keep H3.out (fun g hg h => ?_)
    rcases h with h | h
    · exact hb.keptF.book g hg h
    · exact hb.rows g h hg
  · refine hb.keptB.more (w := w) H4.out hKs (fun i hi g hg => hb.used_lt (.inr (.inr (.inr (.inl ⟨i, hi, hg⟩))))) (fun g hg => ⟨HO.out.lt g hg, fun h => HR.out g hg (.inl h), fun h => HR.out g hg (.inr (.inl h)), fun i hi h => HR.out g hg (.inr (.inr (.inr (.inl ⟨i, hi, h⟩))))⟩) hm hn hk
  · intro i hi
    by_cases h1 : i = mB
    · subst h1
      rw [upd_same]
      refine ⟨xs, HO.out.keep H3.out (fun g hg h => ?_)⟩
      rcases h with h | h
      · exact HR.out g hg (.inl h)
      · exact HR.out g hg (.inr (.inl h))
    · rw [upd_other _ _ _ h1]
      refine (hb.ownB i (by omega)).imp fun _ ho => ho.keep H3.out (fun g hg h => ?_)
      rcases h with h | h
      · exact (hb.keptB.off i (by omega) g hg).1 h
      · exact (hb.keptB.off i (by omega) g hg).2 h
  · intro i hi
    refine (hb.ownF i hi).imp fun _ ho => ho.keep H3.out (fun g hg h => ?_)
    rcases h with h | h
    · exact (hb.keptF.off i hi g hg).1 h
    · exact hb.crossF i hi g hg h
  · intro g hg hg'
    rcases hB' g hg with h | h
    · exact hb.rows g h hg'
    · have := hb.used_lt (.inr (.inr (.inl hg'))); omega
  · intro i hi g hg
    by_cases h1 : i = mB
    · subst h1
      rw [upd_same] at hg
      exact fun h => HR.out g hg (.inr (.inr (.inl h)))
    · rw [upd_other _ _ _ h1] at hg
      exact hb.crossB i (by omega) g hg
  · intro i hi g hg hg'
    rcases hB' g hg' with h | h
    · exact hb.crossF i hi g hg h
    · have := hb.used_lt (.inr (.inr (.inr (.inr ⟨i, hi, hg⟩)))); omega
  · intro i j hi hj g hg hg'
    by_cases h1 : i = mB
    · subst h1
      rw [upd_same] at hg
      exact HR.out g hg (.inr (.inr (.inr (.inr ⟨j, hj, hg'⟩))))
    · rw [upd_other _ _ _ h1] at hg
      exact hb.cross i j (by omega) hj g hg hg'
end Go.Proofs.YtmblghdiejneoaaGreat
