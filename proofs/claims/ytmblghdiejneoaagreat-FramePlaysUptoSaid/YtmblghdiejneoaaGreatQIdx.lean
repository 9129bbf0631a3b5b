/- A Book as its users see it: the blocks that it makes use of. -/
import Derived.Test.YtmblghdiejneoaaGreatQApart
import Derived.Test.YtmblghdiejneoaaGreatQRowSet
namespace Go.Proofs.YtmblghdiejneoaaGreat
set_option maxRecDepth 100000
open Go.RowKit

/-- At K lies a Book that makes use of no block but those of U; it was told at most c lists. -/
def Bk (w : World) (K : Nat) (U : Nat → Prop) (c : Nat) : Prop :=
  ∃ n B F mB fB mF fF, BookIn w K n B F mB fB mF fF ∧ (∀ g, Used K B F mB fB mF fF g → U g) ∧ n ≤ c ∧ mB ≤ c ∧ mF ≤ c

theorem bk_new (w : World) : Bk (w.alloc (.cells (bookCells 0 (.slice none 0 0) (.slice none 0 0)) 54 (0, 0))) w.heap.size (fun g => g = w.heap.size) 0 := by
  refine ⟨_, _, _, _, _, _, _, bookIn_new w, fun g h => ?_, Nat.le_refl _, Nat.le_refl _, Nat.le_refl _⟩
  rcases h with h | h | h | ⟨i, hi, _⟩ | ⟨i, hi, _⟩
  · exact h
  · simp [Value.ownBlock] at h
  · simp [Value.ownBlock] at h
  · omega
  · omega

theorem Bk.keep {X U : Nat → Prop} {w w' : World} {K c : Nat} (h : Bk w K U c) (k : Keep X w w') (hx : ∀ g, U g → ¬ X g) : Bk w' K U c := by
  obtain ⟨n, B, F, mB, fB, mF, fF, hb, hu, h1⟩ := h
  exact ⟨n, B, F, mB, fB, mF, fF, hb.keep k (fun g hg => hx g (hu g hg)), hu, h1⟩
theorem Bk.mono {U V : Nat → Prop} {w : World} {K c d : Nat} (h : Bk w K U c) (hv : ∀ g, U g → g < w.heap.size → V g) (hc : c ≤ d) : Bk w K V d := by
  obtain ⟨n, B, F, mB, fB, mF, fF, hb, hu, h1, h2, h3⟩ := h
  exact ⟨n, B, F, mB, fB, mF, fF, hb, fun g hg => hv g (hu g hg) (hb.used_lt hg), by omega, by omega, by omega⟩

theorem used_upd {f : Nat → Held} {m : Nat} {h : Held} {g : Nat} (hu : ∃ i, i < m + 1 ∧ (upd f m h i).v.ownBlock = some g) : h.v.ownBlock = some g ∨ ∃ i, i < m ∧ (f i).v.ownBlock = some g := by
  obtain ⟨i, hi, hg⟩ := hu
  by_cases h1 : i = m
  · subst h1; rw [upd_same] at hg; exact .inl hg
  · rw [upd_other _ _ _ h1] at hg; exact .inr ⟨i, by omega, hg⟩

theorem bk_frames (w : World) (K c : Nat) (U : Nat → Prop) (hb : Bk w K U c) (v : Value) (lk : Nat) (xs : List Value) (ho : Own w 4 v lk xs) (hfr : ∀ g, v.ownBlock = some g → ¬ U g) (hc : c + 1 ≤ 10000000) (hk : lk ≤ 100000000000) :
    Calls Tryz.prog 10 #[.pointer (some ⟨K, 0, none⟩), v] w fun e w' => e = .returned (.tuple #[]) ∧ Bk w' K (fun g => U g ∨ v.ownBlock = some g ∨ (w.heap.size ≤ g ∧ g < w'.heap.size)) (c + 1) ∧ Keep U w w' := by
  obtain ⟨n, B, F, mB, fB, mF, fF, hb, hu, h1, h2, h3⟩ := hb
  refine (frames_any w K n B F mB fB mF fF hb v lk xs ho (fun g hg h => hfr g hg (hu g h)) (by omega) (by omega) hk).mono ?_
  rintro e w' ⟨F', rfl, hb', hkk, hF'⟩
  refine ⟨rfl, ⟨_, _, _, _, _, _, _, hb', fun g hg => ?_, by omega, by omega, by omega⟩, hkk.mono (fun g _ h => hu g (h.elim (fun h => .inl h) (fun h => .inr (.inr (.inl h)))))⟩
  have hlt := hb'.used_lt hg
  rcases hg with h | h | h | h | h
  · exact .inl (hu g (.inl h))
  · exact .inl (hu g (.inr (.inl h)))
  · rcases hF' with h4 | ⟨g', h4, h5⟩
    · exact .inl (hu g (.inr (.inr (.inl (h4.symm.trans h)))))
    · rw [h] at h4; cases h4; exact .inr (.inr ⟨h5, hlt⟩)
  · exact .inl (hu g (.inr (.inr (.inr (.inl h)))))
  · rcases used_upd h with h | h
    · exact .inr (.inl h)
    · exact .inl (hu g (.inr (.inr (.inr (.inr h)))))

theorem bk_bytes (w : World) (K c : Nat) (U : Nat → Prop) (hb : Bk w K U c) (v : Value) (lk : Nat) (xs : List Value) (ho : Own w 1 v lk xs) (hfr : ∀ g, v.ownBlock = some g → ¬ U g) (hc : c + 1 ≤ 10000000) (hk : lk ≤ 100000000000) :
    Calls Tryz.prog 11 #[.pointer (some ⟨K, 0, none⟩), v] w fun e w' => e = .returned (.tuple #[]) ∧ Bk w' K (fun g => U g ∨ v.ownBlock = some g ∨ (w.heap.size ≤ g ∧ g < w'.heap.size)) (c + 1) ∧ Keep U w w' := by
  obtain ⟨n, B, F, mB, fB, mF, fF, hb, hu, h1, h2, h3⟩ := hb
  refine (bytes_any w K n B F mB fB mF fF hb v lk xs ho (fun g hg h => hfr g hg (hu g h)) (by omega) (by omega) hk).mono ?_
  rintro e w' ⟨B', rfl, hb', hkk, hB'⟩
  refine ⟨rfl, ⟨_, _, _, _, _, _, _, hb', fun g hg => ?_, by omega, by omega, by omega⟩, hkk.mono (fun g _ h => hu g (h.elim (fun h => .inl h) (fun h => .inr (.inl h))))⟩
  have hlt := hb'.used_lt hg
  rcases hg with h | h | h | h | h
  · exact .inl (hu g (.inl h))
  · rcases hB' with h4 | ⟨g', h4, h5⟩
    · exact .inl (hu g (.inr (.inl (h4.symm.trans h))))
    · rw [h] at h4; cases h4; exact .inr (.inr ⟨h5, hlt⟩)
  · exact .inl (hu g (.inr (.inr (.inl h))))
  · rcases used_upd h with h | h
    · exact .inr (.inl h)
    · exact .inl (hu g (.inr (.inr (.inr (.inl h)))))
  · exact .inl (hu g (.inr (.inr (.inr (.inr h)))))

theorem bk_apart (w : World) (K c : Nat) (U : Nat → Prop) (hb : Bk w K U c) :
    Calls Tryz.prog 12 #[.pointer (some ⟨K, 0, none⟩)] w fun e w' => e = .returned (.bool true) ∧ Keep U w w' := by
  obtain ⟨n, B, F, mB, fB, mF, fF, hb, hu, h1⟩ := hb
  refine (apart_any w K n B F mB fB mF fF hb).mono ?_
  rintro e w' ⟨rfl, hk⟩
  exact ⟨rfl, hk.mono (fun g _ h => hu g h)⟩
end Go.Proofs.YtmblghdiejneoaaGreat

/- A byte of a text. -/
namespace Go.Proofs.YtmblghdiejneoaaGreat
set_option maxRecDepth 100000
open Go.RowKit

theorem idx_str (s : ByteArray) (i : Nat) (h : i < s.size) (w : World) : (Instr.index 9 (.string s) (.int .i64 (i : Int))).run Tryz.prog w = .ok (.int .u8 ((s.data.toList.getD i 0).toNat : Int)) w := by
  rw [run_index_string w 9 s .i64 (i : Int) Tryz.underlying9]
  simp only [Int.toNat_natCast]
  rw [dif_pos ⟨by omega, by omega⟩]
  have h' : i < s.data.size := h
  have e : s.data.toList.getD i 0 = s[i] := by
    simp only [List.getD_eq_getElem?_getD]
    rw [List.getElem?_eq_getElem (by simpa using h')]
    rfl
  rw [e]
end Go.Proofs.YtmblghdiejneoaaGreat
