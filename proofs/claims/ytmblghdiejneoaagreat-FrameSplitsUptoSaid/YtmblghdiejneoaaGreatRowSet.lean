/- One element of an owned row is stored. -/
import Derived.Test.YtmblghdiejneoaaGreatRow
namespace Go.Proofs.YtmblghdiejneoaaGreat
set_option maxRecDepth 100000
open Go.RowKit

theorem Row.set {w : World} {g cap size : Nat} {xs : List Value} (h : Row w g cap size xs) (i : Nat) (v : Value) (hi : i < cap * size) : Row (w.setCell ⟨g, i, none⟩ v) g cap size (xs.set i v) := by
  have hK := Keep.setCells w g i [v]
  have hsc : w.setCells g i [v] = w.setCell ⟨g, i, none⟩ v := rfl
  rw [← hsc]
  refine ⟨Nat.lt_of_lt_of_le h.lt hK.size, fun j u hu => ?_, fun j hj => World.isSome_setCells g [v] _ w _ (h.there j hj), fun j hj => by rw [World.frozen?_setCells]; exact h.free j hj⟩
  by_cases hj : j = i
  · subst hj
    have h1 := World.cell?_setCells_in g [v] j w (fun k hk => by simp at hk; subst hk; exact h.there _ (by simpa using hi)) 0 (by simp)
    rw [List.getElem?_set] at hu
    simp only [if_true] at hu
    split at hu
    · cases hu; simpa using h1
    · cases hu
  · rw [World.cell?_setCells_out g [v] _ w ⟨g, j, none⟩ (fun _ _ => by simp; omega)]
    rw [List.getElem?_set_ne (fun e => hj e.symm)] at hu
    exact h.cell j u hu

theorem bcells_set (l : List UInt8) (i : Nat) (b : UInt8) : bcells (l.set i b) = (bcells l).set i (.int .u8 (b.toNat : Int)) := by simp [bcells]

theorem set_same {α : Type} {l : List α} {k : Nat} {y : α} (h : l[k]? = some y) : l.set k y = l := by
  obtain ⟨hk, rfl⟩ := List.getElem?_eq_some_iff.1 h
  exact List.set_getElem_self hk
end Go.Proofs.YtmblghdiejneoaaGreat
