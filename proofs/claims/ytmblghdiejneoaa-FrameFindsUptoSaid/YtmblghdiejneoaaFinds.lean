/- Plain law: frames between bytes that open none. -/
import Derived.Test.YtmblghdiejneoaaPure3
namespace Go.Proofs.Ytmblghdiejneoaa

theorem wholeF_not {x : UInt8} {t : List UInt8} (h : x ≠ 197) : wholeF (x :: t) = (0, false) := by
  unfold wholeF
  by_cases h2 : (x :: t).length < 2
  · rw [if_pos h2]
    have ht : t = [] := List.eq_nil_of_length_eq_zero (by simp at h2; omega)
    subst ht
    have : ([x] == [(197 : UInt8)]) = false := by rw [beq_eq_false_iff_ne]; intro e; cases e; exact h rfl
    rw [this]
  · rw [if_neg h2]
    have hm : ¬ (x :: t).take 2 = [197, 171] := by
      intro e
      cases t with
      | nil => simp at e
      | cons y t => simp at e; exact h e.1
    rw [if_pos hm]

theorem scan_junk (t : List UInt8) : ∀ (j : List UInt8) (f pos ba bs : Nat), (∀ x ∈ j, x ≠ 197) → (j ++ t).length ≤ f →
    scan true f pos (j ++ t) ba bs = scan true (f - j.length) (pos + j.length) t (if bs = 0 ∧ j ≠ [] then pos else ba) (bs + j.length)
  | [], f, pos, ba, bs, _, _ => by simp
  | x :: j, f, pos, ba, bs, h, hf => by
    have hw : wholeF ((x :: j) ++ t) = (0, false) := wholeF_not (h x (List.mem_cons_self ..))
    obtain ⟨f, rfl⟩ : ∃ k, f = k + 1 := ⟨f - 1, by simp at hf; omega⟩
    rw [scan_bad (by simp) (by rw [hw]; simp) (by rw [hw])]
    have := scan_junk t j f (pos + 1) (if bs = 0 then pos else ba) (bs + 1) (fun y hy => h y (List.mem_cons_of_mem _ hy)) (by simp at hf ⊢; omega)
    rw [show ((x :: j) ++ t).drop 1 = j ++ t from rfl, this]
    have e1 : f + 1 - (x :: j).length = f - j.length := by simp
    have e2 : pos + (x :: j).length = pos + 1 + j.length := by simp; omega
    have e3 : bs + (x :: j).length = bs + 1 + j.length := by simp; omega
    rw [e1, e2, e3]
    congr 1
    have : ¬ (bs + 1 = 0 ∧ j ≠ []) := fun h => by omega
    rw [if_neg this]
    by_cases hb : bs = 0
    · rw [if_pos hb, if_pos ⟨hb, by simp⟩]
    · rw [if_neg hb, if_neg (fun h => hb h.1)]

/-- What stands between, what a frame holds: the stream, and what is to be told. -/
def streamF : List (List UInt8 × List UInt8) → List UInt8
  | [] => []
  | (j, c) :: r => j ++ (frameL c ++ streamF r)
def badL (pos : Nat) (j : List UInt8) : List Fr := if j = [] then [] else [⟨2, pos, j.length, []⟩]
def wantF : Nat → List (List UInt8 × List UInt8) → List Fr
  | _, [] => []
  | pos, (j, c) :: r => badL pos j ++ (⟨1, pos + j.length, c.length + 8, c⟩ :: wantF (pos + j.length + (c.length + 8)) r)

theorem streamF_snoc : ∀ (l : List (List UInt8 × List UInt8)) (j c : List UInt8), streamF (l ++ [(j, c)]) = streamF l ++ j ++ frameL c
  | [], j, c => by simp [streamF]
  | (j', c') :: r, j, c => by simp [streamF, streamF_snoc r j c]
theorem wantF_snoc : ∀ (l : List (List UInt8 × List UInt8)) (pos : Nat) (j c : List UInt8), wantF pos (l ++ [(j, c)]) = wantF pos l ++ badL (pos + (streamF l).length) j ++ [⟨1, pos + (streamF l).length + j.length, c.length + 8, c⟩]
  | [], pos, j, c => by simp [wantF, streamF]
  | (j', c') :: r, pos, j, c => by
    have e : pos + j'.length + (c'.length + 8) + (streamF r).length = pos + (streamF ((j', c') :: r)).length := by
      simp only [streamF, List.length_append, frameL_length]; omega
    simp only [List.cons_append, wantF, wantF_snoc r, e, List.append_assoc]
theorem streamF_take : ∀ (l : List (List UInt8 × List UInt8)) (k : Nat), (streamF (l.take k)).length ≤ (streamF l).length
  | [], k => by simp [streamF]
  | _ :: _, 0 => by simp [streamF]
  | (j, c) :: r, k + 1 => by
    have := streamF_take r k
    simp only [List.take_succ_cons, streamF, List.length_append]
    omega
theorem wantF_len : ∀ (l : List (List UInt8 × List UInt8)) (pos : Nat), (wantF pos l).length ≤ 2 * l.length
  | [], pos => by simp [wantF]
  | (j, c) :: r, pos => by
    have := wantF_len r (pos + j.length + (c.length + 8))
    have hb : (badL pos j).length ≤ 1 := by unfold badL; split <;> simp
    simp only [wantF, List.length_append, List.length_cons]
    omega

theorem scan_items : ∀ (l : List (List UInt8 × List UInt8)) (f pos : Nat), (∀ x ∈ l, (∀ y ∈ x.1, y ≠ 197) ∧ x.2.length ≤ 4096) → (streamF l).length ≤ f → scan true f pos (streamF l) 0 0 = (wantF pos l, [], 0, 0)
  | [], f, pos, _, _ => by simp [streamF, wantF, scan_nil]
  | (j, c) :: r, f, pos, h, hf => by
    obtain ⟨h1, h2⟩ := h _ (List.mem_cons_self ..)
    simp only at h1 h2
    have hs : streamF ((j, c) :: r) = j ++ (frameL c ++ streamF r) := rfl
    rw [hs] at hf ⊢
    rw [scan_junk _ j f pos 0 0 h1 hf]
    rw [List.length_append, List.length_append, frameL_length] at hf
    obtain ⟨g, hg⟩ : ∃ k, f - j.length = k + 1 := ⟨f - j.length - 1, by omega⟩
    have hw := wholeF_frame c (streamF r) h2
    rw [hg, scan_good (by rw [hw]; simp), hw]
    have hd : (frameL c ++ streamF r).drop (c.length + 8) = streamF r := by rw [← frameL_length c, List.drop_left]
    have hc : ((frameL c ++ streamF r).drop 4).take (c.length + 8 - 8) = c := frameL_content c _
    simp only [hd, hc]
    rw [scan_items r g _ (fun x hx => h x (List.mem_cons_of_mem _ hx)) (by omega)]
    simp only [wantF, Nat.zero_add]
    by_cases hj : j = []
    · subst hj; simp [tellB, badL]
    · have hjl : ¬ j.length = 0 := fun e => hj (List.eq_nil_of_length_eq_zero e)
      simp [tellB, badL, hj]

theorem split_items (l : List (List UInt8 × List UInt8)) (h : ∀ x ∈ l, (∀ y ∈ x.1, y ≠ 197) ∧ x.2.length ≤ 4096) (hl : (streamF l).length ≤ 4611686018427387903) : splitF (streamF l) = wantF 0 l := by
  rw [split_total _ hl]
  unfold total
  rw [scan_items l _ 0 h (Nat.le_refl _)]
  simp [tellB]

def plainL (l : List UInt8) : List UInt8 := l.map fun x => if x = 197 then 1 else x
theorem plainL_not (l : List UInt8) : ∀ x ∈ plainL l, x ≠ 197 := by
  intro x hx
  simp only [plainL, List.mem_map] at hx
  obtain ⟨y, _, rfl⟩ := hx
  by_cases h : y = 197
  · rw [if_pos h]; decide
  · rw [if_neg h]; exact h
end Go.Proofs.Ytmblghdiejneoaa
