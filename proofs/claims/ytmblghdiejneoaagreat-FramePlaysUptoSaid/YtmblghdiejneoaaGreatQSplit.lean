/- Split. -/
import Derived.Test.YtmblghdiejneoaaGreatQFeed
namespace Go.Proofs.YtmblghdiejneoaaGreat
set_option maxRecDepth 100000
open Go.RowKit

def d0 : DSt := ⟨false, 0, 0, 0, []⟩
theorem d0_ok : DOk d0 := ⟨Nat.le_refl _, by decide, fun _ => rfl, Nat.le_refl _⟩
/-- What is told of a whole stream. -/
def splitF (b : List UInt8) : List Fr := (feedF d0 b).1 ++ (closeF (feedF d0 b).2).1

theorem dec_new (w : World) : DecAt (w.alloc (.cells #[.bool true, .bool false, .int .i64 0, .int .i64 0, .int .i64 0, .slice none 0 0] 93)) w.heap.size (.slice none 0 0) d0 :=
  ⟨heap_alloc_new w _, Own.nil _ 1, by simp [Value.ownBlock]⟩

/-- What an owned slice yields to append. -/
theorem Src.own {P : Program} {w : World} {tx e : TypeId} (hk : P.underlying tx = some (.slice e)) {size : Nat} {v : Value} {n : Nat} {xs : List Value} (h : Own w size v n xs) (h1 : ∀ u ∈ xs, u.oneCell' = true) : Src P size tx v n xs w := by
  rcases h.2 with ⟨rfl, rfl⟩ | ⟨g, cap, rfl, hn, hm, hr⟩
  · have : xs = [] := List.eq_nil_of_length_eq_zero (by simpa using h.1)
    subst this
    exact Src.ofNil (P := P) w hk 0
  · refine Src.ofSlice (P := P) w hk _ _ cap xs h.1 (fun j u hu => ?_) h1
    have hadd : (⟨g, 0, none⟩ : Addr).add j = ⟨g, j, none⟩ := by unfold Addr.add; split <;> simp_all
    rw [hadd]
    exact hr.cell j u hu
theorem fcells_oneCell (l : List Fr) : ∀ u ∈ fcells l, u.oneCell' = true := by
  intro u hu
  simp only [fcells, List.mem_flatMap] at hu
  obtain ⟨f, _, hf⟩ := hu
  exact fcell_oneCell f u hf

/-- What Split leaves. -/
def SplitPost (w : World) (l : List Fr) (e : Ending) (w' : World) : Prop :=
  ∃ v', e = .returned v' ∧ Own w' 4 v' l.length (fcells l) ∧ Below w.heap.size w w' ∧ (∀ g, v'.ownBlock = some g → w.heap.size ≤ g)

theorem feedF_len (d : DSt) (b : List UInt8) : (feedF d b).1.length ≤ 2 * (d.rest.length + b.length) ∧ (feedF d b).2.rest.length ≤ d.rest.length + b.length := by
  unfold feedF
  by_cases hc : d.closed = true ∨ 4611686018427387903 < d.fed + b.length
  · rw [if_pos hc]; simp
  · rw [if_neg hc]
    have h := goN_len false (d.fed - d.rest.length) (d.rest ++ b) (d.rest ++ b).length 0 [] d.ba d.bs
    have h2 := goN_le false (d.fed - d.rest.length) (d.rest ++ b) (d.rest ++ b).length 0 [] d.ba d.bs (Nat.zero_le _)
    simp only [List.length_drop, List.length_append, List.length_nil] at h h2 ⊢
    omega
theorem closeF_len (d : DSt) : (closeF d).1.length ≤ 2 * d.rest.length + 1 ∧ (closeF d).2.rest.length ≤ d.rest.length := by
  unfold closeF
  by_cases hc : d.closed = true
  · rw [if_pos hc]; simp
  · rw [if_neg hc]
    have h := goN_len true (d.fed - d.rest.length) d.rest d.rest.length 0 [] d.ba d.bs
    have h2 := goN_le true (d.fed - d.rest.length) d.rest d.rest.length 0 [] d.ba d.bs (Nat.zero_le _)
    have h3 := tellL_le (goN true (d.fed - d.rest.length) d.rest d.rest.length 0 [] d.ba d.bs).2.2.1 (goN true (d.fed - d.rest.length) d.rest d.rest.length 0 [] d.ba d.bs).2.2.2 (goN true (d.fed - d.rest.length) d.rest d.rest.length 0 [] d.ba d.bs).2.1
    simp only [List.length_drop, List.length_nil] at h h2 h3 ⊢
    omega

set_option maxRecDepth 100000 in
set_option maxHeartbeats 2000000 in
theorem split_any (w : World) (ao : Option Addr) (k c : Nat) (b : List UInt8) (hbk : b.length = k) (hrb : Rd w ao b) (hk : k ≤ 10000000000) :
    Calls Tryz.prog 7 #[.slice ao k c] w (SplitPost w (splitF b)) := by
  obtain ⟨i33, hi, hz0, hz1, hz2⟩ := info_parts info_frame
  have hfl := feedF_len d0 b
  have hcl := closeF_len (feedF d0 b).2
  have hok := Lib.hid (feedF_ok d0_ok b)
  have hfl1 : (feedF d0 b).1.length ≤ 2 * k := by have := hfl.1; simp [d0, hbk] at this; exact this
  have hfl2 : (feedF d0 b).2.rest.length ≤ k := by have := hfl.2; simp [d0, hbk] at this; exact this
  have hcl1 : (closeF (feedF d0 b).2).1.length ≤ 2 * k + 1 := by omega
  have hdec := Lib.hid (dec_new w)
  have hrb1 := Lib.hid ((Keep.alloc (fun _ => False) w (.cells #[.bool true, .bool false, .int .i64 0, .int .i64 0, .int .i64 0, .slice none 0 0] 93)).rd hrb (fun _ _ _ => id))
  have hK0 := Lib.hid ((Below.refl w.heap.size w).alloc (Nat.le_refl _) (.cells #[.bool true, .bool false, .int .i64 0, .int .i64 0, .int .i64 0, .slice none 0 0] 93))
  have hbk' := Lib.hid hbk
  have HB := Lib.hid (fun (h : b ≠ []) => hrb.lt h)
  clear hrb hfl hcl hbk
  go_enter Tryz.func7, Tryz.ntmps7
  go_wp2_with (go_at_call 16; refine (new_any _).mono ?_; rintro e w1 ⟨rfl, rfl⟩)
  refine (feed_any _ _ _ d0 ao k c b hdec.out d0_ok hbk'.out hrb1.out (fun hne b' o' e h => by obtain ⟨b'', o'', e', hlt⟩ := HB.out hne; rw [e] at e'; cases e'; omega) (by simp [d0]; omega)).mono ?_
  rintro e w2 ⟨v2, r2, rfl, ho2, hd2, hk2, hv2, hr2, hvr2⟩
  have HO2 := Lib.hid ho2
  have HD2 := Lib.hid hd2
  have HB2 := Lib.hid (below_keep hK0.out hk2 (fun i h => by rcases h with h | h; omega; cases h))
  have HV2 := Lib.hid hv2
  have HR2 := Lib.hid (show ∀ g, r2.ownBlock = some g → w.heap.size ≤ g from by
    intro g hg
    rcases hr2 with h | h
    · subst h; cases hg
    · have := h g hg; simp at this; omega)
  have HVR2 := Lib.hid hvr2
  have hDs : w.heap.size < w2.heap.size := hd2.lt
  clear ho2 hd2 hk2 hv2 hr2 hvr2
  go_wp2_with fail
  refine (close_any _ _ _ _ HD2.out hok.out (by omega)).mono ?_
  rintro e w3 ⟨v3, r3, rfl, ho3, hd3, hk3, hv3, hr3, hvr3⟩
  have HO3 := Lib.hid ho3
  have HB3 := Lib.hid (below_keep HB2.out hk3 (fun i h => by rcases h with h | h; omega; exact HR2.out i h))
  have HO2' := Lib.hid (HO2.out.keep hk3 (fun g hg e => by
    rcases e with e | e
    · have := HV2.out g hg; simp at this; omega
    · exact HVR2.out g hg e))
  have hsz3 : w2.heap.size ≤ w3.heap.size := hk3.size
  clear ho3 hd3 hk3 hv3 hr3 hvr3 HO2
  go_wp2_with (at_builtin; refine wpList_append_slice rfl (.tmp 9) (.tmp 11) 24 24 rfl 82 i33 zeroFrame 4 40 Tryz.underlying24 hi hz0 hz1 hz2 rfl v2 (feedF d0 b).1.length (fcells (feedF d0 b).1) rfl HO2'.out v3 (closeF (feedF d0 b).2).1.length (fcells (closeF (feedF d0 b).2).1) rfl (Src.own Tryz.underlying24 HO3.out (fcells_oneCell _)) (by unfold maxLen; omega) (by omega) ?_)
  intro ao4 c4 w4 ho4 hk4 hb4
  have hpost := Lib.hid (show SplitPost w (splitF b) (.returned (.slice ao4 ((feedF d0 b).1.length + (closeF (feedF d0 b).2).1.length) c4)) w4 from by
    have hge : ∀ g, v2.ownBlock = some g → w.heap.size ≤ g := fun g hg => by have := HV2.out g hg; simp at this; omega
    refine ⟨_, rfl, ?_, below_keep HB3.out hk4 (fun i h => hge i h), fun g hg => ?_⟩
    · unfold splitF
      rw [fcells_append, List.length_append]
      exact ho4
    · rcases hb4 with h | ⟨g', h, hle⟩
      · rw [h] at hg; exact hge g hg
      · rw [h] at hg; cases hg; omega)
  clear ho4 hk4 hb4
  go_wp2
  go_ret
  exact hpost.out
end Go.Proofs.YtmblghdiejneoaaGreat
