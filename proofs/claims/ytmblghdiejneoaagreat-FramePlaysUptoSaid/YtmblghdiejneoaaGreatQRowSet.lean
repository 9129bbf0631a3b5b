/- A decoder that is not there; the reference's decoder in memory; seen and held. -/
import Derived.Test.YtmblghdiejneoaaGreatQAlive
namespace Go.Proofs.YtmblghdiejneoaaGreat
set_option maxRecDepth 100000
open Go.RowKit

/-- A pointer to no decoder, or to one that no call made. -/
def NoDec (w : World) (p : Option Addr) : Prop := p = none ∨ ∃ D, p = some ⟨D, 0, none⟩ ∧ w.cell? ⟨D, 0, none⟩ = some (.bool false)
theorem NoDec.keep {X : Nat → Prop} {w w' : World} {p : Option Addr} (h : NoDec w p) (k : Keep X w w') (hx : ∀ D, p = some ⟨D, 0, none⟩ → ¬ X D) : NoDec w' p := by
  rcases h with h | ⟨D, rfl, h⟩
  · exact .inl h
  · exact .inr ⟨D, rfl, k.cell h (hx D rfl)⟩
theorem NoDec.below {w w' : World} {p : Option Addr} (h : NoDec w p) (k : Below w.heap.size w w') : NoDec w' p := h.keep (Keep.of_below k (Nat.le_refl _) (fun _ => False)) (fun _ _ => id)

theorem there_no {w : World} {p : Option Addr} (h : NoDec w p) : Calls Tryz.prog 108 #[.pointer p] w fun e w' => e = .returned (.bool false) ∧ w = w' := by
  rcases h with rfl | ⟨D, rfl, h⟩
  · exact there_nil w
  · exact there_zero D w h

theorem feed_no {w : World} {p : Option Addr} (h : NoDec w p) (ao : Option Addr) (k c : Nat) : Calls Tryz.prog 18 #[.pointer p, .slice ao k c] w fun e w' => e = .returned (.slice none 0 0) ∧ w = w' := by
  have H := Lib.hid (there_no h)
  clear h
  go_enter Tryz.func18, Tryz.ntmps18
  go_wp2_with fail
  refine H.out.mono ?_
  rintro e w1 ⟨rfl, rfl⟩
  go_wp2_with fail
  go_ret
  exact ⟨rfl, rfl⟩
theorem close_no {w : World} {p : Option Addr} (h : NoDec w p) : Calls Tryz.prog 20 #[.pointer p] w fun e w' => e = .returned (.slice none 0 0) ∧ w = w' := by
  have H := Lib.hid (there_no h)
  clear h
  go_enter Tryz.func20, Tryz.ntmps20
  go_wp2_with fail
  refine H.out.mono ?_
  rintro e w1 ⟨rfl, rfl⟩
  go_wp2_with fail
  go_ret
  exact ⟨rfl, rfl⟩
theorem seen_no {w : World} {p : Option Addr} (h : NoDec w p) : Calls Tryz.prog 112 #[.pointer p] w fun e w' => e = .returned (.tuple #[.int .i64 0, .int .i64 0]) ∧ ∃ n, w' = w.drewN n := by
  have H := Lib.hid (there_no h)
  clear h
  go_enter Tryz.func112, Tryz.ntmps112
  go_wp2_with fail
  refine H.out.mono ?_
  rintro e w1 ⟨rfl, rfl⟩
  go_wp2_with fail
  go_ret2
  exact ⟨rfl, 0, rfl⟩
theorem held_no {w : World} {p : Option Addr} (h : NoDec w p) : Calls Tryz.prog 114 #[.pointer p] w fun e w' => e = .returned (.tuple #[.int .i64 0, .agg #[.int .i64 0, .int .i64 0], .string ⟨#[]⟩, .bool false]) ∧ Below w.heap.size w w' := by
  have H := Lib.hid (there_no (h.keep (Keep.alloc (fun _ => False) w (.cells #[.int .i64 0, .int .i64 0] 60)) (fun _ _ => id)))
  have hh := Lib.hid ((Below.refl w.heap.size w).alloc (Nat.le_refl _) (.cells #[.int .i64 0, .int .i64 0] 60))
  clear h
  go_enter Tryz.func114, Tryz.ntmps114
  go_wp2_with fail
  refine H.out.mono ?_
  rintro e w1 ⟨rfl, rfl⟩
  go_wp2_with fail
  exact bodyPost_ret (v := .tuple #[.int .i64 0, .agg #[.int .i64 0, .int .i64 0], .string ⟨#[]⟩, .bool false]) (by simp [results, Tryz.results114, go_sem]) rfl ⟨rfl, hh.out⟩

/-- The reference's decoder, at block R. -/
def RDecAt (w : World) (R : Nat) (d : DSt) : Prop := w.heap[R]? = some (.cells #[.int .i64 d.fed, .int .i64 d.ba, .int .i64 d.bs, .string ⟨d.rest.toArray⟩, .bool d.closed] 95 (0, 0))
theorem five_cells {w : World} {D : Nat} {a b c d e : Value} {t : TypeId} (h : w.heap[D]? = some (.cells #[a, b, c, d, e] t (0, 0))) :
    w.cell? ⟨D, 0, none⟩ = some a ∧ w.cell? ⟨D, 1, none⟩ = some b ∧ w.cell? ⟨D, 2, none⟩ = some c ∧ w.cell? ⟨D, 3, none⟩ = some d ∧ w.cell? ⟨D, 4, none⟩ = some e ∧ (∀ j, w.frozen? ⟨D, j, none⟩ = false) := by
  refine ⟨?_, ?_, ?_, ?_, ?_, fun j => ?_⟩ <;> simp [World.cell?, World.frozen?, h]
theorem rnew_any (w : World) : Calls Tryz.prog 17 #[] w fun e w' => e = .returned (.pointer (some ⟨w.heap.size, 0, none⟩)) ∧ w.alloc (.cells #[.int .i64 0, .int .i64 0, .int .i64 0, .string ⟨#[]⟩, .bool false] 95) = w' := by
  go_enter Tryz.func17, Tryz.ntmps17
  go_wp2
  go_ret
  exact ⟨rfl, rfl⟩
theorem rdec_new (w : World) : RDecAt (w.alloc (.cells #[.int .i64 0, .int .i64 0, .int .i64 0, .string ⟨#[]⟩, .bool false] 95)) w.heap.size d0 := heap_alloc_new w _

set_option maxHeartbeats 1000000 in
theorem rseen_any (w : World) (R : Nat) (d : DSt) (h : RDecAt w R d) (hf : d.fed ≤ 4611686018427387903) (hr : d.rest.length ≤ d.fed) :
    Calls Tryz.prog 113 #[.pointer (some ⟨R, 0, none⟩)] w fun e w' => e = .returned (.tuple #[.int .i64 d.fed, .int .i64 ((d.fed - d.rest.length : Nat) : Int)]) ∧ ∃ n, w' = w.drewN n := by
  obtain ⟨c0, c1, c2, c3, c4, hfr⟩ := five_cells h
  have hsub : ((d.fed - d.rest.length : Nat) : Int) = (d.fed : Int) - (d.rest.length : Int) := by omega
  have HS := Lib.hid hsub
  have hsz : (⟨d.rest.toArray⟩ : ByteArray).size = d.rest.length := by simp [ByteArray.size]
  clear hsub h
  generalize (⟨d.rest.toArray⟩ : ByteArray) = S at *
  go_enter Tryz.func113, Tryz.ntmps113
  go_wp2_with fail
  go_quiet (fail)
  go_wp2
  go_ret2
  rw [HS.out]
  exact ⟨rfl, _, rfl⟩

set_option maxHeartbeats 1000000 in
theorem lseen_of (w : World) (p : Option Addr) (R : Nat) (d : DSt) (hs : ∀ n, Calls Tryz.prog 112 #[.pointer p] (w.drewN n) fun e w' => e = .returned (.tuple #[.int .i64 d.fed, .int .i64 ((d.fed - d.rest.length : Nat) : Int)]) ∧ ∃ m, w' = (w.drewN n).drewN m) (h : RDecAt w R d) (hf : d.fed ≤ 4611686018427387903) (hr : d.rest.length ≤ d.fed) :
    Calls Tryz.prog 22 #[.pointer p, .pointer (some ⟨R, 0, none⟩)] w fun e w' => e = .returned (.bool true) ∧ ∃ n, w' = w.drewN n := by
  have H := Lib.hid (hs 0)
  have HR := Lib.hid (fun n => rseen_any (w.drewN n) R d h hf hr)
  clear hs h
  generalize ((d.fed - d.rest.length : Nat) : Int) = g at *
  go_enter Tryz.func22, Tryz.ntmps22
  go_wp2_with fail
  refine H.out.mono ?_
  rintro e w1 ⟨rfl, m, rfl⟩
  go_wp2_with fail
  refine (HR.out _).mono ?_
  rintro e w2 ⟨rfl, m2, rfl⟩
  go_wp2_with fail
  go_ret
  exact ⟨rfl, _, rfl⟩

set_option maxHeartbeats 1000000 in
theorem lheld_of (w : World) (p : Option Addr) (R : Nat) (d : DSt) (hs : Calls Tryz.prog 114 #[.pointer p] w fun e w' => e = .returned (.tuple #[.int .i64 d.fed, .agg #[.int .i64 d.ba, .int .i64 d.bs], .string ⟨d.rest.toArray⟩, .bool d.closed]) ∧ Below w.heap.size w w') (h : RDecAt w R d) :
    Calls Tryz.prog 23 #[.pointer p, .pointer (some ⟨R, 0, none⟩)] w fun e w' => e = .returned (.bool true) ∧ Below w.heap.size w w' := by
  have H := Lib.hid hs
  have HR := Lib.hid h
  have hR : R < w.heap.size := lt_of_block h
  have heq := eq_span'
  have hq : bqS d.ba d.ba d.bs d.bs = true := by simp [bqS]
  clear hs h
  go_enter Tryz.func23, Tryz.ntmps23
  go_wp2_with fail
  refine H.out.mono ?_
  rintro e w1 ⟨rfl, hb1⟩
  have HB1 := Lib.hid hb1
  have hr1 : RDecAt w1 R d := (Keep.of_below hb1 (Nat.le_refl _) (fun _ => False)).old HR.out id
  obtain ⟨c0, c1, c2, c3, c4, hfr⟩ := five_cells hr1
  have hR1 : R < w1.heap.size := lt_of_block hr1
  clear hb1 hr1
  generalize (⟨d.rest.toArray⟩ : ByteArray) = S at *
  go_wp2_with fail
  go_quiet (fail)
  go_wp2_with fail
  go_ret
  exact ⟨rfl, below_drewN (HB1.out.alloc HB1.out.size _) _⟩
end Go.Proofs.YtmblghdiejneoaaGreat

/- What a slice of bytes that came in reads as. -/
namespace Go.Proofs.YtmblghdiejneoaaGreat
set_option maxRecDepth 100000
open Go.RowKit

/-- A slice of integers that came in. -/
def IsRow (k : IntKind) (w : World) (a : Option Addr) (len cap : Nat) (zs : List Int) : Prop :=
  (a = none ∧ len = 0 ∧ cap = 0 ∧ zs = []) ∨
  ∃ x, a = some x ∧ len ≤ cap ∧ cap ≤ maxLen ∧ zs.length = cap ∧ (∀ i, i < zs.length → w.cell? (x.add i) = some (.int k (zs.getD i 0))) ∧ ∀ n ∈ zs, (Lit.int k n).wf = true

theorem u8_of (n : Int) (h : (Lit.int .u8 n).wf = true) : ((UInt8.ofNat n.toNat).toNat : Int) = n := by
  simp only [Lit.wf, Bool.and_eq_true, decide_eq_true_eq] at h
  have h1 : (0 : Int) ≤ n := h.1
  have h2 : n ≤ (255 : Int) := h.2
  simp [UInt8.toNat_ofNat']
  omega

theorem row_rd {w : World} {a : Option Addr} {len cap : Nat} {zs : List Int} (h : IsRow .u8 w a len cap zs) : ∃ l : List UInt8, l.length = len ∧ Rd w a l ∧ len ≤ cap := by
  rcases h with ⟨rfl, rfl, rfl, rfl⟩ | ⟨x, rfl, hl, hm, hz, hc, hw⟩
  · exact ⟨[], rfl, .inl rfl, Nat.le_refl _⟩
  · refine ⟨(zs.take len).map fun n => UInt8.ofNat n.toNat, by simp; omega, ?_, hl⟩
    by_cases h0 : len = 0
    · subst h0; exact .inl (by simp)
    · obtain ⟨b, off, spot⟩ := x
      have hc0 := hc 0 (by omega)
      have hspot : spot = none := by simpa [Addr.add] using World.cell?_spot hc0
      subst hspot
      refine .inr ⟨b, off, rfl, fun i hi => ?_⟩
      simp at hi
      have hadd : (⟨b, off, none⟩ : Addr).add i = ⟨b, off + i, none⟩ := by unfold Addr.add; split <;> simp_all
      have := hc i (by omega)
      rw [hadd] at this
      rw [this]
      have hlt : i < zs.length := by omega
      have hv := u8_of zs[i] (hw _ (List.getElem_mem hlt))
      simp only [List.getElem_map, List.getElem_take]
      rw [hv]
      simp [List.getD, hlt]
end Go.Proofs.YtmblghdiejneoaaGreat

/- One element of an owned row is stored. -/
namespace Go.Proofs.YtmblghdiejneoaaGreat
set_option maxRecDepth 100000
open Go.RowKit

theorem Row.set {w : World} {g cap size : Nat} {xs : List Value} (h : Row w g cap size xs) (i : Nat) (v : Value) (hi : i < cap * size) : Row (w.setCell ⟨g, i, none⟩ v) g cap size (xs.set i v) := by
  have hK := Keep.setCells w g i [v]
  have hsc : w.setCells g i [v] = w.setCell ⟨g, i, none⟩ v := rfl
  rw [← hsc]
  refine ⟨Nat.lt_of_lt_of_le h.lt hK.size, fun j u hu => ?_, fun j hj => World.isSome_setCells g [v] _ w _ (h.there j hj), fun j hj => by rw [World.frozen?_setCells]; exact h.free j hj⟩
  by_cases hj : j = i
  · subst hj
    have h1 := World.cell?_setCells_in g [v] j w (fun k hk => by simp at hk; subst hk; exact h.there _ (by simpa using hi)) 0 (by simp)
    rw [List.getElem?_set] at hu
    simp only [if_true] at hu
    split at hu
    · cases hu; simpa using h1
    · cases hu
  · rw [World.cell?_setCells_out g [v] _ w ⟨g, j, none⟩ (fun _ _ => by simp; omega)]
    rw [List.getElem?_set_ne (fun e => hj e.symm)] at hu
    exact h.cell j u hu

theorem bcells_set (l : List UInt8) (i : Nat) (b : UInt8) : bcells (l.set i b) = (bcells l).set i (.int .u8 (b.toNat : Int)) := by simp [bcells]

theorem set_same {α : Type} {l : List α} {k : Nat} {y : α} (h : l[k]? = some y) : l.set k y = l := by
  obtain ⟨hk, rfl⟩ := List.getElem?_eq_some_iff.1 h
  exact List.set_getElem_self hk
end Go.Proofs.YtmblghdiejneoaaGreat
