/- What the bound of an 'Upto' statement gives for slices. -/
import Derived.Test.YtmblghdiejneoaaGreatRows
import Derived.ChangeSlices
import Derived.Test.YtmblghdiejneoaaGreatQPlaysWalk
import Derived.Deep.SlicePairs
import Derived.ChangeOld
namespace Go.Proofs.YtmblghdiejneoaaGreat

theorem bulk_len {H : Type} (l : List (DataW H)) : l.length ≤ Rows.uptoBulkAll l := by
  induction l with
  | nil => simp [Rows.uptoBulkAll]
  | cons x r ih =>
    have : 1 ≤ Rows.uptoBulk x := by
      cases x with
      | lit l => cases l <;> simp [Rows.uptoBulk]
      | _ => simp [Rows.uptoBulk]
    simp only [Rows.uptoBulkAll, List.length_cons]
    omega

theorem upto_part {H : Type} {d : DataW H} : ∀ {l : List (DataW H)}, d ∈ l → Rows.uptoBulk d ≤ Rows.uptoBulkAll l
  | x :: r, h => by
    simp only [Rows.uptoBulkAll]
    rcases List.mem_cons.1 h with e | e
    · subst e; omega
    · have := upto_part e; omega

theorem upto_elems {H : Type} {e s : List (DataW H)} {l : List (DataW H)} (hk : Rows.uptoSmall H l = true) (hm : DataW.slice e s ∈ l) : Rows.uptoBulkAll e + Rows.uptoBulkAll s ≤ 1048576 := by
  have h : Rows.uptoBulkAll l ≤ 1048576 := of_decide_eq_true hk
  have h1 := upto_part hm
  simp only [Rows.uptoBulk] at h1
  omega
theorem upto_in {H : Type} {e s : List (DataW H)} {l : List (DataW H)} (hk : Rows.uptoSmall H l = true) (hm : DataW.slice e s ∈ l) : e.length + s.length ≤ 1048576 := by
  have h := upto_elems hk hm
  have h1 := bulk_len e
  have h2 := bulk_len s
  omega
theorem upto_slice {H : Type} {e s : List (DataW H)} (hk : Rows.uptoSmall H [.slice e s] = true) : e.length + s.length ≤ 1048576 := upto_in hk (List.mem_singleton.2 rfl)
end Go.Proofs.YtmblghdiejneoaaGreat

/- How the arguments of FramePlays lie in memory, and what the bound gives for them. -/
namespace Go.Proofs.YtmblghdiejneoaaGreat
set_option maxRecDepth 100000
open Go.RowKit Go.ChangeShapes Go.WideShapes Go.Deep

theorem cells_bool : Tryz.prog.cellsOf 4 = 1 := by kernel_rfl
theorem cells_int : Tryz.prog.cellsOf 3 = 1 := by kernel_rfl
theorem cells_string : Tryz.prog.cellsOf 9 = 1 := by kernel_rfl
theorem cells_span : Tryz.prog.cellsOf 60 = 2 := by kernel_rfl
theorem cells_bytes : Tryz.prog.cellsOf 22 = 1 := by kernel_rfl
theorem cells_start : Tryz.prog.cellsOf 62 = 6 := by kernel_rfl
theorem cells_op : Tryz.prog.cellsOf 72 = 2 := by kernel_rfl

theorem six_of {l : List Value} (h : l.length = 6) : ∃ a b c d e f, l = [a, b, c, d, e, f] := by
  match l, h with
  | [a, b, c, d, e, f], _ => exact ⟨a, b, c, d, e, f, rfl⟩
theorem five_of {α : Type} {l : List α} (h : l.length = 5) : ∃ a b c d e, l = [a, b, c, d, e] := by
  match l, h with
  | [a, b, c, d, e], _ => exact ⟨a, b, c, d, e, rfl⟩

section
variable {H : Type} {enc : TypeId × Value → H} {W : World} {base fuel : Nat} {spare : Nat → Bool} {held : Bool} {cs : List Value} {x : DataW H × List MemPlace}

theorem open_start (h : DataW.trod enc Tryz.prog W base spare held fuel 62 cs = some x) :
    ∃ made fed ba bs S c, cs = [.bool made, .int .i64 fed, .int .i64 ba, .int .i64 bs, .string S, .bool c] ∧ S.size ≤ Rows.uptoBulk x.1 := by
  obtain ⟨xs, n, _, rfl, hl, hlen, hf⟩ := DataW.trod_struct Tryz.underlying62 h
  rw [cells_start] at hl
  obtain ⟨v0, v1, v2, v3, v4, v5, rfl⟩ := six_of hl
  obtain ⟨y0, y1, y2, y3, y4, rfl⟩ := five_of (by simpa using hlen)
  have g0 := hf 0 _ rfl
  have g1 := hf 1 _ rfl
  have g2 := hf 2 _ rfl
  have g3 := hf 3 _ rfl
  have g4 := hf 4 _ rfl
  simp [cells_bool, cells_int, cells_string, cells_span] at g0 g1 g2 g3 g4
  obtain ⟨made, e0, _⟩ := DataW.trod_bool Tryz.underlying4 g0
  obtain ⟨fed, e1, _, _⟩ := DataW.trod_int Tryz.underlying3 g1
  obtain ⟨z0, z1, m, _, hl2, k0, k1⟩ := trod_struct2 Tryz.underlying60 g2
  simp [cells_int] at k0 k1
  obtain ⟨ba, e2, _, _⟩ := DataW.trod_int Tryz.underlying3 k0
  obtain ⟨bs, e3, _, _⟩ := DataW.trod_int Tryz.underlying3 k1
  obtain ⟨S, e4, x4, _⟩ := DataW.trod_string Tryz.underlying9 g3
  obtain ⟨c, e5, _⟩ := DataW.trod_bool Tryz.underlying4 g4
  cases e0; cases e1; cases e2; cases e3; cases e4; cases e5
  refine ⟨made, fed, ba, bs, S, c, rfl, ?_⟩
  subst x4
  have hs : S.data.toList.length = S.size := by simp
  simp only [List.map_cons, List.map_nil, Rows.uptoBulk, Rows.uptoBulkAll, hs]
  omega

theorem open_data {v : Value} (h : DataW.trod enc Tryz.prog W base (fun _ => true) true fuel 22 [v] = some x) : ∃ ao ln cp b, v = .slice ao ln cp ∧ Rd W ao b ∧ b.length = ln ∧ ln ≤ Rows.uptoBulk x.1 := by
  rcases open_ints Tryz.underlying22 Tryz.underlying5 (by kernel_rfl) h with ⟨hcs, _⟩ | ⟨a, l, c, zs, hcs, _, hl, hm, hz, hx, hcell, hwz⟩
  · simp at hcs
    exact ⟨none, 0, 0, [], hcs, .inl rfl, rfl, Nat.zero_le _⟩
  · simp at hcs
    simp at hz
    obtain ⟨b, hb, hr, _⟩ := row_rd (show IsRow .u8 W (some a) l c zs from .inr ⟨a, rfl, hl, hm, hz, hcell, hwz⟩)
    refine ⟨some a, l, c, b, hcs, hr, hb, ?_⟩
    subst hx
    simp only [Rows.uptoBulk]
    have h1 := bulk_len (lits .u8 (zs.take l) : List (DataW H))
    simp [lits] at h1 ⊢
    omega

theorem bulk_mem {d : DataW H} {l : List (DataW H)} (h : d ∈ l) : Rows.uptoBulk d ≤ Rows.uptoBulkAll l := upto_part h

theorem open_ops {a : Option Addr} {n cap : Nat} (h : DataW.trod enc Tryz.prog W base (fun _ => true) true fuel 63 [.slice a n cap] = some x) (hb : Rows.uptoBulk x.1 ≤ 1048576) : n ≤ 1048576 ∧ Script W a n := by
  rcases open_slice_pairs Tryz.underlying63 Tryz.underlying72 cells_op rfl rfl cells_int cells_bytes h with ⟨hc, _⟩ | ⟨ad, len, cp, m, k, V0, V1, D0, D1, P0, P1, hc, _, hl, hm, hmm, hx, hall⟩
  · simp at hc
    obtain ⟨rfl, rfl, rfl⟩ := hc
    exact ⟨Nat.zero_le _, fun i hi => absurd hi (Nat.not_lt_zero _)⟩
  · simp at hc
    obtain ⟨rfl, rfl, rfl⟩ := hc
    simp only [if_true] at hmm
    subst hmm
    subst hx
    simp only [Rows.uptoBulk] at hb
    have hn := bulk_len ((List.range n).map fun i => DataW.agg [D0 i, D1 i])
    rw [List.length_map, List.length_range] at hn
    refine ⟨by omega, fun i hi => ?_⟩
    obtain ⟨q0, q1, t0, t1⟩ := hall i (by omega)
    obtain ⟨kd, e0, _, _⟩ := DataW.trod_int Tryz.underlying3 t0
    obtain ⟨ao, ln, cp', b, e1, hr, hbl, hln⟩ := open_data t1
    have hln' : ln ≤ Rows.uptoBulk (D1 i) := hln
    have hd1 : Rows.uptoBulk (D1 i) ≤ 1048576 := by
      have h1 := upto_part (show DataW.agg [D0 i, D1 i] ∈ (List.range n).map fun i => DataW.agg [D0 i, D1 i] from List.mem_map.2 ⟨i, List.mem_range.2 hi, rfl⟩)
      simp only [Rows.uptoBulk, Rows.uptoBulkAll] at h1
      omega
    simp at e0
    rw [e0] at q0
    rw [e1] at q1
    obtain ⟨bk, off, spot⟩ := ad
    have q00 := (hall 0 (by omega)).1
    have hspot : spot = none := by simpa [Addr.add] using World.cell?_spot q00
    clear q00
    subst hspot
    have hadd : ∀ j, (⟨bk, off, none⟩ : Addr).add j = ⟨bk, off + j, none⟩ := fun j => by unfold Addr.add; split <;> simp_all
    rw [hadd] at q0 q1
    exact ⟨bk, off, kd, ao, ln, cp', b, rfl, q0, by rw [Nat.add_assoc]; exact q1, hr, hbl, by omega⟩
end
end Go.Proofs.YtmblghdiejneoaaGreat
