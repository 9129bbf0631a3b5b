/- frame.whole: what stands at the beginning of bytes. -/
import Derived.Test.YtmblghdiejneoaaGreatQSum
import Derived.Test.YtmblghdiejneoaaGreatQEqs
import Derived.Deep.QuietTactic
import Derived.BigQuiet
import Derived.Deep.DeepCutAuto
import Derived.WalkSmall
namespace Go.Proofs.YtmblghdiejneoaaGreat
open Go.RowKit

/-- The number of a length's two bytes. -/
def lenOf (l : List UInt8) : Nat := (l.getD 2 0).toNat * 256 + (l.getD 3 0).toNat
/-- The four bytes of a sum, the highest first. -/
def sum4 (s : Nat) : List UInt8 := [UInt8.ofNat (s / 16777216), UInt8.ofNat (s / 65536), UInt8.ofNat (s / 256), UInt8.ofNat s]
/-- How many bytes the frame has that stands at the beginning (0: none), and whether more bytes may make one. -/
def wholeF (l : List UInt8) : Nat × Bool :=
  if l.length < 2 then (0, l == [197])
  else if ¬ (l.take 2 = [197, 171]) then (0, false)
  else if l.length < 4 then (0, true)
  else if 4096 < lenOf l then (0, false)
  else if l.length < lenOf l + 8 then (0, true)
  else if (l.drop (lenOf l + 4)).take 4 = sum4 (crc (l.take (lenOf l + 4))) then (lenOf l + 8, false)
  else (0, false)

theorem below_two (w : World) (a b : Obj) : Below w.heap.size w ((w.alloc a).alloc b) := ((Below.refl _ _).alloc (Nat.le_refl _) _).alloc (by simp) _

set_option maxHeartbeats 1000000 in
theorem whole_short (ao : Option Addr) (cap : Nat) (l : List UInt8) (w : World) (hr : Rd w ao l) (hs : l.length < 2) :
    Calls Tryz.prog 166 #[.slice ao l.length cap] w fun e w' => e = .returned (.tuple #[.int .i64 0, .bool (l == [197])]) ∧ Below w.heap.size w w' := by
  have HR := Lib.hid hr
  clear hr
  have hb0 := Lib.hid (below_two w (.cells #[.int .u8 197, .int .u8 171] 274) (.cells #[.int .u8 197, .int .u8 171] 274))
  match l, hs, HR with
  | [], _, _ =>
    go_enter Tryz.func166, Tryz.ntmps166
    go_wp2_with (go_at_call 164; refine (mark_any _).mono ?_; rintro e w1 ⟨rfl, rfl⟩)
    go_quiet (fail)
    go_wp2
    go_ret2
    exact ⟨rfl, below_drewN hb0.out _⟩
  | [x], _, HR =>
    obtain ⟨b, o, rfl, hc⟩ : ∃ b o, ao = some ⟨b, o, none⟩ ∧ w.cell? ⟨b, o, none⟩ = some (.int .u8 (x.toNat : Int)) := by
      rcases HR.out with h | ⟨b, o, rfl, hc⟩
      · cases h
      · exact ⟨b, o, rfl, hc 0 (by simp)⟩
    have hlt := World.block_lt_of_cell? w _ hc
    have hb : b < w.heap.size := hlt
    have hfin := Lib.hid (show ((x.toNat : Int) == 197) = ([x] == [197]) by
      rw [show (197 : Int) = ((197 : UInt8).toNat : Int) from rfl, u8_beq]
      simp)
    clear hlt
    go_enter Tryz.func166, Tryz.ntmps166
    go_wp2_with (go_at_call 164; refine (mark_any _).mono ?_; rintro e w1 ⟨rfl, rfl⟩)
    go_quiet (fail)
    go_wp2
    go_ret2
    rw [hfin.out]
    exact ⟨rfl, below_drewN hb0.out _⟩

/-- The cell of one byte. -/
theorem Rd.at {w : World} {b o : Nat} {l : List UInt8} (hr : Rd w (some ⟨b, o, none⟩) l) (k : Nat) (h : k < l.length) : w.cell? ⟨b, o + k, none⟩ = some (.int .u8 ((l.getD k 0).toNat : Int)) := by
  rcases hr with rfl | ⟨b', o', e, hc⟩
  · simp at h
  · simp only [Option.some.injEq, Addr.mk.injEq, and_true] at e
    obtain ⟨rfl, rfl⟩ := e
    rw [hc k h]
    simp [List.getD, h]
theorem Rd.place {w : World} {ao : Option Addr} {l : List UInt8} (hr : Rd w ao l) (h : 0 < l.length) : ∃ b o, ao = some ⟨b, o, none⟩ ∧ b < w.heap.size := Rd.lt hr (List.length_pos_iff.1 h)
theorem two_eq (l : List UInt8) (h : 2 ≤ l.length) : bq2 ((l.getD 0 0).toNat : Int) ((l.getD 1 0).toNat : Int) 197 171 = decide (l.take 2 = [197, 171]) := by
  unfold bq2
  rw [show (197 : Int) = ((197 : UInt8).toNat : Int) from rfl, show (171 : Int) = ((171 : UInt8).toNat : Int) from rfl, u8_beq, u8_beq]
  match l, h with
  | x :: y :: l, _ =>
    simp
    cases hx : (x == 197) <;> cases hy : (y == 171) <;> simp_all

set_option maxHeartbeats 1000000 in
theorem whole_unmarked (ao : Option Addr) (cap : Nat) (l : List UInt8) (w : World) (hr : Rd w ao l) (hs : 2 ≤ l.length) (hcap : l.length ≤ cap) (hm : ¬ l.take 2 = [197, 171]) :
    Calls Tryz.prog 166 #[.slice ao l.length cap] w fun e w' => e = .returned (.tuple #[.int .i64 0, .bool false]) ∧ Below w.heap.size w w' := by
  have hb0 := Lib.hid (below_two w (.cells #[.int .u8 197, .int .u8 171] 274) (.cells #[.int .u8 197, .int .u8 171] 274))
  obtain ⟨b, o, rfl, hb⟩ := hr.place (by omega)
  have c0 : w.cell? ⟨b, o, none⟩ = _ := hr.at 0 (by omega)
  have c1 := hr.at 1 (by omega)
  have hq := two_eq l hs
  rw [decide_eq_false hm] at hq
  have hat : ∀ w, (Instr.arrayAt 274 (.slice (some ⟨b, o, none⟩) 2 cap)).run Tryz.prog w = .ok (.pointer (some ⟨b, o, none⟩)) w := fun w => run_arrayAt w 274 _ 2 _ 2 cap Tryz.underlying274 (Nat.le_refl _)
  have he := eq_arr2'
  generalize (l.getD 0 0).toNat = x at *
  generalize (l.getD 1 0).toNat = y at *
  generalize hn : l.length = n at *
  clear hr hm hn
  go_enter Tryz.func166, Tryz.ntmps166
  go_wp2_with (go_at_call 164; refine (mark_any _).mono ?_; rintro e w1 ⟨rfl, rfl⟩)
  go_quiet (fail)
  go_wp2
  go_ret2
  exact ⟨rfl, below_drewN hb0.out _⟩

set_option maxHeartbeats 1000000 in
theorem whole_three (ao : Option Addr) (cap : Nat) (l : List UInt8) (w : World) (hr : Rd w ao l) (hs : 2 ≤ l.length) (hs4 : l.length < 4) (hcap : l.length ≤ cap) (hm : l.take 2 = [197, 171]) :
    Calls Tryz.prog 166 #[.slice ao l.length cap] w fun e w' => e = .returned (.tuple #[.int .i64 0, .bool true]) ∧ Below w.heap.size w w' := by
  have hb0 := Lib.hid (below_two w (.cells #[.int .u8 197, .int .u8 171] 274) (.cells #[.int .u8 197, .int .u8 171] 274))
  obtain ⟨b, o, rfl, hb⟩ := hr.place (by omega)
  have c0 : w.cell? ⟨b, o, none⟩ = _ := hr.at 0 (by omega)
  have c1 := hr.at 1 (by omega)
  have hq := two_eq l hs
  rw [decide_eq_true hm] at hq
  have hat : ∀ w, (Instr.arrayAt 274 (.slice (some ⟨b, o, none⟩) 2 cap)).run Tryz.prog w = .ok (.pointer (some ⟨b, o, none⟩)) w := fun w => run_arrayAt w 274 _ 2 _ 2 cap Tryz.underlying274 (Nat.le_refl _)
  have he := eq_arr2'
  generalize (l.getD 0 0).toNat = x at *
  generalize (l.getD 1 0).toNat = y at *
  generalize hn : l.length = n at *
  clear hr hm hn
  go_enter Tryz.func166, Tryz.ntmps166
  go_wp2_with (go_at_call 164; refine (mark_any _).mono ?_; rintro e w1 ⟨rfl, rfl⟩)
  go_quiet (fail)
  go_wp2
  go_ret2
  exact ⟨rfl, below_drewN hb0.out _⟩

theorem shl8 (x y : UInt8) : bits BinOp.or IntKind.i64 ((x.toNat : Int) * 256) (y.toNat : Int) = ((x.toNat * 256 + y.toNat : Nat) : Int) := by
  have hx := x.toNat_lt
  have hy := y.toNat_lt
  show IntKind.i64.wrap ((BitVec.ofInt 64 (((x.toNat * 256 : Nat) : Int)) ||| BitVec.ofInt 64 (y.toNat : Int)).toNat : Int) = _
  rw [BitVec.toNat_or, ofInt_u64 _ (by omega), ofInt_u64 _ (by omega), nat_join 8 (x.toNat * 256) y.toNat (by omega) (by omega), IntKind.wrap_i64]
  omega

set_option maxHeartbeats 2000000 in
theorem whole_wide (ao : Option Addr) (cap : Nat) (l : List UInt8) (w : World) (hr : Rd w ao l) (hs : 4 ≤ l.length) (hcap : l.length ≤ cap) (hm : l.take 2 = [197, 171]) (hw : 4096 < lenOf l) :
    Calls Tryz.prog 166 #[.slice ao l.length cap] w fun e w' => e = .returned (.tuple #[.int .i64 0, .bool false]) ∧ Below w.heap.size w w' := by
  have hb0 := Lib.hid (below_two w (.cells #[.int .u8 197, .int .u8 171] 274) (.cells #[.int .u8 197, .int .u8 171] 274))
  obtain ⟨b, o, rfl, hb⟩ := hr.place (by omega)
  have c0 : w.cell? ⟨b, o, none⟩ = _ := hr.at 0 (by omega)
  have c1 := hr.at 1 (by omega)
  have c2 := hr.at 2 (by omega)
  have c3 := hr.at 3 (by omega)
  have hq := two_eq l (by omega)
  rw [decide_eq_true hm] at hq
  have hsh := shl8 (l.getD 2 0) (l.getD 3 0)
  have hlen : (l.getD 2 0).toNat * 256 + (l.getD 3 0).toNat = lenOf l := rfl
  rw [hlen] at hsh
  have hat : ∀ w, (Instr.arrayAt 274 (.slice (some ⟨b, o, none⟩) 2 cap)).run Tryz.prog w = .ok (.pointer (some ⟨b, o, none⟩)) w := fun w => run_arrayAt w 274 _ 2 _ 2 cap Tryz.underlying274 (Nat.le_refl _)
  have he := eq_arr2'
  have b2 := (l.getD 2 0).toNat_lt
  have b3 := (l.getD 3 0).toNat_lt
  generalize (l.getD 0 0).toNat = x at *
  generalize (l.getD 1 0).toNat = y at *
  generalize (l.getD 2 0).toNat = x2 at *
  generalize (l.getD 3 0).toNat = x3 at *
  generalize lenOf l = m at *
  generalize hn : l.length = n at *
  clear hr hm hn hlen
  go_enter Tryz.func166, Tryz.ntmps166
  go_wp2_with (go_at_call 164; refine (mark_any _).mono ?_; rintro e w1 ⟨rfl, rfl⟩)
  go_quiet (fail)
  go_wp2
  go_quiet (fail)
  go_wp2
  go_ret2
  exact ⟨rfl, below_drewN hb0.out _⟩

set_option maxHeartbeats 2000000 in
theorem whole_open (ao : Option Addr) (cap : Nat) (l : List UInt8) (w : World) (hr : Rd w ao l) (hs : 4 ≤ l.length) (hcap : l.length ≤ cap) (hm : l.take 2 = [197, 171]) (hw : ¬ 4096 < lenOf l) (ho : l.length < lenOf l + 8) :
    Calls Tryz.prog 166 #[.slice ao l.length cap] w fun e w' => e = .returned (.tuple #[.int .i64 0, .bool true]) ∧ Below w.heap.size w w' := by
  have hb0 := Lib.hid (below_two w (.cells #[.int .u8 197, .int .u8 171] 274) (.cells #[.int .u8 197, .int .u8 171] 274))
  obtain ⟨b, o, rfl, hb⟩ := hr.place (by omega)
  have c0 : w.cell? ⟨b, o, none⟩ = _ := hr.at 0 (by omega)
  have c1 := hr.at 1 (by omega)
  have c2 := hr.at 2 (by omega)
  have c3 := hr.at 3 (by omega)
  have hq := two_eq l (by omega)
  rw [decide_eq_true hm] at hq
  have hsh := shl8 (l.getD 2 0) (l.getD 3 0)
  have hlen : (l.getD 2 0).toNat * 256 + (l.getD 3 0).toNat = lenOf l := rfl
  rw [hlen] at hsh
  have hat : ∀ w, (Instr.arrayAt 274 (.slice (some ⟨b, o, none⟩) 2 cap)).run Tryz.prog w = .ok (.pointer (some ⟨b, o, none⟩)) w := fun w => run_arrayAt w 274 _ 2 _ 2 cap Tryz.underlying274 (Nat.le_refl _)
  have he := eq_arr2'
  have b2 := (l.getD 2 0).toNat_lt
  have b3 := (l.getD 3 0).toNat_lt
  generalize (l.getD 0 0).toNat = x at *
  generalize (l.getD 1 0).toNat = y at *
  generalize (l.getD 2 0).toNat = x2 at *
  generalize (l.getD 3 0).toNat = x3 at *
  generalize lenOf l = m at *
  generalize hn : l.length = n at *
  clear hr hm hn hlen
  go_enter Tryz.func166, Tryz.ntmps166
  go_wp2_with (go_at_call 164; refine (mark_any _).mono ?_; rintro e w1 ⟨rfl, rfl⟩)
  go_quiet (fail)
  go_wp2
  go_quiet (fail)
  go_wp2
  go_ret2
  exact ⟨rfl, below_drewN hb0.out _⟩

theorem ofNat_mod (c : Nat) : ((UInt8.ofNat c).toNat : Int) = (c : Int) % 256 := by
  simp [UInt8.toNat_ofNat']
theorem drop_four (l : List UInt8) (k : Nat) (h : k + 4 ≤ l.length) : (l.drop k).take 4 = [l[k]?.getD 0, l[k + 1]?.getD 0, l[k + 2]?.getD 0, l[k + 3]?.getD 0] := by
  apply List.ext_getElem
  · simp; omega
  · intro i h1 h2
    simp at h2
    simp only [List.getElem_take, List.getElem_drop]
    match i, h2 with
    | 0, _ => simp; rw [List.getElem?_eq_getElem (by omega)]; rfl
    | 1, _ => simp; rw [List.getElem?_eq_getElem (by omega)]; rfl
    | 2, _ => simp; rw [List.getElem?_eq_getElem (by omega)]; rfl
    | 3, _ => simp; rw [List.getElem?_eq_getElem (by omega)]; rfl
theorem four_eq (l : List UInt8) (k c : Nat) (h : k + 4 ≤ l.length) :
    bq4 ((l[k]?.getD 0).toNat : Int) ((l[k + 1]?.getD 0).toNat : Int) ((l[k + 2]?.getD 0).toNat : Int) ((l[k + 3]?.getD 0).toNat : Int) ((c : Int) / 16777216 % 256) ((c : Int) / 65536 % 256) ((c : Int) / 256 % 256) ((c : Int) % 256) =
      decide ((l.drop k).take 4 = sum4 c) := by
  rw [drop_four l k h]
  unfold bq4 sum4
  rw [show ((c : Int) / 16777216 % 256) = ((UInt8.ofNat (c / 16777216)).toNat : Int) by rw [ofNat_mod]; rfl, show ((c : Int) / 65536 % 256) = ((UInt8.ofNat (c / 65536)).toNat : Int) by rw [ofNat_mod]; rfl,
    show ((c : Int) / 256 % 256) = ((UInt8.ofNat (c / 256)).toNat : Int) by rw [ofNat_mod]; rfl, show ((c : Int) % 256) = ((UInt8.ofNat c).toNat : Int) by rw [ofNat_mod], u8_beq, u8_beq, u8_beq, u8_beq]
  generalize l[k]?.getD 0 = a
  generalize l[k + 1]?.getD 0 = b
  generalize l[k + 2]?.getD 0 = e
  generalize l[k + 3]?.getD 0 = f
  generalize UInt8.ofNat (c / 16777216) = a'
  generalize UInt8.ofNat (c / 65536) = b'
  generalize UInt8.ofNat (c / 256) = e'
  generalize UInt8.ofNat c = f'
  rw [Bool.eq_iff_iff]
  simp

/-- The size of a full frame whose sum is right. -/
def fullN (l : List UInt8) : Int := if (l.drop (lenOf l + 4)).take 4 = sum4 (crc (l.take (lenOf l + 4))) then (lenOf l + 8 : Int) else 0

set_option maxHeartbeats 2000000 in
theorem whole_full (ao : Option Addr) (cap : Nat) (l : List UInt8) (w : World) (hr : Rd w ao l) (hs : 4 ≤ l.length) (hcap : l.length ≤ cap) (hm : l.take 2 = [197, 171]) (hw : ¬ 4096 < lenOf l) (ho : lenOf l + 8 ≤ l.length) :
    Calls Tryz.prog 166 #[.slice ao l.length cap] w fun e w' => e = .returned (.tuple #[.int .i64 (fullN l), .bool false]) ∧ Below w.heap.size w w' := by
  have hb0 := Lib.hid (below_two w (.cells #[.int .u8 197, .int .u8 171] 274) (.cells #[.int .u8 197, .int .u8 171] 274))
  obtain ⟨b, o, rfl, hb⟩ := hr.place (by omega)
  have c0 : w.cell? ⟨b, o, none⟩ = _ := hr.at 0 (by omega)
  have c1 := hr.at 1 (by omega)
  have c2 := hr.at 2 (by omega)
  have c3 := hr.at 3 (by omega)
  have hq := two_eq l (by omega)
  rw [decide_eq_true hm] at hq
  have hsh := shl8 (l.getD 2 0) (l.getD 3 0)
  have hlen : (l.getD 2 0).toNat * 256 + (l.getD 3 0).toNat = lenOf l := rfl
  rw [hlen] at hsh
  have hat : ∀ w, (Instr.arrayAt 274 (.slice (some ⟨b, o, none⟩) 2 cap)).run Tryz.prog w = .ok (.pointer (some ⟨b, o, none⟩)) w := fun w => run_arrayAt w 274 _ 2 _ 2 cap Tryz.underlying274 (Nat.le_refl _)
  have he := eq_arr2'
  have b2 := (l.getD 2 0).toNat_lt
  have b3 := (l.getD 3 0).toNat_lt
  generalize (l.getD 0 0).toNat = x at *
  generalize (l.getD 1 0).toNat = y at *
  generalize (l.getD 2 0).toNat = x2 at *
  generalize (l.getD 3 0).toNat = x3 at *
  have hr4 := Lib.hid (hr.take (lenOf l + 4))
  have hl4 : (l.take (lenOf l + 4)).length = lenOf l + 4 := by simp; omega
  have HL4 := Lib.hid hl4
  clear hl4
  have hrd := Lib.hid hr
  clear hr hm hlen
  go_enter Tryz.func166, Tryz.ntmps166
  go_wp2_with (go_at_call 164; refine (mark_any _).mono ?_; rintro e w1 ⟨rfl, rfl⟩)
  go_quiet (fail)
  go_wp2
  go_quiet (fail)
  go_wp2_with (fail)
  refine (sum_at (some ⟨b, o, none⟩) _ cap (l.take (lenOf l + 4)) _ HL4.out (below_rd (below_drewN hb0.out _) hr4.out (fun b' o' e => by cases e; exact hb)) (by omega)).mono ?_
  rintro e w1 ⟨rfl, hb1⟩
  have hB1 := Lib.hid (Below.next (below_drewN hb0.out _) hb1)
  clear hb1
  have d0 : w1.cell? ⟨b, o + (lenOf l + 4), none⟩ = _ := (hB1.out.cell (p := ⟨b, o + (lenOf l + 4), none⟩) hb).trans (hrd.out.at (lenOf l + 4) (by omega))
  have d1 : w1.cell? ⟨b, o + (lenOf l + 4) + 1, none⟩ = _ := (hB1.out.cell (p := ⟨b, o + (lenOf l + 4) + 1, none⟩) hb).trans (hrd.out.at (lenOf l + 4 + 1) (by omega))
  have d2 : w1.cell? ⟨b, o + (lenOf l + 4) + 2, none⟩ = _ := (hB1.out.cell (p := ⟨b, o + (lenOf l + 4) + 2, none⟩) hb).trans (hrd.out.at (lenOf l + 4 + 2) (by omega))
  have d3 : w1.cell? ⟨b, o + (lenOf l + 4) + 3, none⟩ = _ := (hB1.out.cell (p := ⟨b, o + (lenOf l + 4) + 3, none⟩) hb).trans (hrd.out.at (lenOf l + 4 + 3) (by omega))
  have hat4 : ∀ w c, (Instr.arrayAt 282 (.slice (some ⟨b, o + (lenOf l + 4), none⟩) 4 c)).run Tryz.prog w = .ok (.pointer (some ⟨b, o + (lenOf l + 4), none⟩)) w := fun w c => run_arrayAt w 282 _ 4 _ 4 c Tryz.underlying282 (Nat.le_refl _)
  have he4 := eq_arr4'
  have h4 := four_eq l (lenOf l + 4) (crc (l.take (lenOf l + 4))) (by omega)
  clear c0 c1 c2 c3 hat hsh b2 b3 hq
  by_cases hd : (l.drop (lenOf l + 4)).take 4 = sum4 (crc (l.take (lenOf l + 4)))
  · rw [decide_eq_true hd] at h4
    have hD := Lib.hid hd
    clear hd
    generalize hc : crc (l.take (lenOf l + 4)) = c at *
    have HC := Lib.hid hc
    clear hc
    go_wp2
    go_ret2
    rw [fullN, if_pos (by rw [HC.out]; exact hD.out)]
    exact ⟨rfl, hB1.out⟩
  · rw [decide_eq_false hd] at h4
    have hD := Lib.hid hd
    clear hd
    generalize hc : crc (l.take (lenOf l + 4)) = c at *
    have HC := Lib.hid hc
    clear hc
    go_wp2
    go_ret2
    rw [fullN, if_neg (by rw [HC.out]; exact hD.out)]
    exact ⟨rfl, hB1.out⟩

/-- frame.whole, at any bytes. -/
theorem whole_any (ao : Option Addr) (k cap : Nat) (l : List UInt8) (w : World) (hk : l.length = k) (hr : Rd w ao l) (hcap : k ≤ cap) :
    Calls Tryz.prog 166 #[.slice ao k cap] w fun e w' => e = .returned (.tuple #[.int .i64 ((wholeF l).1 : Int), .bool (wholeF l).2]) ∧ Below w.heap.size w w' := by
  subst hk
  unfold wholeF
  by_cases h2 : l.length < 2
  · rw [if_pos h2]; exact whole_short ao cap l w hr h2
  rw [if_neg h2]
  by_cases hm : l.take 2 = [197, 171]
  · rw [if_neg (fun h => h hm)]
    by_cases h4 : l.length < 4
    · rw [if_pos h4]; exact whole_three ao cap l w hr (by omega) h4 hcap hm
    rw [if_neg h4]
    by_cases hw : 4096 < lenOf l
    · rw [if_pos hw]; exact whole_wide ao cap l w hr (by omega) hcap hm hw
    rw [if_neg hw]
    by_cases ho : l.length < lenOf l + 8
    · rw [if_pos ho]; exact whole_open ao cap l w hr (by omega) hcap hm hw ho
    rw [if_neg ho]
    refine (whole_full ao cap l w hr (by omega) hcap hm hw (by omega)).mono ?_
    rintro e w' ⟨rfl, hb⟩
    refine ⟨?_, hb⟩
    by_cases hd : (l.drop (lenOf l + 4)).take 4 = sum4 (crc (l.take (lenOf l + 4)))
    · rw [fullN, if_pos hd, if_pos hd]; rfl
    · rw [fullN, if_neg hd, if_neg hd]; rfl
  · rw [if_pos hm]; exact whole_unmarked ao cap l w hr (by omega) hcap hm
end Go.Proofs.YtmblghdiejneoaaGreat
