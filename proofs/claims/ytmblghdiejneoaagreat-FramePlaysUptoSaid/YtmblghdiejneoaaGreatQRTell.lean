/- The reference's tell. -/
import Derived.Test.YtmblghdiejneoaaGreatQROk
import Derived.Test.YtmblghdiejneoaaGreatQMoreF
namespace Go.Proofs.YtmblghdiejneoaaGreat
set_option maxRecDepth 100000
open Go.RowKit

/-- The reference's decoder in memory, field by field. -/
def RBlk (w : World) (R fed ba bs : Nat) (s : ByteArray) (c : Bool) : Prop := w.heap[R]? = some (.cells #[.int .i64 fed, .int .i64 ba, .int .i64 bs, .string s, .bool c] 95 (0, 0))

/-- What telling leaves. -/
def RTellPost (w : World) (R fed : Nat) (s : ByteArray) (c : Bool) (v : Value) (out : List Fr) (e : Ending) (w' : World) : Prop :=
  ∃ v', e = .returned v' ∧ Own w' 4 v' out.length (fcells out) ∧ RBlk w' R fed 0 0 s c ∧ Keep (fun k => k = R ∨ v.ownBlock = some k) w w' ∧ (v'.ownBlock = v.ownBlock ∨ ∃ g, v'.ownBlock = some g ∧ w.heap.size ≤ g)

theorem rtell_none (w : World) (R fed : Nat) (s : ByteArray) (c : Bool) (v : Value) (hb : RBlk w R fed 0 0 s c) :
    Calls Tryz.prog 168 #[.pointer (some ⟨R, 0, none⟩), v] w fun e w' => e = .returned v ∧ w = w' := by
  obtain ⟨c0, c1, c2, c3, c4, hfr⟩ := five_cells hb
  clear hb
  go_enter Tryz.func168, Tryz.ntmps168
  go_wp2_with fail
  go_ret
  exact ⟨rfl, rfl⟩

set_option maxHeartbeats 2000000 in
theorem rtell_some (w : World) (R fed ba bs : Nat) (s : ByteArray) (c : Bool) (v : Value) (n : Nat) (out : List Fr) (hb : RBlk w R fed ba bs s c)
    (h0 : 0 < bs) (hon : out.length = n) (hv : Own w 4 v n (fcells out)) (hvD : v.ownBlock ≠ some R) (hn : n ≤ 1000000000000) :
    Calls Tryz.prog 168 #[.pointer (some ⟨R, 0, none⟩), v] w (RTellPost w R fed s c v (out ++ [⟨2, ba, bs, []⟩])) := by
  obtain ⟨i5, hi, hz0, hz1, hz2⟩ := info_parts info_frame
  obtain ⟨c0, c1, c2, c3, c4, hfr⟩ := five_cells hb
  have hD := lt_of_block hb
  have HB := Lib.hid hb
  have HV := Lib.hid hv
  have HON := Lib.hid hon
  have h0' : (0 : Int) < (bs : Int) := by omega
  clear hb hv h0 hon
  go_enter Tryz.func168, Tryz.ntmps168
  go_wp2_with (at_builtin; refine wpList_append_pos rfl (.tmp 11) (.tmp 17) 24 24 rfl 82 i5 zeroFrame 4 40 Tryz.underlying24 hi hz0 hz1 hz2 rfl v n (fcells out) rfl (HV.out.keep (Keep.alloc (fun _ => False) _ _) (fun _ _ => id)) (.slice (some ⟨w.heap.size, 0, none⟩) 1 1) 1 (fcell ⟨2, ba, bs, []⟩) rfl (Src.frame Tryz.underlying24 _ _ _ rfl) (.inl (by omega)) (by unfold maxLen; omega) (by omega) ?_)
  intro g1 q1 w1 ho1 hk1 hb1
  have hk1' := Lib.hid ((Keep.alloc (fun _ => False) w (.cells (fcell ⟨2, ba, bs, []⟩).toArray 82)).trans (Z := fun k => v.ownBlock = some k) hk1 (fun _ _ h => h.elim) (fun _ _ h => h))
  have hB1 := Lib.hid (hk1'.out.old HB.out hvD)
  obtain ⟨d0, d1, d2, d3, d4, hfr1⟩ := five_cells hB1.out
  rw [← fcells_one, ← fcells_append] at ho1
  have ho1' := Lib.hid ho1
  have hb1' := Lib.hid hb1
  clear ho1 hk1 hb1 c0 c1 c2 c3 c4 hfr
  have hf1 := heap_setCell_same (w1.setCell ⟨R, 1, none⟩ (.int .i64 0)) R 2 _ 95 (.int .i64 0) (heap_setCell_same w1 R 1 _ 95 (.int .i64 0) hB1.out)
  have hF1 := Lib.hid (show RBlk ((w1.setCell ⟨R, 1, none⟩ (.int .i64 0)).setCell ⟨R, 2, none⟩ (.int .i64 0)) R fed 0 0 s c from hf1)
  clear hf1
  have hk2 := Lib.hid (show Keep (fun k => k = R) w1 ((w1.setCell ⟨R, 1, none⟩ (.int .i64 0)).setCell ⟨R, 2, none⟩ (.int .i64 0)) from (Keep.setCell w1 R 1 (.int .i64 0)).trans (Keep.setCell _ R 2 (.int .i64 0)) (fun _ _ h => h) (fun _ _ h => h))
  have hg1 : g1 ≠ R := by
    intro h
    subst h
    rcases hb1'.out with h | h
    · exact hvD h
    · omega
  have HG1 := Lib.hid hg1
  clear hg1
  go_wp2_with fail
  go_ret
  refine ⟨_, rfl, ?_, hF1.out, hk1'.out.trans hk2.out (fun _ _ h => .inr h) (fun _ _ h => .inl h), ?_⟩
  · rw [List.length_append, HON.out]
    exact ho1'.out.keep hk2.out (fun g hg => by simp [Value.ownBlock] at hg; rw [← hg]; exact HG1.out)
  · rcases hb1'.out with h | h
    · exact .inl h.symm
    · exact .inr ⟨g1, rfl, by omega⟩

theorem rtell_any (w : World) (R fed ba bs : Nat) (s : ByteArray) (c : Bool) (v : Value) (out : List Fr) (hb : RBlk w R fed ba bs s c)
    (h0 : bs = 0 → ba = 0) (hv : Own w 4 v out.length (fcells out)) (hvD : v.ownBlock ≠ some R) (hn : out.length ≤ 1000000000000) :
    Calls Tryz.prog 168 #[.pointer (some ⟨R, 0, none⟩), v] w (RTellPost w R fed s c v (out ++ tellB ba bs)) := by
  unfold tellB
  by_cases h : bs = 0
  · rw [if_pos h, List.append_nil]
    have ha := h0 h
    rw [h, ha] at hb
    refine (rtell_none w R fed s c v hb).mono ?_
    rintro e w' ⟨rfl, rfl⟩
    exact ⟨v, rfl, hv, hb, Keep.refl _ _, .inl rfl⟩
  · rw [if_neg h]
    exact rtell_some w R fed ba bs s c v out.length out hb (by omega) rfl hv hvD hn
end Go.Proofs.YtmblghdiejneoaaGreat
