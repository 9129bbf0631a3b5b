/- A graph's table: what each row and column is worth. -/
import Derived.Test.YtcaicgipibcicaaGreatQClaim3
import Derived.Test.YtcaicgipibcicaaGreatQWr
import Derived.StillTailTactics
namespace Go.Proofs.YtcaicgipibcicaaGreat
set_option maxRecDepth 100000
set_option linter.unusedVariables false
set_option linter.unusedSimpArgs false
open Go.RowKit Go.Sort

theorem worthAt_next {rows cols : Int} {es : List PEdge} (hg : graphF rows cols es = true) {k : Nat} {x : PEdge} (hx : es[k]? = some x) (r c : Int) : worthAt (es.take (k + 1)) r c = if x.r = r ∧ x.c = c then x.w else worthAt (es.take k) r c := by
  have he : es.take (k + 1) = es.take k ++ [x] := by
    rw [List.take_succ_eq_append_getElem (List.getElem?_eq_some_iff.1 hx).1, (List.getElem?_eq_some_iff.1 hx).2]
  by_cases h : x.r = r ∧ x.c = c
  · rw [if_pos h]
    refine worthAt_hit (k := k) (x := x) ?_ h (fun j y hj hy hh => ?_)
    · rw [List.getElem?_take, if_pos (by omega)]; exact hx
    · rw [List.getElem?_take, if_pos (by omega)] at hy
      have := graphF_lt hg hj hy hx
      omega
  · rw [if_neg h, he]
    unfold worthAt
    rw [List.find?_append]
    have hs : [x].find? (isE r c) = none := by
      rw [List.find?_cons, show isE r c x = false from decide_eq_false h]
      rfl
    rw [hs, Option.or_none]
/-- The cells of a table. -/
structure TabIs (cs : Array Value) (rows cols : Int) (l : List PEdge) : Prop where
  size : cs.size = 4098
  rows : cs[0]? = some (.int .i64 rows)
  cols : cs[1]? = some (.int .i64 cols)
  at_ : ∀ r c : Nat, r < 64 → c < 64 → cs[2 + r * 64 + c]? = some (.int .i64 (worthAt l r c))
def tabZ (rows cols : Int) : Array Value := ((Array.replicate 4098 (Value.int .i64 0)).setIfInBounds 0 (.int .i64 rows)).setIfInBounds 1 (.int .i64 cols)
theorem tabZ_is (rows cols : Int) : TabIs (tabZ rows cols) rows cols [] := by
  unfold tabZ
  refine ⟨by simp, ?_, ?_, fun r c hr hc => ?_⟩
  · rw [Array.getElem?_setIfInBounds]; simp
  · rw [Array.getElem?_setIfInBounds]; simp
  · rw [Array.getElem?_setIfInBounds, if_neg (by omega), Array.getElem?_setIfInBounds, if_neg (by omega), Array.getElem?_replicate, if_pos (by omega)]
    rfl
theorem zero_cells : Tryz.zeroCells135 = Array.replicate 4098 (Value.int .i64 0) := by kernel_rfl
theorem TabIs.set {cs : Array Value} {rows cols : Int} {es : List PEdge} {k : Nat} (h : TabIs cs rows cols (es.take k)) (hg : graphF rows cols es = true) {x : PEdge} (hx : es[k]? = some x) {r c : Nat} (hr : x.r = r) (hc : x.c = c) (hr2 : r < 64) (hc2 : c < 64) :
    TabIs (cs.setIfInBounds (2 + r * 64 + c) (.int .i64 x.w)) rows cols (es.take (k + 1)) := by
  refine ⟨by simpa using h.size, ?_, ?_, fun a b ha hb => ?_⟩
  · rw [Array.getElem?_setIfInBounds, if_neg (by omega)]; exact h.rows
  · rw [Array.getElem?_setIfInBounds, if_neg (by omega)]; exact h.cols
  · rw [worthAt_next hg hx, Array.getElem?_setIfInBounds]
    have hs := h.size
    by_cases he : a = r ∧ b = c
    · obtain ⟨rfl, rfl⟩ := he
      rw [if_pos rfl, if_pos (by omega), if_pos ⟨hr, hc⟩]
    · rw [if_neg (by omega), if_neg (by omega)]
      exact h.at_ a b ha hb
/-- While the table is laid. -/
structure LdRel (w : World) (rows cols : Int) (ev : Value) (l : List PEdge) (k H T : Nat) (wr : World) : Prop where
  g : wr.heap[H]? = some (.cells #[.int .i64 rows, .int .i64 cols, ev] 28 (0, 0))
  t : ∃ cs : Array Value, wr.heap[T]? = some (.cells cs 135 (0, 0)) ∧ TabIs cs rows cols (l.take k)
  below : Below w.heap.size w wr
section
variable {w : World} {rows cols : Int} {ev : Value} {l : List PEdge} {k H T : Nat} {wr w' : World}
theorem LdRel.keep (h : LdRel w rows cols ev l k H T wr) (hb : Below wr.heap.size wr w') : LdRel w rows cols ev l k H T w' := by
  have hk := Keep.of_below hb (Nat.le_refl _) (fun _ => False)
  obtain ⟨cs, h1, h2⟩ := h.t
  exact ⟨hk.old h.g id, ⟨cs, hk.old h1 id, h2⟩, Below.next h.below hb⟩
theorem LdRel.one (h : LdRel w rows cols ev l k H T wr) (o : Obj) : LdRel w rows cols ev l k H T (wr.alloc o) :=
  h.keep ((Below.refl _ _).alloc (Nat.le_refl _) _)
theorem LdRel.cell (h : LdRel w rows cols ev l k H T wr) {r c : Nat} (hr : r < 64) (hc : c < 64) : wr.cell? ⟨T, 2 + r * 64 + c, none⟩ = some (.int .i64 (worthAt (l.take k) r c)) ∧ wr.frozen? ⟨T, 2 + r * 64 + c, none⟩ = false ∧ T < wr.heap.size := by
  obtain ⟨cs, h1, h2⟩ := h.t
  exact ⟨by rw [cell_of_row wr T _ _ _ (0, 0) h1]; exact h2.at_ r c hr hc, frozen_of_row wr T _ _ _ h1, lt_of_block h1⟩
theorem LdRel.next (h : LdRel w rows cols ev l k H T wr) (hw : w.heap.size ≤ T) (hne : H ≠ T) (hg : graphF rows cols l = true) {x : PEdge} (hx : l[k]? = some x) {r c : Nat} (hr : x.r = r) (hc : x.c = c) (hr2 : r < 64) (hc2 : c < 64) :
    LdRel w rows cols ev l (k + 1) H T (wr.setCell ⟨T, 2 + r * 64 + c, none⟩ (.int .i64 x.w)) := by
  obtain ⟨cs, h1, h2⟩ := h.t
  exact ⟨(Keep.setCell _ T _ _).old h.g hne, ⟨_, row_set h1 _ _, h2.set hg hx hr hc hr2 hc2⟩, h.below.trans ((Keep.setCell _ T _ _).below h.below.size (fun k hk he => by omega))⟩
end

set_option maxHeartbeats 8000000 in
theorem laid_any (w : World) (rows cols : Int) (eo : Option Addr) (n c : Nat) (l : List PEdge) (hg : graphF rows cols l = true) (hl : l.length = n) (hr : RdC w eo (cellsOf PEdge.cells l)) (hn : n ≤ 9007199254740992) :
    Calls Tryz.prog 72 #[.agg #[.int .i64 rows, .int .i64 cols, .slice eo n c]] w fun e w' => ∃ T cs, e = .returned (.pointer (some ⟨T, 0, none⟩)) ∧ w'.heap[T]? = some (.cells cs 135 (0, 0)) ∧ TabIs cs rows cols l ∧ Below w.heap.size w w' ∧ w.heap.size ≤ T := by
  have HL := Lib.hid hl
  have HR := Lib.hid hr
  have HG := Lib.hid hg
  clear hl hr hg
  go_enter Tryz.func72, Tryz.ntmps72
  go_wp2_with fail
  have hT0 : TabIs ((Tryz.zeroCells135.setIfInBounds 0 (.int .i64 rows)).setIfInBounds 1 (.int .i64 cols)) rows cols (l.take 0) := by
    rw [zero_cells]
    exact tabZ_is rows cols
  generalize (Tryz.zeroCells135.setIfInBounds 0 (.int .i64 rows)).setIfInBounds 1 (.int .i64 cols) = Z at *
  have HZ := Lib.hid hT0
  clear hT0
  have HW := Lib.hid (show LdRel w rows cols (.slice eo n c) l 0 w.heap.size (w.heap.size + 1) ((w.alloc (.cells #[.int .i64 rows, .int .i64 cols, .slice eo n c] 28)).alloc (.cells Z 135)) from by
    refine ⟨(Keep.alloc (fun _ => False) _ _).old (heap_alloc_new w _) id, ⟨Z, ?_, HZ.out⟩, ((Below.refl w.heap.size w).alloc (Nat.le_refl _) _).alloc (by simp) _⟩
    have := heap_alloc_new (w.alloc (.cells #[.int .i64 rows, .int .i64 cols, .slice eo n c] 28)) (.cells Z 135)
    rw [show (w.alloc (.cells #[.int .i64 rows, .int .i64 cols, .slice eo n c] 28)).heap.size = w.heap.size + 1 by simp] at this
    exact this)
  generalize (w.alloc (.cells #[.int .i64 rows, .int .i64 cols, .slice eo n c] 28)).alloc (.cells Z 135) = W at *
  have HHE := Lib.hid (show ∃ H T, w.heap.size = H ∧ w.heap.size + 1 = T from ⟨_, _, rfl, rfl⟩)
  obtain ⟨H, T, hH0, hH1⟩ := HHE.out
  have HT1 := Lib.hid (show w.heap.size ≤ T by omega)
  have hne : ¬ H = T := by omega
  rw [hH1, hH0] at HW
  rw [hH1]
  try rw [hH0]
  clear hH0 hH1 HHE HZ
  go_loopw [15] (fun i wr => Hid (∃ k : Nat, i = .int .i64 k ∧ k ≤ n ∧ LdRel w rows cols (.slice eo n c) l k H T wr)) (fun i _ => n - (intOf i).toNat)
  case atStart => exact Lib.hid ⟨0, rfl, Nat.zero_le _, HW.out⟩
  case round =>
    clear HW
    obtain ⟨k, rfl, hk, hrel1⟩ := hrel.out
    clear hrel
    have HR1 := Lib.hid hrel1
    clear hrel1
    by_cases hlt : k < n
    · obtain ⟨x, hx⟩ : ∃ x, l[k]? = some x := ⟨l[k]'(by rw [HL.out]; exact hlt), List.getElem?_eq_getElem _⟩
      obtain ⟨b, o, rfl, _⟩ := HR.out.place (by rw [cellsOf_length _ 3 PEdge.cells_length, HL.out]; omega)
      have HCE := Lib.hid (fun (i : Nat) (u : Value) (hu : x.cells[i]? = some u) => show wr.cell? ⟨b, o + k * 3 + i, none⟩ = some u from rdc_cell PEdge.cells_length (HR.out.below HR1.out.below) hx i u hu)
      have hin := graphF_at HG.out hx
      have hhd := graphF_hdr HG.out
      obtain ⟨xr, xc, xw⟩ := x
      obtain ⟨r, rfl⟩ : ∃ r : Nat, xr = r := ⟨xr.toNat, by simp only at hin; omega⟩
      obtain ⟨q, rfl⟩ : ∃ q : Nat, xc = q := ⟨xc.toNat, by simp only at hin; omega⟩
      simp only at hin
      have hr1 : r < 64 := by omega
      have hq1 : q < 64 := by omega
      have HX := Lib.hid hx
      clear hx hin hhd
      have HRB := Lib.hid (HR1.out.one (.cells #[.int .i64 r, .int .i64 q, .int .i64 xw] 114))
      have HE := Lib.hid (heap_alloc_new wr (.cells #[.int .i64 r, .int .i64 q, .int .i64 xw] 114))
      go_wp2_with (first | ((with_reducible refine wpList_load_elem (o := ⟨some 18, _, _, _, _, _⟩) ?_ 114 (.tmp 17) ?_ b (o + k * 3) ?_ (PEdge.cells ⟨r, q, xw⟩) #[.int .i64 r, .int .i64 q, .int .i64 xw] ?_ _ HCE.out Tryz.underlying114 ?_ ?_ ?_); rfl; rfl; rfl; rfl; rfl; exact sz_edge) | ((with_reducible refine wpList_store_new (o := ⟨none, .store 114 (.tmp 5) (.tmp 18), _, _, _, _⟩) ?_ 114 (.tmp 5) (.tmp 18) ?_ _ #[.int .i64 r, .int .i64 q, .int .i64 xw] ?_ ?_ (PEdge.cells ⟨r, q, xw⟩) ?_ ?_ ?_ (PEdge.cells_one _) ?_); rfl; rfl; rfl; rfl; rfl; exact sz_edge; rfl))
      generalize wr.alloc (.cells #[.int .i64 r, .int .i64 q, .int .i64 xw] 114) = W2 at *
      obtain ⟨e0, e1, e2, _⟩ := cells3 HE.out
      obtain ⟨t0, t1, t2⟩ := HRB.out.cell hr1 hq1
      have qr0 : (0 : Int) ≤ (r : Int) := by omega
      have qr1 : (r : Int) < 64 := by omega
      have qq0 : (0 : Int) ≤ (q : Int) := by omega
      have qq1 : (q : Int) < 64 := by omega
      have HNX := Lib.hid (HRB.out.next HT1.out hne HG.out HX.out rfl rfl hr1 hq1)
      go_still_tail 11, (by kernel_rfl)
      change wpList _ _ _ _ _ W2.drew
      go_wp2_with fail
      exact ⟨Lib.hid ⟨k + 1, by go_num, by omega, HNX.out.keep (Below.refl _ _).drew⟩, by simp [intOf]; omega⟩
    · obtain rfl : n = k := by omega
      go_wp2_with fail
      go_ret
      obtain ⟨cs, h1, h2⟩ := HR1.out.t
      rw [List.take_of_length_le (by rw [HL.out]; exact Nat.le_refl _)] at h2
      exact ⟨T, cs, rfl, h1, h2, HR1.out.below, HT1.out⟩
end Go.Proofs.YtcaicgipibcicaaGreat
