/- Some of the chapter's examples: lives. Printed by wip/genlives.py. -/
import Derived.Test.YtcaicgipibcicaaGreatQSmall
namespace Go.Proofs.YtcaicgipibcicaaGreat
set_option maxRecDepth 100000
set_option linter.unusedVariables false
set_option linter.unusedSimpArgs false
open Go.RowKit Go.Sort

def smallC : PConf := ⟨2, 2, 2, 10, 5⟩
def smallX (n m : Int) : PRec := ⟨2, [⟨⟨0, 0, 0, 0, 0, 0, 0, 1, 0, 0, 0, 0, 1, 1, 0, 10⟩, 0, 0⟩, ⟨⟨0, 0, 0, 0, 0, 0, 0, 2, 1, 0, 0, 0, 1, 1, 5, 10⟩, 0, 1⟩], [⟨⟨0, 0, 0, 0, 0, 0, 0, 7, 0, 2, 4, 0, 3⟩, 0⟩], 2, 1, [⟨0, 0, n⟩, ⟨1, 0, 18⟩], [⟨1, 0⟩], [0, m], [13]⟩
theorem small_audit : auditE smallC (smallX 13 5) = 0 ∧ auditE smallC (smallX 12 5) = 260 ∧ auditE smallC (smallX 13 6) = 182 := by decide +kernel
theorem small_conf : configF smallC = true := by decide +kernel
theorem small_see1 : seeF ⟨smallC, 0, []⟩ (smallX 13 5) = (0, ⟨smallC, 2, putP 2 (smallX 13 5).ws (smallX 13 5).ps (putW 2 (smallX 13 5).ws [])⟩) := seeF_4 small_audit.1 (by decide +kernel) (by decide +kernel)
theorem small_see2 (m : List (List Int × PStand)) : seeF ⟨smallC, 2, m⟩ (smallX 13 5) = (262, ⟨smallC, 2, m⟩) := seeF_2 small_audit.1 (show (2 : Int) ≠ 2 + 2 by decide)
theorem small_ok (n m : Int) (hn : i64ok n) (hm : i64ok m) : (smallX n m).Ok := by
  have z : ∀ k : Int, -1000 ≤ k → k ≤ 1000 → i64ok k := fun k h1 h2 => ⟨by omega, by omega⟩
  refine ⟨z 2 (by decide) (by decide), ?_, ?_, z 2 (by decide) (by decide), z 1 (by decide) (by decide), ?_, ?_, ?_, ?_⟩
  · intro w hw
    simp only [smallX, List.mem_cons, List.not_mem_nil, or_false] at hw
    rcases hw with rfl | rfl <;> exact ⟨⟨by unfold u8ok; decide, by unfold i16ok; decide, by unfold i16ok; decide, by unfold u8ok; decide, by unfold u8ok; decide, z _ (by decide) (by decide), z _ (by decide) (by decide)⟩, z _ (by decide) (by decide), z _ (by decide) (by decide)⟩
  · intro w hw
    simp only [smallX, List.mem_cons, List.not_mem_nil, or_false] at hw
    subst hw
    exact ⟨⟨by unfold u8ok; decide, by unfold i16ok; decide, by unfold u8ok; decide, by unfold u8ok; decide, z _ (by decide) (by decide)⟩, z _ (by decide) (by decide)⟩
  · intro w hw
    simp only [smallX, List.mem_cons, List.not_mem_nil, or_false] at hw
    rcases hw with rfl | rfl
    · exact ⟨z 0 (by decide) (by decide), z 0 (by decide) (by decide), hn⟩
    · exact ⟨z _ (by decide) (by decide), z _ (by decide) (by decide), z _ (by decide) (by decide)⟩
  · intro w hw
    simp only [smallX, List.mem_cons, List.not_mem_nil, or_false] at hw
    subst hw
    exact ⟨z _ (by decide) (by decide), z _ (by decide) (by decide)⟩
  · intro w hw
    simp only [smallX, List.mem_cons, List.not_mem_nil, or_false] at hw
    rcases hw with rfl | rfl
    · exact z _ (by decide) (by decide)
    · exact hm
  · intro w hw
    simp only [smallX, List.mem_cons, List.not_mem_nil, or_false] at hw
    subst hw
    exact z _ (by decide) (by decide)
/-- The record where it lies. -/
def smallV (B : Nat) (n m : Int) : RV := ⟨smallX n m, some ⟨B + 5, 0, none⟩, 2, 2, some ⟨B + 7, 0, none⟩, 1, 1, some ⟨B + 8, 0, none⟩, 2, 2, some ⟨B + 9, 0, none⟩, 1, 1, some ⟨B + 10, 0, none⟩, 2, 2, some ⟨B + 11, 0, none⟩, 1, 1⟩
/-- It lies there, one weight and one price being whatever they are. -/
structure SmallX (B : Nat) (n m : Int) (w : World) : Prop where
  ws : w.heap[B + 5]? = some (.cells #[.int .u8 0, .int .u8 0, .int .u8 0, .int .u8 0, .int .u8 0, .int .u8 0, .int .u8 0, .int .u8 1, .int .i16 0, .int .i16 0, .int .i16 0, .int .i16 0, .int .u8 1, .int .u8 1, .int .i64 0, .int .i64 10, .int .i64 0, .int .i64 0, .int .u8 0, .int .u8 0, .int .u8 0, .int .u8 0, .int .u8 0, .int .u8 0, .int .u8 0, .int .u8 2, .int .i16 1, .int .i16 0, .int .i16 0, .int .i16 0, .int .u8 1, .int .u8 1, .int .i64 5, .int .i64 10, .int .i64 0, .int .i64 1] 79 (0, 0))
  ds : w.heap[B + 7]? = some (.cells #[.int .u8 0, .int .u8 0, .int .u8 0, .int .u8 0, .int .u8 0, .int .u8 0, .int .u8 0, .int .u8 7, .int .i16 0, .int .i16 2, .int .u8 4, .int .u8 0, .int .i64 3, .int .i64 0] 83 (0, 0))
  es : w.heap[B + 8]? = some (.cells #[.int .i64 0, .int .i64 0, .int .i64 n, .int .i64 1, .int .i64 0, .int .i64 18] 114 (0, 0))
  ps : w.heap[B + 9]? = some (.cells #[.int .i64 1, .int .i64 0] 69 (0, 0))
  ys : w.heap[B + 10]? = some (.cells #[.int .i64 0, .int .i64 m] 3 (0, 0))
  zs : w.heap[B + 11]? = some (.cells #[.int .i64 13] 3 (0, 0))
theorem SmallX.keep {B : Nat} {n m : Int} {w w' : World} {X : Nat → Prop} (h : SmallX B n m w) (hk : Keep X w w') (hx : ∀ k, 5 ≤ k → k ≤ 11 → ¬ X (B + k)) : SmallX B n m w' :=
  ⟨hk.old h.ws (hx 5 (by omega) (by omega)), hk.old h.ds (hx 7 (by omega) (by omega)), hk.old h.es (hx 8 (by omega) (by omega)), hk.old h.ps (hx 9 (by omega) (by omega)), hk.old h.ys (hx 10 (by omega) (by omega)), hk.old h.zs (hx 11 (by omega) (by omega))⟩
theorem SmallX.setW {B : Nat} {n m : Int} {w : World} (h : SmallX B n m w) (k : Int) : SmallX B k m (w.setCell ⟨B + 8, 2, none⟩ (.int .i64 k)) := by
  have hk := keep1 w (B + 8) 2 (.int .i64 k)
  have q := row_set h.es 2 (.int .i64 k)
  exact ⟨hk.old h.ws (by omega), hk.old h.ds (by omega), by simpa only [List.setIfInBounds_toArray, List.set_cons_zero, List.set_cons_succ] using q, hk.old h.ps (by omega), hk.old h.ys (by omega), hk.old h.zs (by omega)⟩
theorem SmallX.setY {B : Nat} {n m : Int} {w : World} (h : SmallX B n m w) (k : Int) : SmallX B n k (w.setCell ⟨B + 10, 1, none⟩ (.int .i64 k)) := by
  have hk := keep1 w (B + 10) 1 (.int .i64 k)
  have q := row_set h.ys 1 (.int .i64 k)
  exact ⟨hk.old h.ws (by omega), hk.old h.ds (by omega), hk.old h.es (by omega), hk.old h.ps (by omega), by simpa only [List.setIfInBounds_toArray, List.set_cons_zero, List.set_cons_succ] using q, hk.old h.zs (by omega)⟩
theorem box_rdc {w : World} {b : Nat} {vs : Array Value} {t : TypeId} (h : w.heap[b]? = some (.cells vs t (0, 0))) {cs : List Value} (he : cs = vs.toList) : RdC w (some ⟨b, 0, none⟩) cs :=
  .inr ⟨b, 0, rfl, fun j u hu => by rw [Nat.zero_add, cell_of_row w b j vs t (0, 0) h]; subst he; simpa using hu⟩
theorem SmallX.in {B : Nat} {n m : Int} {w : World} (h : SmallX B n m w) (hn : i64ok n) (hm : i64ok m) : (smallV B n m).In w :=
  ⟨rfl, box_rdc h.ws rfl, (show (2 : Nat) ≤ 1048576 by decide), rfl, box_rdc h.ds rfl, (show (1 : Nat) ≤ 1048576 by decide), rfl, box_rdc h.es rfl, (show (2 : Nat) ≤ 1048576 by decide), rfl, box_rdc h.ps rfl, (show (1 : Nat) ≤ 1048576 by decide), rfl, box_rdc h.ys rfl, (show (2 : Nat) ≤ 1048576 by decide), rfl, box_rdc h.zs rfl, (show (1 : Nat) ≤ 1048576 by decide), small_ok n m hn hm⟩


/-- While lives goes on: the two boxes, the record. -/
structure LvRel (B T : Nat) (n m : Int) (w0 wr : World) : Prop where
  c : wr.heap[T]? = some (.cells #[.int .i64 2, .int .i64 2, .int .i64 2, .int .i64 10, .int .i64 5] 23 (0, 0))
  x : wr.heap[T + 1]? = some (.cells #[.int .i64 2, .slice (some ⟨B + 5, 0, none⟩) 2 2, .slice (some ⟨B + 7, 0, none⟩) 1 1, .int .i64 2, .int .i64 1, .slice (some ⟨B + 8, 0, none⟩) 2 2, .slice (some ⟨B + 9, 0, none⟩) 1 1, .slice (some ⟨B + 10, 0, none⟩) 2 2, .slice (some ⟨B + 11, 0, none⟩) 1 1] 34 (0, 0))
  s : SmallX B n m wr
  below : Below w0.heap.size w0 wr
theorem LvRel.keep {B T : Nat} {n m : Int} {w0 wr w' : World} {X : Nat → Prop} (h : LvRel B T n m w0 wr) (hk : Keep X wr w') (h1 : ∀ k, B + 5 ≤ k → k ≤ B + 11 → ¬ X k) (h2 : ¬ X T) (h3 : ¬ X (T + 1)) (h4 : ∀ k, k < w0.heap.size → ¬ X k) : LvRel B T n m w0 w' :=
  ⟨hk.old h.c h2, hk.old h.x h3, h.s.keep hk (fun k hk1 hk2 => h1 _ (by omega) (by omega)), h.below.trans (hk.below h.below.size h4)⟩
theorem LvRel.next {B T : Nat} {n m : Int} {w0 wr w' : World} (h : LvRel B T n m w0 wr) (hb : Below wr.heap.size wr w') : LvRel B T n m w0 w' := h.keep (Keep.of_below hb (Nat.le_refl _) (fun _ => False)) (fun _ _ _ => id) id id (fun _ _ => id)
theorem LvRel.setW {B T : Nat} {n m : Int} {w0 wr : World} (h : LvRel B T n m w0 wr) (hT : B + 11 < T) (hw : w0.heap.size ≤ B) (k : Int) : LvRel B T k m w0 (wr.setCell ⟨B + 8, 2, none⟩ (.int .i64 k)) :=
  ⟨(keep1 wr (B + 8) 2 _).old h.c (by omega), (keep1 wr (B + 8) 2 _).old h.x (by omega), h.s.setW k, h.below.trans ((keep1 wr (B + 8) 2 (.int .i64 k)).below h.below.size (fun i hi he => by omega))⟩
theorem LvRel.setY {B T : Nat} {n m : Int} {w0 wr : World} (h : LvRel B T n m w0 wr) (hT : B + 11 < T) (hw : w0.heap.size ≤ B) (k : Int) : LvRel B T n k w0 (wr.setCell ⟨B + 10, 1, none⟩ (.int .i64 k)) :=
  ⟨(keep1 wr (B + 10) 1 _).old h.c (by omega), (keep1 wr (B + 10) 1 _).old h.x (by omega), h.s.setY k, h.below.trans ((keep1 wr (B + 10) 1 (.int .i64 k)).below h.below.size (fun i hi he => by omega))⟩

set_option maxHeartbeats 16000000 in
theorem lives_any (w : World) : Calls Tryz.prog 16 #[] w fun e w' => e = .returned (.bool true) ∧ Below w.heap.size w w' := by
  go_enter Tryz.func16, Tryz.ntmps16
  go_wp2_with fail
  refine (small_any w).mono ?_
  rintro e w2 ⟨rfl, hs, hb2⟩
  have hlt2 : w.heap.size + 11 < w2.heap.size := lt_of_block hs.zs
  obtain ⟨W, hW, hc, hx, hbW⟩ : ∃ W, (w2.alloc (.cells #[.int .i64 2, .int .i64 2, .int .i64 2, .int .i64 10, .int .i64 5] 23)).alloc (.cells #[.int .i64 2, .slice (some ⟨w.heap.size + 5, 0, none⟩) 2 2, .slice (some ⟨w.heap.size + 7, 0, none⟩) 1 1, .int .i64 2, .int .i64 1, .slice (some ⟨w.heap.size + 8, 0, none⟩) 2 2, .slice (some ⟨w.heap.size + 9, 0, none⟩) 1 1, .slice (some ⟨w.heap.size + 10, 0, none⟩) 2 2, .slice (some ⟨w.heap.size + 11, 0, none⟩) 1 1] 34) = W ∧ W.heap[w2.heap.size]? = some (.cells #[.int .i64 2, .int .i64 2, .int .i64 2, .int .i64 10, .int .i64 5] 23 (0, 0)) ∧ W.heap[w2.heap.size + 1]? = some (.cells #[.int .i64 2, .slice (some ⟨w.heap.size + 5, 0, none⟩) 2 2, .slice (some ⟨w.heap.size + 7, 0, none⟩) 1 1, .int .i64 2, .int .i64 1, .slice (some ⟨w.heap.size + 8, 0, none⟩) 2 2, .slice (some ⟨w.heap.size + 9, 0, none⟩) 1 1, .slice (some ⟨w.heap.size + 10, 0, none⟩) 2 2, .slice (some ⟨w.heap.size + 11, 0, none⟩) 1 1] 34 (0, 0)) ∧ Below w2.heap.size w2 W := by
    refine ⟨_, rfl, (Keep.alloc (fun _ => False) _ _).old (heap_alloc_new w2 _) id, ?_, ((Below.refl _ _).alloc (Nat.le_refl _) _).alloc (by simp) _⟩
    have := heap_alloc_new (w2.alloc (.cells #[.int .i64 2, .int .i64 2, .int .i64 2, .int .i64 10, .int .i64 5] 23)) (.cells #[.int .i64 2, .slice (some ⟨w.heap.size + 5, 0, none⟩) 2 2, .slice (some ⟨w.heap.size + 7, 0, none⟩) 1 1, .int .i64 2, .int .i64 1, .slice (some ⟨w.heap.size + 8, 0, none⟩) 2 2, .slice (some ⟨w.heap.size + 9, 0, none⟩) 1 1, .slice (some ⟨w.heap.size + 10, 0, none⟩) 2 2, .slice (some ⟨w.heap.size + 11, 0, none⟩) 1 1] 34)
    rw [show (w2.alloc (.cells #[.int .i64 2, .int .i64 2, .int .i64 2, .int .i64 10, .int .i64 5] 23)).heap.size = w2.heap.size + 1 by simp] at this
    exact this
  have HL := Lib.hid (show LvRel w.heap.size w2.heap.size 13 5 w W from
    have hk := Keep.of_below hbW (Nat.le_refl _) (fun _ => False)
    ⟨hc, hx, SmallX.keep (w := w2) ⟨hs.ws, hs.ds, hs.es, hs.ps, hs.ys, hs.zs⟩ hk (fun _ _ _ => id), Below.next hb2 hbW⟩)
  have HW := Lib.hid hW
  have HLT := Lib.hid hlt2
  have HTW := Lib.hid (lt_of_block hx)
  clear hs hb2 hlt2 hW hc hx hbW
  go_wp2_with fail
  rw [HW.out]
  obtain ⟨B, hB⟩ : ∃ B, w.heap.size = B := ⟨_, rfl⟩
  obtain ⟨T, hT⟩ : ∃ T, w2.heap.size = T := ⟨_, rfl⟩
  have HBB := Lib.hid hB
  rw [hB] at HL HLT ⊢
  rw [hT] at HL HLT HTW ⊢
  clear hB hT HW
  have hin := fun (n m : Int) (hn : i64ok n) (hm : i64ok m) (w' : World) (h : LvRel B T n m w w') => (h.s.in hn hm : (smallV B n m).In w')
  have HIN := Lib.hid hin
  clear hin
  have z13 : i64ok 13 := ⟨by decide, by decide⟩
  have z12 : i64ok 12 := ⟨by decide, by decide⟩
  have z5 : i64ok 5 := ⟨by decide, by decide⟩
  have z6 : i64ok 6 := ⟨by decide, by decide⟩
  refine (newAu_any W smallC).mono ?_
  rintro e w3 (⟨hc, _⟩ | ⟨hc, A, M, rfl, hb3, hau, hA, hM, hAM⟩)
  · rw [small_conf] at hc; cases hc
  have HR3 := Lib.hid (HL.out.next hb3)
  have HAU3 := Lib.hid hau
  have HA := Lib.hid hA
  have HM := Lib.hid hM
  have HAM := Lib.hid hAM
  have HX := Lib.hid (show ∀ k, k ≤ T + 1 → ¬ (k = A ∨ k = M) from fun k hk h => by have := HTW.out; omega)
  have HAP := Lib.hid (show ∀ n m, Apart2 (smallV B n m) A M from fun n m ao h b o e => by
    have hl := HLT.out
    refine HX.out b ?_
    rcases h with rfl | rfl | rfl | rfl | rfl | rfl <;> (simp only [smallV, Option.some.injEq, Addr.mk.injEq] at e; omega))
  clear hc hb3 hau hA hM hAM
  obtain ⟨c0, c1, c2, c3, c4⟩ := conf_cells (c := smallC) HR3.out.c
  obtain ⟨x0, x1, x2, x3, x4, x5, x6, x7, x8⟩ := cells9 HR3.out.x
  go_wp2_with fail
  clear c0 c1 c2 c3 c4 x0 x1 x2 x3 x4 x5 x6 x7 x8
  refine (audit_any w3 smallC (smallV B 13 5) (HIN.out 13 5 z13 z5 _ HR3.out)).mono ?_
  rintro e w4 ⟨rfl, hb4⟩
  have HR4 := Lib.hid (HR3.out.next hb4)
  have HAU4 := Lib.hid (HAU3.out.keep hb4)
  rw [show auditE smallC (smallV B 13 5).x = 0 from small_audit.1]
  clear hb4
  obtain ⟨c0, c1, c2, c3, c4⟩ := conf_cells (c := smallC) HR4.out.c
  obtain ⟨x0, x1, x2, x3, x4, x5, x6, x7, x8⟩ := cells9 HR4.out.x
  go_wp2_with fail
  clear c0 c1 c2 c3 c4 x0 x1 x2 x3 x4 x5 x6 x7 x8
  refine (see_any w4 ⟨smallC, 0, []⟩ A M 0 (smallV B 13 5) HAU4.out (HIN.out 13 5 z13 z5 _ HR4.out) (HAP.out 13 5) HAM.out small_conf ⟨by decide, by decide⟩ (by decide)).mono ?_
  rintro e w5 ⟨rfl, hau5, k5⟩
  rw [show seeF ⟨smallC, 0, []⟩ (smallV B 13 5).x = _ from small_see1] at hau5 ⊢
  have HR5 := Lib.hid (HR4.out.keep k5 (fun k h1 h2 => HX.out k (by have := HLT.out; omega)) (HX.out T (by omega)) (HX.out (T + 1) (by omega)) (fun k hk => HX.out k (by have := HBB.out; have := HLT.out; omega)))
  have HAU5 := Lib.hid hau5
  clear hau5 k5
  generalize putP 2 (smallX 13 5).ws (smallX 13 5).ps (putW 2 (smallX 13 5).ws []) = m at *
  obtain ⟨c0, c1, c2, c3, c4⟩ := conf_cells (c := smallC) HR5.out.c
  obtain ⟨x0, x1, x2, x3, x4, x5, x6, x7, x8⟩ := cells9 HR5.out.x
  go_wp2_with fail
  clear c0 c1 c2 c3 c4 x0 x1 x2 x3 x4 x5 x6 x7 x8
  refine (see_any w5 ⟨smallC, 2, m⟩ A M (0 + 128) (smallV B 13 5) HAU5.out (HIN.out 13 5 z13 z5 _ HR5.out) (HAP.out 13 5) HAM.out small_conf ⟨show (0 : Int) ≤ 2 by decide, show (2 : Int) ≤ 1099511627776 by decide⟩ (by decide)).mono ?_
  rintro e w6 ⟨rfl, hau6, k6⟩
  rw [show seeF ⟨smallC, 2, m⟩ (smallV B 13 5).x = _ from small_see2 m] at hau6 ⊢
  have HR6 := Lib.hid (HR5.out.keep k6 (fun k h1 h2 => HX.out k (by have := HLT.out; omega)) (HX.out T (by omega)) (HX.out (T + 1) (by omega)) (fun k hk => HX.out k (by have := HBB.out; have := HLT.out; omega)))
  clear hau6 k6
  have HR7 := Lib.hid (HR6.out.setW HLT.out (by have := HBB.out; omega) 12)
  obtain ⟨c0, c1, c2, c3, c4⟩ := conf_cells (c := smallC) HR6.out.c
  obtain ⟨x0, x1, x2, x3, x4, x5, x6, x7, x8⟩ := cells9 HR6.out.x
  have e2 : w6.cell? ⟨B + 8, 2, none⟩ = some (.int .i64 13) := by rw [cell_of_row w6 _ _ _ _ (0, 0) HR6.out.s.es]; rfl
  have ef := fun j => frozen_of_row w6 (B + 8) j _ _ HR6.out.s.es
  obtain ⟨d0, d1, d2, d3, d4⟩ := conf_cells (c := smallC) HR7.out.c
  obtain ⟨y0, y1, y2, y3, y4, y5, y6, y7, y8⟩ := cells9 HR7.out.x
  go_wp2_with fail
  clear c0 c1 c2 c3 c4 x0 x1 x2 x3 x4 x5 x6 x7 x8 d0 d1 d2 d3 d4 y0 y1 y2 y3 y4 y5 y6 y7 y8 e2 ef
  generalize w6.setCell ⟨B + 8, 2, none⟩ (.int .i64 12) = w7 at *
  refine (audit_any w7 smallC (smallV B 12 5) (HIN.out 12 5 z12 z5 _ HR7.out)).mono ?_
  rintro e w8 ⟨rfl, hb8⟩
  have HR8 := Lib.hid (HR7.out.next hb8)
  rw [show auditE smallC (smallV B 12 5).x = 260 from small_audit.2.1]
  clear hb8
  have HR9 := Lib.hid (HR8.out.setW HLT.out (by have := HBB.out; omega) 13)
  have HR10 := Lib.hid (HR9.out.setY HLT.out (by have := HBB.out; omega) 6)
  obtain ⟨c0, c1, c2, c3, c4⟩ := conf_cells (c := smallC) HR8.out.c
  obtain ⟨x0, x1, x2, x3, x4, x5, x6, x7, x8⟩ := cells9 HR8.out.x
  have e2 : w8.cell? ⟨B + 8, 2, none⟩ = some (.int .i64 12) := by rw [cell_of_row w8 _ _ _ _ (0, 0) HR8.out.s.es]; rfl
  have ef := fun j => frozen_of_row w8 (B + 8) j _ _ HR8.out.s.es
  have u1 : w8.cell? ⟨B + 10, 1, none⟩ = some (.int .i64 5) := by rw [cell_of_row w8 _ _ _ _ (0, 0) HR8.out.s.ys]; rfl
  have uf := fun j => frozen_of_row w8 (B + 10) j _ _ HR8.out.s.ys
  obtain ⟨d0, d1, d2, d3, d4⟩ := conf_cells (c := smallC) HR9.out.c
  obtain ⟨y0, y1, y2, y3, y4, y5, y6, y7, y8⟩ := cells9 HR9.out.x
  obtain ⟨g0, g1, g2, g3, g4⟩ := conf_cells (c := smallC) HR10.out.c
  obtain ⟨h0, h1, h2, h3, h4, h5, h6, h7, h8⟩ := cells9 HR10.out.x
  go_wp2_with fail
  clear c0 c1 c2 c3 c4 x0 x1 x2 x3 x4 x5 x6 x7 x8 d0 d1 d2 d3 d4 y0 y1 y2 y3 y4 y5 y6 y7 y8 g0 g1 g2 g3 g4 h0 h1 h2 h3 h4 h5 h6 h7 h8 e2 ef u1 uf
  generalize (w8.setCell ⟨B + 8, 2, none⟩ (.int .i64 13)).setCell ⟨B + 10, 1, none⟩ (.int .i64 6) = w9 at *
  refine (audit_any w9 smallC (smallV B 13 6) (HIN.out 13 6 z13 z6 _ HR10.out)).mono ?_
  rintro e w10 ⟨rfl, hb10⟩
  have HR11 := Lib.hid (HR10.out.next hb10)
  rw [show auditE smallC (smallV B 13 6).x = 182 from small_audit.2.2]
  clear hb10
  have hev : ∀ w, (Op.equalIn 10000 62 (.agg #[.int .i64 0, .int .i64 0, .int .i64 250]) (.agg #[.int .i64 0, .int .i64 0, .int .i64 250])).run Tryz.prog w = .ok true w := fun w => by kernel_rfl
  go_wp2_with fail
  refine (log_nil w10).mono ?_
  rintro e w11 ⟨rfl, hb11⟩
  have HR12 := Lib.hid (HR11.out.next hb11)
  clear hb11
  go_wp2_with fail
  go_ret
  exact ⟨rfl, HR12.out.below⟩
end Go.Proofs.YtcaicgipibcicaaGreat
