/- Twins of records. Printed by wip/gentwinrec.py. -/
import Derived.Test.YtcaicgipibcicaaGreatQTwinRec
namespace Go.Proofs.YtcaicgipibcicaaGreat
set_option maxRecDepth 100000
set_option linter.unusedVariables false
set_option linter.unusedSimpArgs false
open Go.RowKit Go.Sort

/-- A record, its lists elsewhere. -/
def RV.twin (v : RV) (g1 g2 g3 g4 g5 g6 : Nat) : RV := ⟨v.x, some ⟨g1, 0, none⟩, v.wn, v.wn + 1, some ⟨g2, 0, none⟩, v.kn, v.kn + 1, some ⟨g3, 0, none⟩, v.en, v.en + 1, some ⟨g4, 0, none⟩, v.pn, v.pn + 1, some ⟨g5, 0, none⟩, v.yn, v.yn + 1, some ⟨g6, 0, none⟩, v.zn, v.zn + 1⟩
/-- The lists lie there, each with its mark behind it. -/
structure TwinR (v : RV) (g1 g2 g3 g4 g5 g6 : Nat) (w' : World) : Prop where
  w : w'.rangeAt g1 0 (cellsOf PWait.cells v.x.ws ++ markWc)
  k : w'.rangeAt g2 0 (cellsOf PIdle.cells v.x.ds ++ markDc)
  e : w'.rangeAt g3 0 (cellsOf PEdge.cells v.x.es ++ markEc)
  p : w'.rangeAt g4 0 (cellsOf PPair.cells v.x.ps ++ markPc)
  y : w'.rangeAt g5 0 (cellsOf icell v.x.ys ++ markIc)
  z : w'.rangeAt g6 0 (cellsOf icell v.x.zs ++ markIc)
  rw : w'.there g1 0 ((cellsOf PWait.cells v.x.ws).length + markWc.length)
  rk : w'.there g2 0 ((cellsOf PIdle.cells v.x.ds).length + markDc.length)
  re : w'.there g3 0 ((cellsOf PEdge.cells v.x.es).length + markEc.length)
  rp : w'.there g4 0 ((cellsOf PPair.cells v.x.ps).length + markPc.length)
theorem TwinR.keep {v : RV} {g1 g2 g3 g4 g5 g6 : Nat} {w w' : World} (h : TwinR v g1 g2 g3 g4 g5 g6 w) (hb : Below w.heap.size w w') : TwinR v g1 g2 g3 g4 g5 g6 w' :=
  ⟨range_below h.w hb, range_below h.k hb, range_below h.e hb, range_below h.p hb, range_below h.y hb, range_below h.z hb, there_below h.rw hb, there_below h.rk hb, there_below h.re hb, there_below h.rp hb⟩
theorem range_rdc {w : World} {g : Nat} {xs m : List Value} (h : w.rangeAt g 0 (xs ++ m)) : RdC w (some ⟨g, 0, none⟩) xs :=
  .inr ⟨g, 0, rfl, fun j u hu => h j u (by rw [List.getElem?_append_left (List.getElem?_eq_some_iff.1 hu).1]; exact hu)⟩
theorem TwinR.in {v : RV} {g1 g2 g3 g4 g5 g6 : Nat} {w0 w : World} (h : TwinR v g1 g2 g3 g4 g5 g6 w) (hin : v.In w0) : (v.twin g1 g2 g3 g4 g5 g6).In w :=
  ⟨hin.wl, range_rdc h.w, hin.wb, hin.kl, range_rdc h.k, hin.kb, hin.el, range_rdc h.e, hin.eb, hin.pl, range_rdc h.p, hin.pb, hin.yl, range_rdc h.y, hin.yb, hin.zl, range_rdc h.z, hin.zb, hin.ok⟩

theorem set9 {w : World} {B : Nat} {t : TypeId} {z0 z1 z2 z3 z4 z5 z6 z7 z8 : Value} (h : w.heap[B + 1]? = some (.cells #[z0, z1, z2, z3, z4, z5, z6, z7, z8] t (0, 0))) (a0 a1 a2 a3 a4 a5 a6 a7 a8 : Value) :
    (((((((((w.setCell ⟨B + 1, 0, none⟩ (a0)).setCell ⟨B + 1, 1, none⟩ (a1)).setCell ⟨B + 1, 2, none⟩ (a2)).setCell ⟨B + 1, 3, none⟩ (a3)).setCell ⟨B + 1, 4, none⟩ (a4)).setCell ⟨B + 1, 5, none⟩ (a5)).setCell ⟨B + 1, 6, none⟩ (a6)).setCell ⟨B + 1, 7, none⟩ (a7)).setCell ⟨B + 1, 8, none⟩ (a8)).heap[B + 1]? = some (.cells #[a0, a1, a2, a3, a4, a5, a6, a7, a8] t (0, 0)) := by
  have q := (row_set (row_set (row_set (row_set (row_set (row_set (row_set (row_set (row_set h 0 (a0)) 1 (a1)) 2 (a2)) 3 (a3)) 4 (a4)) 5 (a5)) 6 (a6)) 7 (a7)) 8 (a8))
  simpa only [List.setIfInBounds_toArray, List.set_cons_zero, List.set_cons_succ] using q
theorem keep9 (w : World) (B : Nat) (a0 a1 a2 a3 a4 a5 a6 a7 a8 : Value) : Keep (fun k => k = B + 1) w (((((((((w.setCell ⟨B + 1, 0, none⟩ (a0)).setCell ⟨B + 1, 1, none⟩ (a1)).setCell ⟨B + 1, 2, none⟩ (a2)).setCell ⟨B + 1, 3, none⟩ (a3)).setCell ⟨B + 1, 4, none⟩ (a4)).setCell ⟨B + 1, 5, none⟩ (a5)).setCell ⟨B + 1, 6, none⟩ (a6)).setCell ⟨B + 1, 7, none⟩ (a7)).setCell ⟨B + 1, 8, none⟩ (a8)) := (((((((((keep1 w (B + 1) 0 (a0)).trans (keep1 _ (B + 1) 1 (a1)) (fun _ _ h => h) (fun _ _ h => h) (Z := fun k => k = B + 1)).trans (keep1 _ (B + 1) 2 (a2)) (fun _ _ h => h) (fun _ _ h => h) (Z := fun k => k = B + 1)).trans (keep1 _ (B + 1) 3 (a3)) (fun _ _ h => h) (fun _ _ h => h) (Z := fun k => k = B + 1)).trans (keep1 _ (B + 1) 4 (a4)) (fun _ _ h => h) (fun _ _ h => h) (Z := fun k => k = B + 1)).trans (keep1 _ (B + 1) 5 (a5)) (fun _ _ h => h) (fun _ _ h => h) (Z := fun k => k = B + 1)).trans (keep1 _ (B + 1) 6 (a6)) (fun _ _ h => h) (fun _ _ h => h) (Z := fun k => k = B + 1)).trans (keep1 _ (B + 1) 7 (a7)) (fun _ _ h => h) (fun _ _ h => h) (Z := fun k => k = B + 1)).trans (keep1 _ (B + 1) 8 (a8)) (fun _ _ h => h) (fun _ _ h => h) (Z := fun k => k = B + 1))

set_option maxHeartbeats 8000000 in
theorem twinRecord_any (w : World) (v : RV) (hin : v.In w) :
    Calls Tryz.prog 12 #[.agg #[.int .i64 v.x.tick, .slice v.wo v.wn v.wc, .slice v.ko v.kn v.kc, .int .i64 v.x.rows, .int .i64 v.x.cols, .slice v.eo v.en v.ec, .slice v.po v.pn v.pc, .slice v.yo v.yn v.yc, .slice v.zo v.zn v.zc]] w fun e w' => ∃ G1 G2 G3 G4 G5 G6, e = .returned (.agg #[.int .i64 (v.twin G1 G2 G3 G4 G5 G6).x.tick, .slice (v.twin G1 G2 G3 G4 G5 G6).wo (v.twin G1 G2 G3 G4 G5 G6).wn (v.twin G1 G2 G3 G4 G5 G6).wc, .slice (v.twin G1 G2 G3 G4 G5 G6).ko (v.twin G1 G2 G3 G4 G5 G6).kn (v.twin G1 G2 G3 G4 G5 G6).kc, .int .i64 (v.twin G1 G2 G3 G4 G5 G6).x.rows, .int .i64 (v.twin G1 G2 G3 G4 G5 G6).x.cols, .slice (v.twin G1 G2 G3 G4 G5 G6).eo (v.twin G1 G2 G3 G4 G5 G6).en (v.twin G1 G2 G3 G4 G5 G6).ec, .slice (v.twin G1 G2 G3 G4 G5 G6).po (v.twin G1 G2 G3 G4 G5 G6).pn (v.twin G1 G2 G3 G4 G5 G6).pc, .slice (v.twin G1 G2 G3 G4 G5 G6).yo (v.twin G1 G2 G3 G4 G5 G6).yn (v.twin G1 G2 G3 G4 G5 G6).yc, .slice (v.twin G1 G2 G3 G4 G5 G6).zo (v.twin G1 G2 G3 G4 G5 G6).zn (v.twin G1 G2 G3 G4 G5 G6).zc]) ∧ Below w.heap.size w w' ∧ TwinR v G1 G2 G3 G4 G5 G6 w' ∧
      (w.heap.size ≤ G1 ∧ w.heap.size ≤ G2 ∧ w.heap.size ≤ G3 ∧ w.heap.size ≤ G4 ∧ w.heap.size ≤ G5 ∧ w.heap.size ≤ G6) := by
  obtain ⟨W, hW, hb1, hb2, hbel⟩ := boxes2 w #[.int .i64 v.x.tick, .slice v.wo v.wn v.wc, .slice v.ko v.kn v.kc, .int .i64 v.x.rows, .int .i64 v.x.cols, .slice v.eo v.en v.ec, .slice v.po v.pn v.pc, .slice v.yo v.yn v.yc, .slice v.zo v.zn v.zc] #[.int .i64 0, .slice none 0 0, .slice none 0 0, .int .i64 0, .int .i64 0, .slice none 0 0, .slice none 0 0, .slice none 0 0, .slice none 0 0] 34
  have HIN := Lib.hid (hin.keep hbel)
  have HBEL := Lib.hid hbel
  have HB2 := Lib.hid hb2
  have HW := Lib.hid hW
  clear hin hbel hb2 hW
  go_enter Tryz.func12, Tryz.ntmps12
  go_wp2_with fail
  rw [HW.out]
  obtain ⟨B, hB⟩ : ∃ B, w.heap.size = B := ⟨_, rfl⟩
  have HBH := Lib.hid hB
  rw [hB] at hb1 HB2 ⊢
  clear hB
  have hlt := Lib.hid (lt_of_block HB2.out)
  obtain ⟨g0, g1, g2, g3, g4, g5, g6, g7, g8⟩ := cells9 hb1
  have HS := Lib.hid (fun (w' : World) (hk : Below W.heap.size W w') => show w'.cell? ⟨B, 0, none⟩ = some (.int .i64 v.x.tick) ∧ w'.cell? ⟨B, 1, none⟩ = some (.slice v.wo v.wn v.wc) ∧ w'.cell? ⟨B, 2, none⟩ = some (.slice v.ko v.kn v.kc) ∧ w'.cell? ⟨B, 3, none⟩ = some (.int .i64 v.x.rows) ∧ w'.cell? ⟨B, 4, none⟩ = some (.int .i64 v.x.cols) ∧ w'.cell? ⟨B, 5, none⟩ = some (.slice v.eo v.en v.ec) ∧ w'.cell? ⟨B, 6, none⟩ = some (.slice v.po v.pn v.pc) ∧ w'.cell? ⟨B, 7, none⟩ = some (.slice v.yo v.yn v.yc) ∧ w'.cell? ⟨B, 8, none⟩ = some (.slice v.zo v.zn v.zc) from
    have k := Keep.of_below hk (Nat.le_refl _) (fun _ => False)
    ⟨k.cell g0 id, k.cell g1 id, k.cell g2 id, k.cell g3 id, k.cell g4 id, k.cell g5 id, k.cell g6 id, k.cell g7 id, k.cell g8 id⟩)
  have HSK := Lib.hid (fun (w' w'' : World) (hk : Below W.heap.size W w') (k : Keep (fun k => k = B + 1) w' w'') => show w''.cell? ⟨B, 0, none⟩ = some (.int .i64 v.x.tick) ∧ w''.cell? ⟨B, 1, none⟩ = some (.slice v.wo v.wn v.wc) ∧ w''.cell? ⟨B, 2, none⟩ = some (.slice v.ko v.kn v.kc) ∧ w''.cell? ⟨B, 3, none⟩ = some (.int .i64 v.x.rows) ∧ w''.cell? ⟨B, 4, none⟩ = some (.int .i64 v.x.cols) ∧ w''.cell? ⟨B, 5, none⟩ = some (.slice v.eo v.en v.ec) ∧ w''.cell? ⟨B, 6, none⟩ = some (.slice v.po v.pn v.pc) ∧ w''.cell? ⟨B, 7, none⟩ = some (.slice v.yo v.yn v.yc) ∧ w''.cell? ⟨B, 8, none⟩ = some (.slice v.zo v.zn v.zc) from by
    obtain ⟨s0, s1, s2, s3, s4, s5, s6, s7, s8⟩ := HS.out w' hk
    exact ⟨k.cell s0 (by simp), k.cell s1 (by simp), k.cell s2 (by simp), k.cell s3 (by simp), k.cell s4 (by simp), k.cell s5 (by simp), k.cell s6 (by simp), k.cell s7 (by simp), k.cell s8 (by simp)⟩)
  have HSX := Lib.hid (fun (w' : World) (hk : Below W.heap.size W w') (a0 a1 a2 a3 a4 a5 a6 a7 a8 : Value) => show (((((((((w'.setCell ⟨B + 1, 0, none⟩ (a0)).setCell ⟨B + 1, 1, none⟩ (a1)).setCell ⟨B + 1, 2, none⟩ (a2)).setCell ⟨B + 1, 3, none⟩ (a3)).setCell ⟨B + 1, 4, none⟩ (a4)).setCell ⟨B + 1, 5, none⟩ (a5)).setCell ⟨B + 1, 6, none⟩ (a6)).setCell ⟨B + 1, 7, none⟩ (a7)).setCell ⟨B + 1, 8, none⟩ (a8)).cell? ⟨B, 0, none⟩ = some (.int .i64 v.x.tick) ∧ (((((((((w'.setCell ⟨B + 1, 0, none⟩ (a0)).setCell ⟨B + 1, 1, none⟩ (a1)).setCell ⟨B + 1, 2, none⟩ (a2)).setCell ⟨B + 1, 3, none⟩ (a3)).setCell ⟨B + 1, 4, none⟩ (a4)).setCell ⟨B + 1, 5, none⟩ (a5)).setCell ⟨B + 1, 6, none⟩ (a6)).setCell ⟨B + 1, 7, none⟩ (a7)).setCell ⟨B + 1, 8, none⟩ (a8)).cell? ⟨B, 1, none⟩ = some (.slice v.wo v.wn v.wc) ∧ (((((((((w'.setCell ⟨B + 1, 0, none⟩ (a0)).setCell ⟨B + 1, 1, none⟩ (a1)).setCell ⟨B + 1, 2, none⟩ (a2)).setCell ⟨B + 1, 3, none⟩ (a3)).setCell ⟨B + 1, 4, none⟩ (a4)).setCell ⟨B + 1, 5, none⟩ (a5)).setCell ⟨B + 1, 6, none⟩ (a6)).setCell ⟨B + 1, 7, none⟩ (a7)).setCell ⟨B + 1, 8, none⟩ (a8)).cell? ⟨B, 2, none⟩ = some (.slice v.ko v.kn v.kc) ∧ (((((((((w'.setCell ⟨B + 1, 0, none⟩ (a0)).setCell ⟨B + 1, 1, none⟩ (a1)).setCell ⟨B + 1, 2, none⟩ (a2)).setCell ⟨B + 1, 3, none⟩ (a3)).setCell ⟨B + 1, 4, none⟩ (a4)).setCell ⟨B + 1, 5, none⟩ (a5)).setCell ⟨B + 1, 6, none⟩ (a6)).setCell ⟨B + 1, 7, none⟩ (a7)).setCell ⟨B + 1, 8, none⟩ (a8)).cell? ⟨B, 3, none⟩ = some (.int .i64 v.x.rows) ∧ (((((((((w'.setCell ⟨B + 1, 0, none⟩ (a0)).setCell ⟨B + 1, 1, none⟩ (a1)).setCell ⟨B + 1, 2, none⟩ (a2)).setCell ⟨B + 1, 3, none⟩ (a3)).setCell ⟨B + 1, 4, none⟩ (a4)).setCell ⟨B + 1, 5, none⟩ (a5)).setCell ⟨B + 1, 6, none⟩ (a6)).setCell ⟨B + 1, 7, none⟩ (a7)).setCell ⟨B + 1, 8, none⟩ (a8)).cell? ⟨B, 4, none⟩ = some (.int .i64 v.x.cols) ∧ (((((((((w'.setCell ⟨B + 1, 0, none⟩ (a0)).setCell ⟨B + 1, 1, none⟩ (a1)).setCell ⟨B + 1, 2, none⟩ (a2)).setCell ⟨B + 1, 3, none⟩ (a3)).setCell ⟨B + 1, 4, none⟩ (a4)).setCell ⟨B + 1, 5, none⟩ (a5)).setCell ⟨B + 1, 6, none⟩ (a6)).setCell ⟨B + 1, 7, none⟩ (a7)).setCell ⟨B + 1, 8, none⟩ (a8)).cell? ⟨B, 5, none⟩ = some (.slice v.eo v.en v.ec) ∧ (((((((((w'.setCell ⟨B + 1, 0, none⟩ (a0)).setCell ⟨B + 1, 1, none⟩ (a1)).setCell ⟨B + 1, 2, none⟩ (a2)).setCell ⟨B + 1, 3, none⟩ (a3)).setCell ⟨B + 1, 4, none⟩ (a4)).setCell ⟨B + 1, 5, none⟩ (a5)).setCell ⟨B + 1, 6, none⟩ (a6)).setCell ⟨B + 1, 7, none⟩ (a7)).setCell ⟨B + 1, 8, none⟩ (a8)).cell? ⟨B, 6, none⟩ = some (.slice v.po v.pn v.pc) ∧ (((((((((w'.setCell ⟨B + 1, 0, none⟩ (a0)).setCell ⟨B + 1, 1, none⟩ (a1)).setCell ⟨B + 1, 2, none⟩ (a2)).setCell ⟨B + 1, 3, none⟩ (a3)).setCell ⟨B + 1, 4, none⟩ (a4)).setCell ⟨B + 1, 5, none⟩ (a5)).setCell ⟨B + 1, 6, none⟩ (a6)).setCell ⟨B + 1, 7, none⟩ (a7)).setCell ⟨B + 1, 8, none⟩ (a8)).cell? ⟨B, 7, none⟩ = some (.slice v.yo v.yn v.yc) ∧ (((((((((w'.setCell ⟨B + 1, 0, none⟩ (a0)).setCell ⟨B + 1, 1, none⟩ (a1)).setCell ⟨B + 1, 2, none⟩ (a2)).setCell ⟨B + 1, 3, none⟩ (a3)).setCell ⟨B + 1, 4, none⟩ (a4)).setCell ⟨B + 1, 5, none⟩ (a5)).setCell ⟨B + 1, 6, none⟩ (a6)).setCell ⟨B + 1, 7, none⟩ (a7)).setCell ⟨B + 1, 8, none⟩ (a8)).cell? ⟨B, 8, none⟩ = some (.slice v.zo v.zn v.zc) from by
    exact HSK.out _ _ hk (keep9 w' B a0 a1 a2 a3 a4 a5 a6 a7 a8))
  have HBO := Lib.hid (fun (w' : World) (hk : Below W.heap.size W w') => show w'.heap[B + 1]? = some (.cells #[.int .i64 0, .slice none 0 0, .slice none 0 0, .int .i64 0, .int .i64 0, .slice none 0 0, .slice none 0 0, .slice none 0 0, .slice none 0 0] 34 (0, 0)) from (Keep.of_below hk (Nat.le_refl _) (fun _ => False)).old HB2.out id)
  have HD := Lib.hid (show Below W.heap.size W W.drew from (Below.refl _ _).drew)
  have HD0 := Lib.hid (Below.refl W.heap.size W)
  clear g0 g1 g2 g3 g4 g5 g6 g7 g8 hb1
  go_region_held3 (fun w' => w'.cell? ⟨B, 0, none⟩ = some (.int .i64 v.x.tick) ∧ w'.cell? ⟨B, 1, none⟩ = some (.slice v.wo v.wn v.wc) ∧ w'.cell? ⟨B, 2, none⟩ = some (.slice v.ko v.kn v.kc) ∧ w'.cell? ⟨B, 3, none⟩ = some (.int .i64 v.x.rows) ∧ w'.cell? ⟨B, 4, none⟩ = some (.int .i64 v.x.cols) ∧ w'.cell? ⟨B, 5, none⟩ = some (.slice v.eo v.en v.ec) ∧ w'.cell? ⟨B, 6, none⟩ = some (.slice v.po v.pn v.pc) ∧ w'.cell? ⟨B, 7, none⟩ = some (.slice v.yo v.yn v.yc) ∧ w'.cell? ⟨B, 8, none⟩ = some (.slice v.zo v.zn v.zc))
    (first | with_reducible exact HS.out _ HD0.out | with_reducible exact HS.out _ HD.out | with_reducible exact HS.out _ HB11.out | with_reducible exact HS.out _ HB12.out | with_reducible exact HS.out _ HB13.out | with_reducible exact HS.out _ HB14.out | with_reducible exact HSX.out _ HB14.out _ _ _ _ _ _ _ _ _)
    (first | (go_at_call 38; refine (twinWaiting_any _ v.wo v.wn v.wc v.x.ws HIN.out.wl (HIN.out.wr.below HD.out) HIN.out.wb).mono ?_; rintro e w1 ⟨G1, rfl, ht1⟩; have HT1 := Lib.hid ht1; have HB11 := Lib.hid (HD.out.trans (ht1.below)); clear ht1) | (go_at_call 39; refine (twinIdle_any _ v.ko v.kn v.kc v.x.ds HIN.out.kl (HIN.out.kr.below HB11.out) HIN.out.kb).mono ?_; rintro e w2 ⟨G2, rfl, ht2⟩; have HT2 := Lib.hid ht2; have HB12 := Lib.hid (Below.next HB11.out ht2.below); clear ht2) | (go_at_call 31; refine (twinGraph_any _ v.x.rows v.x.cols v.eo v.en v.ec v.x.es HIN.out.el (HIN.out.er.below HB12.out) HIN.out.eb).mono ?_; rintro e w3 ⟨G3, rfl, ht3⟩; have HT3 := Lib.hid ht3; have HB13 := Lib.hid (Below.next HB12.out ht3.below); clear ht3) | (go_at_call 40; refine (twinCert_any _ v.po v.pn v.pc v.x.ps v.yo v.yn v.yc v.x.ys v.zo v.zn v.zc v.x.zs HIN.out.pl (HIN.out.pr.below HB13.out) HIN.out.pb HIN.out.yl (HIN.out.yr.below HB13.out) HIN.out.yb HIN.out.zl (HIN.out.zr.below HB13.out) HIN.out.zb).mono ?_; rintro e w4 ⟨G4, G5, G6, rfl, hb4, hp4, hy4, hz4, hg4, hr4⟩; have HG4 := Lib.hid hg4; have HR4 := Lib.hid hr4; clear hg4 hr4; have HT4 := Lib.hid (And.intro hp4 (And.intro hy4 hz4)); have HB4 := Lib.hid hb4; have HB14 := Lib.hid (Below.next HB13.out hb4); obtain ⟨d0, d1, d2, d3, d4, d5, d6, d7, d8⟩ := cells9 (HBO.out _ HB14.out); have df := fun j => frozen_of_row w4 (B + 1) j _ _ (HBO.out _ HB14.out); clear hb4 hp4 hy4 hz4))
  have HQ := Lib.hid (set9 (HBO.out _ HB14.out) (.int .i64 v.x.tick) (.slice (some ⟨G1, 0, none⟩) v.wn (v.wn + 1)) (.slice (some ⟨G2, 0, none⟩) v.kn (v.kn + 1)) (.int .i64 v.x.rows) (.int .i64 v.x.cols) (.slice (some ⟨G3, 0, none⟩) v.en (v.en + 1)) (.slice (some ⟨G4, 0, none⟩) v.pn (v.pn + 1)) (.slice (some ⟨G5, 0, none⟩) v.yn (v.yn + 1)) (.slice (some ⟨G6, 0, none⟩) v.zn (v.zn + 1)))
  have HK := Lib.hid (keep9 w4 B (.int .i64 v.x.tick) (.slice (some ⟨G1, 0, none⟩) v.wn (v.wn + 1)) (.slice (some ⟨G2, 0, none⟩) v.kn (v.kn + 1)) (.int .i64 v.x.rows) (.int .i64 v.x.cols) (.slice (some ⟨G3, 0, none⟩) v.en (v.en + 1)) (.slice (some ⟨G4, 0, none⟩) v.pn (v.pn + 1)) (.slice (some ⟨G5, 0, none⟩) v.yn (v.yn + 1)) (.slice (some ⟨G6, 0, none⟩) v.zn (v.zn + 1)))
  clear d0 d1 d2 d3 d4 d5 d6 d7 d8 df
  go_wp2_with fail
  generalize (((((((((w4.setCell ⟨B + 1, 0, none⟩ (.int .i64 v.x.tick)).setCell ⟨B + 1, 1, none⟩ (.slice (some ⟨G1, 0, none⟩) v.wn (v.wn + 1))).setCell ⟨B + 1, 2, none⟩ (.slice (some ⟨G2, 0, none⟩) v.kn (v.kn + 1))).setCell ⟨B + 1, 3, none⟩ (.int .i64 v.x.rows)).setCell ⟨B + 1, 4, none⟩ (.int .i64 v.x.cols)).setCell ⟨B + 1, 5, none⟩ (.slice (some ⟨G3, 0, none⟩) v.en (v.en + 1))).setCell ⟨B + 1, 6, none⟩ (.slice (some ⟨G4, 0, none⟩) v.pn (v.pn + 1))).setCell ⟨B + 1, 7, none⟩ (.slice (some ⟨G5, 0, none⟩) v.yn (v.yn + 1))).setCell ⟨B + 1, 8, none⟩ (.slice (some ⟨G6, 0, none⟩) v.zn (v.zn + 1))) = WF at *
  refine bodyPost_ret (results_box 2 34 Tryz.results12 (B + 1) rfl #[.int .i64 v.x.tick, .slice (some ⟨G1, 0, none⟩) v.wn (v.wn + 1), .slice (some ⟨G2, 0, none⟩) v.kn (v.kn + 1), .int .i64 v.x.rows, .int .i64 v.x.cols, .slice (some ⟨G3, 0, none⟩) v.en (v.en + 1), .slice (some ⟨G4, 0, none⟩) v.pn (v.pn + 1), .slice (some ⟨G5, 0, none⟩) v.yn (v.yn + 1), .slice (some ⟨G6, 0, none⟩) v.zn (v.zn + 1)] _ HQ.out _ Tryz.underlying34 rfl (by kernel_rfl)) rfl ?_
  have hge1 : W.drew.heap.size ≤ G1 := HT1.out.ge
  have hge2 : w1.heap.size ≤ G2 := HT2.out.ge
  have hge3 : w2.heap.size ≤ G3 := HT3.out.ge
  obtain ⟨hg4, hg5, hg6⟩ := HG4.out
  have hl := hlt.out
  have hs1 := HB11.out.size
  have hs2 := HB12.out.size
  have hs3 := HB13.out.size
  have hd : W.drew.heap.size = W.heap.size := rfl
  have hbw := HBH.out
  have h34 := HB4.out
  have h24 := Below.next HT3.out.below HB4.out
  have h14 := Below.next HT2.out.below h24
  have hall := HBEL.out.trans (HB14.out.mono HBEL.out.size)
  exact ⟨G1, G2, G3, G4, G5, G6, rfl, hall.trans (HK.out.below hall.size (fun i hi h => by omega)),
    ⟨range_keep (range_below HT1.out.rng h14) HK.out (by omega), range_keep (range_below HT2.out.rng h24) HK.out (by omega), range_keep (range_below HT3.out.rng h34) HK.out (by omega), range_keep HT4.out.1 HK.out (by omega), range_keep HT4.out.2.1 HK.out (by omega), range_keep HT4.out.2.2 HK.out (by omega), there_keep (there_below HT1.out.room h14) HK.out (by omega), there_keep (there_below HT2.out.room h24) HK.out (by omega), there_keep (there_below HT3.out.room h34) HK.out (by omega), there_keep HR4.out HK.out (by omega)⟩, by omega, by omega, by omega, by omega, by omega, by omega⟩
end Go.Proofs.YtcaicgipibcicaaGreat
