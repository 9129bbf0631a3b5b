/- A twin of a graph, a certificate, a record is left as it was. -/
import Derived.Test.YtcaicgipibcicaaGreatQTwinRec2
import Derived.Test.YtcaicgipibcicaaGreatQLoadQ
import Derived.StillTailTactics
namespace Go.Proofs.YtcaicgipibcicaaGreat
set_option maxRecDepth 100000
set_option linter.unusedVariables false
set_option linter.unusedSimpArgs false
open Go.RowKit Go.Sort

/-- Two values, each in a box of its own. -/
theorem boxesAB (w : World) (V Z : Array Value) (t : TypeId) : ∃ W, (w.alloc (.cells V t)).alloc (.cells Z t) = W ∧ W.heap[w.heap.size]? = some (.cells V t (0, 0)) ∧ W.heap[w.heap.size + 1]? = some (.cells Z t (0, 0)) ∧ Below w.heap.size w W := boxes2 w V Z t

set_option maxHeartbeats 4000000 in
theorem leftGraph_any (w : World) (rows cols : Int) (G : Nat) (eo : Option Addr) (en ec : Nat) (es : List PEdge) (hl : es.length = en) (ht : w.rangeAt G 0 (cellsOf PEdge.cells es ++ markEc)) (hr : RdC w eo (cellsOf PEdge.cells es)) (hb : en ≤ 1048576) :
    Calls Tryz.prog 61 #[.agg #[.int .i64 rows, .int .i64 cols, .slice (some ⟨G, 0, none⟩) en (en + 1)], .agg #[.int .i64 rows, .int .i64 cols, .slice eo en ec]] w fun e w' => e = .returned (.bool true) ∧ Below w.heap.size w w' := by
  obtain ⟨W, hW, hb1, hb2, hbel⟩ := boxesAB w #[.int .i64 rows, .int .i64 cols, .slice (some ⟨G, 0, none⟩) en (en + 1)] #[.int .i64 rows, .int .i64 cols, .slice eo en ec] 28
  have HC := Lib.hid (leftEdge_any W W G eo en ec es hl (range_below ht hbel) (hr.below hbel) hb)
  have HBEL := Lib.hid hbel
  have HW := Lib.hid hW
  obtain ⟨g0, g1, g2, gf⟩ := cells3 hb1
  obtain ⟨d0, d1, d2, df⟩ := cells3 hb2
  clear hl ht hr hbel hb1 hb2 gf df
  rw [hW.symm] at g0 g1 g2 d0 d1 d2
  clear hW
  go_enter Tryz.func61, Tryz.ntmps61
  go_wp2_with fail
  rw [HW.out]
  refine HC.out.mono ?_
  rintro e w2 ⟨rfl, hb2⟩
  have HB2 := Lib.hid (HBEL.out.trans (hb2.mono HBEL.out.size))
  clear hb2
  go_wp2_with fail
  go_ret
  exact ⟨rfl, HB2.out⟩

set_option maxHeartbeats 4000000 in
theorem leftCert_any (w : World) (G1 G2 G3 : Nat) (po : Option Addr) (pn pc : Nat) (ps : List PPair) (yo : Option Addr) (yn yc : Nat) (ys : List Int) (zo : Option Addr) (zn zc : Nat) (zs : List Int) (hp : ps.length = pn) (hpt : w.rangeAt G1 0 (cellsOf PPair.cells ps ++ markPc)) (hpr : RdC w po (cellsOf PPair.cells ps)) (hpb : pn ≤ 1048576)
    (hy : ys.length = yn) (hyt : w.rangeAt G2 0 (cellsOf icell ys ++ markIc)) (hyr : RdC w yo (cellsOf icell ys)) (hyb : yn ≤ 1048576) (hz : zs.length = zn) (hzt : w.rangeAt G3 0 (cellsOf icell zs ++ markIc)) (hzr : RdC w zo (cellsOf icell zs)) (hzb : zn ≤ 1048576) :
    Calls Tryz.prog 62 #[.agg #[.slice (some ⟨G1, 0, none⟩) pn (pn + 1), .slice (some ⟨G2, 0, none⟩) yn (yn + 1), .slice (some ⟨G3, 0, none⟩) zn (zn + 1)], .agg #[.slice po pn pc, .slice yo yn yc, .slice zo zn zc]] w fun e w' => e = .returned (.bool true) ∧ Below w.heap.size w w' := by
  obtain ⟨W, hW, hb1, hb2, hbel⟩ := boxesAB w #[.slice (some ⟨G1, 0, none⟩) pn (pn + 1), .slice (some ⟨G2, 0, none⟩) yn (yn + 1), .slice (some ⟨G3, 0, none⟩) zn (zn + 1)] #[.slice po pn pc, .slice yo yn yc, .slice zo zn zc] 32
  have HC := Lib.hid (leftPair_any W W G1 po pn pc ps hp (range_below hpt hbel) (hpr.below hbel) hpb)
  have HY := Lib.hid (fun (w' : World) (hb : Below w.heap.size w w') => leftInts_any w' G2 yo yn yc ys hy (range_below hyt hb) (hyr.below hb) hyb)
  have HZ := Lib.hid (fun (w' : World) (hb : Below w.heap.size w w') => leftInts_any w' G3 zo zn zc zs hz (range_below hzt hb) (hzr.below hb) hzb)
  have HBEL := Lib.hid hbel
  have HW := Lib.hid hW
  have HB1 := Lib.hid hb1
  have HB2 := Lib.hid hb2
  clear hp hpt hpr hy hyt hyr hz hzt hzr hbel hb1 hb2 hW
  have g0 : W.cell? ⟨w.heap.size, 0, none⟩ = some (.slice (some ⟨G1, 0, none⟩) pn (pn + 1)) := (cells3 HB1.out).1
  have d0 : W.cell? ⟨w.heap.size + 1, 0, none⟩ = some (.slice po pn pc) := (cells3 HB2.out).1
  rw [← HW.out] at g0 d0
  go_enter Tryz.func62, Tryz.ntmps62
  go_wp2_with fail
  rw [HW.out]
  clear g0 d0
  refine HC.out.mono ?_
  rintro e w2 ⟨rfl, hb2⟩
  have HBB := Lib.hid (HBEL.out.trans (hb2.mono HBEL.out.size))
  have hk := Keep.of_below hb2 (Nat.le_refl _) (fun _ => False)
  have h1 := hk.old HB1.out id
  have h2 := hk.old HB2.out id
  clear hb2 hk
  obtain ⟨g0, g1, g2, gf⟩ := cells3 h1
  obtain ⟨d0, d1, d2, df⟩ := cells3 h2
  have H1 := Lib.hid h1
  have H2 := Lib.hid h2
  clear h1 h2 gf df
  go_wp2_with fail
  clear g0 g1 g2 d0 d1 d2
  refine (HY.out w2 HBB.out).mono ?_
  rintro e w3 ⟨rfl, hb3⟩
  have HBC := Lib.hid (HBB.out.trans (hb3.mono HBB.out.size))
  have hk := Keep.of_below hb3 (Nat.le_refl _) (fun _ => False)
  have h1 := hk.old H1.out id
  have h2 := hk.old H2.out id
  clear hb3 hk
  obtain ⟨g0, g1, g2, gf⟩ := cells3 h1
  obtain ⟨d0, d1, d2, df⟩ := cells3 h2
  clear h1 h2 gf df
  go_wp2_with fail
  clear g0 g1 g2 d0 d1 d2
  refine (HZ.out w3 HBC.out).mono ?_
  rintro e w4 ⟨rfl, hb4⟩
  have HBD := Lib.hid (HBC.out.trans (hb4.mono HBC.out.size))
  clear hb4
  go_wp2_with fail
  go_ret
  exact ⟨rfl, HBD.out⟩

set_option maxHeartbeats 4000000 in
theorem leftRecord_any (w : World) (v : RV) (G1 G2 G3 G4 G5 G6 : Nat) (hin : v.In w) (ht : TwinR v G1 G2 G3 G4 G5 G6 w) :
    Calls Tryz.prog 15 #[.agg #[.int .i64 v.x.tick, .slice (some ⟨G1, 0, none⟩) v.wn (v.wn + 1), .slice (some ⟨G2, 0, none⟩) v.kn (v.kn + 1), .int .i64 v.x.rows, .int .i64 v.x.cols, .slice (some ⟨G3, 0, none⟩) v.en (v.en + 1), .slice (some ⟨G4, 0, none⟩) v.pn (v.pn + 1), .slice (some ⟨G5, 0, none⟩) v.yn (v.yn + 1), .slice (some ⟨G6, 0, none⟩) v.zn (v.zn + 1)], .agg #[.int .i64 v.x.tick, .slice v.wo v.wn v.wc, .slice v.ko v.kn v.kc, .int .i64 v.x.rows, .int .i64 v.x.cols, .slice v.eo v.en v.ec, .slice v.po v.pn v.pc, .slice v.yo v.yn v.yc, .slice v.zo v.zn v.zc]] w fun e w' => e = .returned (.bool true) ∧ Below w.heap.size w w' := by
  obtain ⟨W, hW, hb1, hb2, hbel⟩ := boxesAB w #[.int .i64 v.x.tick, .slice (some ⟨G1, 0, none⟩) v.wn (v.wn + 1), .slice (some ⟨G2, 0, none⟩) v.kn (v.kn + 1), .int .i64 v.x.rows, .int .i64 v.x.cols, .slice (some ⟨G3, 0, none⟩) v.en (v.en + 1), .slice (some ⟨G4, 0, none⟩) v.pn (v.pn + 1), .slice (some ⟨G5, 0, none⟩) v.yn (v.yn + 1), .slice (some ⟨G6, 0, none⟩) v.zn (v.zn + 1)] #[.int .i64 v.x.tick, .slice v.wo v.wn v.wc, .slice v.ko v.kn v.kc, .int .i64 v.x.rows, .int .i64 v.x.cols, .slice v.eo v.en v.ec, .slice v.po v.pn v.pc, .slice v.yo v.yn v.yc, .slice v.zo v.zn v.zc] 34
  have HIN := Lib.hid (fun (w' : World) (hb : Below w.heap.size w w') => hin.keep hb)
  have HT := Lib.hid (fun (w' : World) (hb : Below w.heap.size w w') => ht.keep hb)
  have HBEL := Lib.hid hbel
  have HW := Lib.hid hW
  have HB := Lib.hid (fun (w' : World) (hb : Below W.heap.size W w') => show w'.heap[w.heap.size]? = some (.cells #[.int .i64 v.x.tick, .slice (some ⟨G1, 0, none⟩) v.wn (v.wn + 1), .slice (some ⟨G2, 0, none⟩) v.kn (v.kn + 1), .int .i64 v.x.rows, .int .i64 v.x.cols, .slice (some ⟨G3, 0, none⟩) v.en (v.en + 1), .slice (some ⟨G4, 0, none⟩) v.pn (v.pn + 1), .slice (some ⟨G5, 0, none⟩) v.yn (v.yn + 1), .slice (some ⟨G6, 0, none⟩) v.zn (v.zn + 1)] 34 (0, 0)) ∧ w'.heap[w.heap.size + 1]? = some (.cells #[.int .i64 v.x.tick, .slice v.wo v.wn v.wc, .slice v.ko v.kn v.kc, .int .i64 v.x.rows, .int .i64 v.x.cols, .slice v.eo v.en v.ec, .slice v.po v.pn v.pc, .slice v.yo v.yn v.yc, .slice v.zo v.zn v.zc] 34 (0, 0)) from
    have hk := Keep.of_below hb (Nat.le_refl _) (fun _ => False)
    ⟨hk.old hb1 id, hk.old hb2 id⟩)
  clear hin ht hbel hb1 hb2
  have h12 := HB.out W (Below.refl _ _)
  obtain ⟨g0, g1, g2, g3, g4, g5, g6, g7, g8⟩ := cells9 h12.1
  obtain ⟨d0, d1, d2, d3, d4, d5, d6, d7, d8⟩ := cells9 h12.2
  rw [← hW] at g0 g1 d0 d1
  clear hW h12 g2 g3 g4 g5 g6 g7 g8 d2 d3 d4 d5 d6 d7 d8
  go_enter Tryz.func15, Tryz.ntmps15
  go_wp2_with fail
  rw [HW.out]
  clear g0 g1 d0 d1
  refine (leftWaiting_any W W G1 v.wo v.wn v.wc v.x.ws (HIN.out _ HBEL.out).wl (HT.out _ HBEL.out).w (HIN.out _ HBEL.out).wr (HIN.out _ HBEL.out).wb).mono ?_
  rintro e w2 ⟨rfl, hb2⟩
  have HQ2 := Lib.hid hb2
  have HB2 := Lib.hid (HBEL.out.trans (hb2.mono HBEL.out.size))
  obtain ⟨h1, h2⟩ := HB.out _ hb2
  clear hb2
  obtain ⟨g0, g1, g2, g3, g4, g5, g6, g7, g8⟩ := cells9 h1
  obtain ⟨d0, d1, d2, d3, d4, d5, d6, d7, d8⟩ := cells9 h2
  clear h1 h2
  go_wp2_with fail
  clear g0 g1 g2 g3 g4 g5 g6 g7 g8 d0 d1 d2 d3 d4 d5 d6 d7 d8
  refine (leftIdle_any w2 w2 G2 v.ko v.kn v.kc v.x.ds (HIN.out _ HB2.out).kl (HT.out _ HB2.out).k (HIN.out _ HB2.out).kr (HIN.out _ HB2.out).kb).mono ?_
  rintro e w3 ⟨rfl, hb3⟩
  have HQ3 := Lib.hid (Below.next HQ2.out hb3)
  have HB3 := Lib.hid (HB2.out.trans (hb3.mono HB2.out.size))
  obtain ⟨h1, h2⟩ := HB.out _ HQ3.out
  clear hb3
  obtain ⟨g0, g1, g2, g3, g4, g5, g6, g7, g8⟩ := cells9 h1
  obtain ⟨d0, d1, d2, d3, d4, d5, d6, d7, d8⟩ := cells9 h2
  clear h1 h2
  go_wp2_with fail
  clear g0 g1 g2 g3 g4 g5 g6 g7 g8 d0 d1 d2 d3 d4 d5 d6 d7 d8
  refine (leftGraph_any w3 v.x.rows v.x.cols G3 v.eo v.en v.ec v.x.es (HIN.out _ HB3.out).el (HT.out _ HB3.out).e (HIN.out _ HB3.out).er (HIN.out _ HB3.out).eb).mono ?_
  rintro e w4 ⟨rfl, hb4⟩
  have HQ4 := Lib.hid (Below.next HQ3.out hb4)
  have HB4 := Lib.hid (HB3.out.trans (hb4.mono HB3.out.size))
  obtain ⟨h1, h2⟩ := HB.out _ HQ4.out
  clear hb4
  obtain ⟨g0, g1, g2, g3, g4, g5, g6, g7, g8⟩ := cells9 h1
  obtain ⟨d0, d1, d2, d3, d4, d5, d6, d7, d8⟩ := cells9 h2
  clear h1 h2
  go_wp2_with fail
  clear g0 g1 g2 g3 g4 g5 g6 g7 g8 d0 d1 d2 d3 d4 d5 d6 d7 d8
  refine (leftCert_any w4 G4 G5 G6 v.po v.pn v.pc v.x.ps v.yo v.yn v.yc v.x.ys v.zo v.zn v.zc v.x.zs (HIN.out _ HB4.out).pl (HT.out _ HB4.out).p (HIN.out _ HB4.out).pr (HIN.out _ HB4.out).pb (HIN.out _ HB4.out).yl (HT.out _ HB4.out).y (HIN.out _ HB4.out).yr (HIN.out _ HB4.out).yb (HIN.out _ HB4.out).zl (HT.out _ HB4.out).z (HIN.out _ HB4.out).zr (HIN.out _ HB4.out).zb).mono ?_
  rintro e w5 ⟨rfl, hb5⟩
  have HB5 := Lib.hid (HB4.out.trans (hb5.mono HB4.out.size))
  clear hb5
  go_wp2_with fail
  go_ret
  exact ⟨rfl, HB5.out⟩
end Go.Proofs.YtcaicgipibcicaaGreat

/- An auditor in memory: its map of who stood where, each entry a raw value; what could have waited. -/
namespace Go.Proofs.YtcaicgipibcicaaGreat
set_option maxRecDepth 100000
set_option linter.unusedVariables false
set_option linter.unusedSimpArgs false
open Go.RowKit Go.Sort

/-- A whole struct is loaded in the head of a region that draws. -/
theorem wpStill_load {P : Program} {ops : Array Oper} {w : World} {Q : Act → Prop} {a : Act} {o : Oper} {rest : List Oper} (hw : Region.wanted o (yielded ops a.tmps) = true) (ty : TypeId) (x : Operand) (ho : o.op = .load ty x)
    (b off : Nat) (hx : a.eval x = .pointer (some ⟨b, off, none⟩)) (cs : List Value) (V : Array Value) (hvs : cs.toArray = V) (d : TypeDesc) (hc : ∀ j u, cs[j]? = some u → w.cell? ⟨b, off + j, none⟩ = some u)
    (hu : P.underlying ty = some d) (hd : (match d with | .struct _ | .array _ _ => true | _ => false) = true) (hi : (P.info? ty).map (·.size) = some cs.length)
    (h : wpStill P ops w Q rest (a.put o.dst (.agg V))) : wpStill P ops w Q (o :: rest) a := by
  refine wpStill_step fun K hK => ?_
  rw [if_pos hw]
  have hl := run_loadVar_elem (P := P) w b off ty cs d hc hu hd hi
  rw [hvs] at hl
  unfold Oper.still execOp
  simp only [ho, hx, Instr.loadAt, Instr.sureAddr, Sem.run_bind, Sem.run_pure, Result.andThen_ok, hl]
  exact ⟨rfl, hK _ h⟩

/-- An entry reads as the very value that it is. -/
def rawElem (v : Value) : Option (DataW Value × List MemPlace) := some (.held v, [])
/-- Where a request stood. -/
structure PStand where
  w : PWait
  tick : Int
  left : Bool
def PStand.cells (s : PStand) : List Value := s.w.cells ++ [.int .i64 s.tick, .bool s.left]
def PStand.V (s : PStand) : Array Value := s.cells.toArray
theorem PStand.cells_length (s : PStand) : s.cells.length = 20 := rfl
def zeroStand : PStand := ⟨⟨⟨0, 0, 0, 0, 0, 0, 0, 0, 0, 0, 0, 0, 0, 0, 0, 0⟩, 0, 0⟩, 0, false⟩
theorem sz_stand : (Tryz.prog.info? 117).map (·.size) = some 20 := by kernel_rfl
theorem zero_stand (w : World) : (zeroValue 117).run Tryz.prog w = .ok (.agg zeroStand.V) w := by kernel_rfl
theorem PStand.cells_one (s : PStand) : ∀ u ∈ s.cells, u.oneCell' = true := by
  intro u hu
  rcases List.mem_append.1 hu with h | h
  · exact s.w.cells_one u h
  · simp only [List.mem_cons, List.not_mem_nil, or_false] at h
    rcases h with rfl | rfl <;> rfl

/-- What was put last at each id. -/
def lookP (m : List (List Int × PStand)) (id : List Int) : Option PStand := match m.find? (fun p => decide (p.1 = id)) with
  | none => none
  | some p => some p.2
/-- The map that such puts (the last one ahead) make. -/
noncomputable def putsD : List (List Int × PStand) → DataW Value
  | [] => .map []
  | p :: m => (putsD m).put (kidOf p.1) (.held (.agg p.2.V))
def IdKey (id : List Int) : Prop := ∃ l, keyOf Tryz.prog 72 (idV id) = some l
theorem putsD_isMap (m : List (List Int × PStand)) : Maps.IsMap (putsD m) := by
  cases m with
  | nil => exact Maps.isMap_empty
  | cons p m =>
    have h : ∀ m : List (List Int × PStand), Maps.IsMap (putsD m) := by
      intro m
      induction m with
      | nil => exact Maps.isMap_empty
      | cons p m ih => exact ih.put _ _
    exact h _
theorem putsD_look {m : List (List Int × PStand)} (hm : ∀ p ∈ m, IdKey p.1) {id : List Int} (hid : IdKey id) (z : Value) :
    (putsD m).atKey (kidOf id) (.held z) = .held (match lookP m id with | none => z | some s => .agg s.V) ∧ Maps.has (putsD m) (kidOf id) = (lookP m id).isSome := by
  induction m with
  | nil => exact ⟨rfl, rfl⟩
  | cons p m ih =>
    obtain ⟨h1, h2⟩ := ih (fun q hq => hm q (List.mem_cons_of_mem _ hq))
    have hp := hm p List.mem_cons_self
    by_cases he : p.1 = id
    · subst he
      have hl : lookP (p :: m) p.1 = some p.2 := by simp [lookP]
      rw [hl]
      exact ⟨Maps.atKey_put_same (putsD_isMap m) (kid_key hp) _ _, Maps.has_put_same (putsD_isMap m) (kid_key hp) _⟩
    · have hne : kidOf id ≠ kidOf p.1 := fun e => he ((kid_inj hp hid).1 e.symm)
      have hl : lookP (p :: m) id = lookP m id := by simp [lookP, he]
      rw [hl, ← h1, ← h2]
      exact ⟨Maps.atKey_put_other hne _ _, Maps.has_put_other hne _⟩

/-- An auditor. -/
structure PAu where
  c : PConf
  tick : Int
  m : List (List Int × PStand)
structure AuAt (a : PAu) (A M n : Nat) (w : World) : Prop where
  box : w.heap[A]? = some (.cells #[.int .i64 a.c.q, .int .i64 a.c.d, .int .i64 a.c.w, .int .i64 a.c.ttl, .int .i64 a.c.b, .int .i64 a.tick, .map (some M)] 56 (0, 0))
  own : w.ownsMap Tryz.prog 72 rawElem M n (putsD a.m)
  keys : ∀ p ∈ a.m, IdKey p.1
theorem AuAt.keepX {a : PAu} {A M n : Nat} {w w' : World} {X : Nat → Prop} (h : AuAt a A M n w) (hk : Keep X w w') (h1 : ¬ X A) (h2 : ¬ X M) : AuAt a A M n w' := by
  refine ⟨hk.old h.box h1, ?_, h.keys⟩
  obtain ⟨es, clock, hb, r⟩ := h.own
  exact ⟨es, clock, hk.old hb h2, r⟩
theorem AuAt.keep {a : PAu} {A M n : Nat} {w w' : World} (h : AuAt a A M n w) (hb : Below w.heap.size w w') : AuAt a A M n w' := h.keepX (Keep.of_below hb (Nat.le_refl _) (fun _ => False)) id id
theorem AuAt.drew {a : PAu} {A M n : Nat} {w : World} (h : AuAt a A M n w) : AuAt a A M n w.drew := h.keep (Below.refl _ _).drew
theorem cells7 {w : World} {b : Nat} {a0 a1 a2 a3 a4 a5 a6 : Value} {t : TypeId} (h : w.heap[b]? = some (.cells #[a0, a1, a2, a3, a4, a5, a6] t (0, 0))) :
    w.cell? ⟨b, 0, none⟩ = some a0 ∧ w.cell? ⟨b, 1, none⟩ = some a1 ∧ w.cell? ⟨b, 2, none⟩ = some a2 ∧ w.cell? ⟨b, 3, none⟩ = some a3 ∧ w.cell? ⟨b, 4, none⟩ = some a4 ∧ w.cell? ⟨b, 5, none⟩ = some a5 ∧ w.cell? ⟨b, 6, none⟩ = some a6 := by
  refine ⟨?_, ?_, ?_, ?_, ?_, ?_, ?_⟩ <;> rw [cell_of_row w b _ _ t (0, 0) h] <;> rfl

/-- Two elements, as one Bool. -/
def bqW (x y : PWait) : Bool := bq_wait x.r.i0 y.r.i0 x.r.i1 y.r.i1 x.r.i2 y.r.i2 x.r.i3 y.r.i3 x.r.i4 y.r.i4 x.r.i5 y.r.i5 x.r.i6 y.r.i6 x.r.i7 y.r.i7 x.r.fx y.r.fx x.r.fy y.r.fy x.r.tx y.r.tx x.r.ty y.r.ty x.r.seats y.r.seats x.r.classes y.r.classes x.r.base y.r.base x.r.ttl y.r.ttl x.since y.since x.number y.number
theorem bqW_eq (x y : PWait) (w : World) : (Op.equalIn 10000 79 (.agg x.cells.toArray) (.agg y.cells.toArray)).run Tryz.prog w = .ok (bqW x y) w := eq_wait' x.r.i0 y.r.i0 x.r.i1 y.r.i1 x.r.i2 y.r.i2 x.r.i3 y.r.i3 x.r.i4 y.r.i4 x.r.i5 y.r.i5 x.r.i6 y.r.i6 x.r.i7 y.r.i7 x.r.fx y.r.fx x.r.fy y.r.fy x.r.tx y.r.tx x.r.ty y.r.ty x.r.seats y.r.seats x.r.classes y.r.classes x.r.base y.r.base x.r.ttl y.r.ttl x.since y.since x.number y.number w
theorem bqW_iff (x y : PWait) : bqW x y = true ↔ x = y := by
  unfold bqW
  rw [bq_wait_iff]
  constructor
  · intro h
    obtain ⟨⟨_, _, _, _, _, _, _, _, _, _, _, _, _, _, _, _⟩, _, _⟩ := x
    obtain ⟨⟨_, _, _, _, _, _, _, _, _, _, _, _, _, _, _, _⟩, _, _⟩ := y
    simp only at h
    obtain ⟨h0, h1, h2, h3, h4, h5, h6, h7, h8, h9, h10, h11, h12, h13, h14, h15, h16, h17⟩ := h
    subst h0 h1 h2 h3 h4 h5 h6 h7 h8 h9 h10 h11 h12 h13 h14 h15 h16 h17
    rfl
  · rintro rfl
    exact ⟨rfl, rfl, rfl, rfl, rfl, rfl, rfl, rfl, rfl, rfl, rfl, rfl, rfl, rfl, rfl, rfl, rfl, rfl⟩

/-- Could it have waited? -/
def couldF (a : PAu) (x : PWait) (t : Int) : Bool := if t ≤ x.since then false else match lookP a.m (idR x.r) with
  | none => decide (a.tick ≤ x.since)
  | some s => s.left && decide (s.tick = a.tick) && bqW s.w x
end Go.Proofs.YtcaicgipibcicaaGreat
