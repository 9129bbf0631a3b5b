/- The reference's auditor: who could not have waited. -/
import Derived.Test.YtcaicgipibcicaaGreatQAuRef3
import Derived.Test.YtcaicgipibcicaaGreatQHeldTail
namespace Go.Proofs.YtcaicgipibcicaaGreat
set_option maxRecDepth 100000
set_option linter.unusedVariables false
set_option linter.unusedSimpArgs false
open Go.RowKit Go.Sort

section
variable {P : Program}
/-- A whole struct, one opaque value: loaded in a region that only reads, whatever the class of worlds. -/
theorem quiet_load_in {C : World → Prop} {o : Oper} {a : Act} {K : Act → Prop} (ty : TypeId) (x : Operand) (ho : o.op = .load ty x)
    (b off : Nat) (hx : a.eval x = .pointer (some ⟨b, off, none⟩)) (cs : List Value) (V : Array Value) (hvs : cs.toArray = V) (d : TypeDesc) (hc : ∀ w', C w' → ∀ j u, cs[j]? = some u → w'.cell? ⟨b, off + j, none⟩ = some u)
    (hu : P.underlying ty = some d) (hd : (match d with | .struct _ | .array _ _ => true | _ => false) = true) (hi : (P.info? ty).map (·.size) = some cs.length)
    (hk : K (a.put o.dst (.agg V))) : o.quiet P a C K := by
  refine ⟨.agg V, ?_, hk⟩
  intro w hw
  have h := run_loadVar_elem (P := P) w b off ty cs d (hc w hw) hu hd hi
  rw [hvs] at h
  unfold Oper.quietAt execOp
  simp only [ho, hx, Instr.loadAt, Instr.sureAddr, Sem.run_bind, Sem.run_pure, Result.andThen_ok, h]
  exact ⟨rfl, rfl⟩
/-- The same among reads. -/
theorem reads_load {S : World → Prop} {ops : Array Oper} {rest : List Oper} {o : Oper} {a : Act} {K : Act → Prop} (hg : o.guard = none) (ty : TypeId) (x : Operand) (ho : o.op = .load ty x)
    (b off : Nat) (hx : a.eval x = .pointer (some ⟨b, off, none⟩)) (cs : List Value) (V : Array Value) (hvs : cs.toArray = V) (d : TypeDesc) (hc : ∀ w', S w' → ∀ j u, cs[j]? = some u → w'.cell? ⟨b, off + j, none⟩ = some u)
    (hu : P.underlying ty = some d) (hd : (match d with | .struct _ | .array _ _ => true | _ => false) = true) (hi : (P.info? ty).map (·.size) = some cs.length)
    (hk : wpReads P ops S K rest (a.put o.dst (.agg V))) : wpReads P ops S K (o :: rest) a := by
  refine ⟨.agg V, .inl ⟨by simp [Region.wanted, hg], fun w hw => ?_⟩, hk⟩
  have h := run_loadVar_elem (P := P) w b off ty cs d (hc w hw) hu hd hi
  rw [hvs] at h
  unfold execOp
  simp only [ho, hx, Instr.loadAt, Instr.sureAddr, Sem.run_bind, Sem.run_pure, Result.andThen_ok, h]
end

/-- What the reference says: could this element not have waited? -/
def againF (ts : List RV) (x : PRec) (y : PWait) : Bool :=
  if x.tick ≤ y.since then true else
  match ts.getLast? with
  | none => false
  | some v => if ts.any (fun u => stoodF u.x (idR y.r)) then !leftF v.x y else decide (y.since < v.x.tick)
theorem again_late {ts : List RV} {x : PRec} {y : PWait} (h : x.tick ≤ y.since) : againF ts x y = true := by simp [againF, h]
theorem again_first {x : PRec} {y : PWait} (h : ¬ x.tick ≤ y.since) : againF [] x y = false := by simp [againF, h]
theorem again_old {ts : List RV} {x : PRec} {y : PWait} {v : RV} (h : ¬ x.tick ≤ y.since) (hv : ts.getLast? = some v) (hb : ts.any (fun u => stoodF u.x (idR y.r)) = true) : againF ts x y = !leftF v.x y := by simp [againF, h, hv, hb]
theorem again_new {ts : List RV} {x : PRec} {y : PWait} {v : RV} (h : ¬ x.tick ≤ y.since) (hv : ts.getLast? = some v) (hb : ts.any (fun u => stoodF u.x (idR y.r)) = false) : againF ts x y = decide (y.since < v.x.tick) := by simp [againF, h, hv, hb]
theorem any_next {α : Type} {ts : List α} {p : α → Bool} {j : Nat} {v : α} (hv : ts[j]? = some v) : (ts.take (j + 1)).any p = ((ts.take j).any p || p v) := by
  rw [List.take_succ_eq_append_getElem (List.getElem?_eq_some_iff.1 hv).1, (List.getElem?_eq_some_iff.1 hv).2]
  simp

/-- The reference's auditor in memory. -/
structure RefAt (c : PConf) (ts : List RV) (R : Nat) (lo : Option Addr) (tn tc : Nat) (w : World) : Prop where
  box : w.heap[R]? = some (.cells #[.int .i64 c.q, .int .i64 c.d, .int .i64 c.w, .int .i64 c.ttl, .int .i64 c.b, .slice lo tn tc] 50 (0, 0))
  len : ts.length = tn
  rd : RdC w lo (cellsOf RV.cells ts)
  ins : ∀ v ∈ ts, v.In w
theorem RV.In.below {w w' : World} {v : RV} (h : v.In w) (hb : Below w.heap.size w w') : v.In w' := h.keepX (Keep.of_below hb (Nat.le_refl _) (fun _ => False)) (fun _ _ _ _ _ => id)
theorem RefAt.below {c : PConf} {ts : List RV} {R : Nat} {lo : Option Addr} {tn tc : Nat} {w w' : World} (h : RefAt c ts R lo tn tc w) (hb : Below w.heap.size w w') : RefAt c ts R lo tn tc w' :=
  ⟨(Keep.of_below hb (Nat.le_refl _) (fun _ => False)).old h.box id, h.len, h.rd.below hb, fun v hv => (h.ins v hv).below hb⟩

/-- What is read of the element that is asked for. -/
theorem wait_box {w : World} {H : Nat} {y : PWait} {V : Array Value} {t : TypeId} (hV : y.cells.toArray = V) (h : w.heap[H]? = some (.cells V t (0, 0))) :
    (w.cell? ⟨H, 0, none⟩ = some (.int .u8 y.r.i0) ∧ w.cell? ⟨H, 1, none⟩ = some (.int .u8 y.r.i1) ∧ w.cell? ⟨H, 2, none⟩ = some (.int .u8 y.r.i2) ∧ w.cell? ⟨H, 3, none⟩ = some (.int .u8 y.r.i3) ∧ w.cell? ⟨H, 4, none⟩ = some (.int .u8 y.r.i4) ∧ w.cell? ⟨H, 5, none⟩ = some (.int .u8 y.r.i5) ∧ w.cell? ⟨H, 6, none⟩ = some (.int .u8 y.r.i6) ∧ w.cell? ⟨H, 7, none⟩ = some (.int .u8 y.r.i7)) ∧ w.cell? ⟨H, 16, none⟩ = some (.int .i64 y.since) := by
  subst hV
  refine ⟨⟨?_, ?_, ?_, ?_, ?_, ?_, ?_, ?_⟩, ?_⟩ <;> rw [cell_of_row w H _ _ t (0, 0) h] <;> rfl

theorem RxRel.next {w : World} {v : RV} {H : Nat} {Z : Array Value} {t : TypeId} {wr w' : World} (h : RxRel w v H Z t wr) (hb : Below wr.heap.size wr w') : RxRel w v H Z t w' :=
  ⟨(Keep.of_below hb (Nat.le_refl _) (fun _ => False)).old h.g id, (Keep.of_below hb (Nat.le_refl _) (fun _ => False)).old h.h id, Below.next h.below hb⟩
set_option maxHeartbeats 16000000 in
theorem again_any (w : World) (c : PConf) (ts : List RV) (R : Nat) (lo : Option Addr) (tn tc : Nat) (v : RV) (y : PWait) (V : Array Value) (hV : y.cells.toArray = V) (h : RefAt c ts R lo tn tc w) (hn : tn ≤ 1000000000000) :
    Calls Tryz.prog 64 #[.pointer (some ⟨R, 0, none⟩), .agg #[.int .i64 v.x.tick, .slice v.wo v.wn v.wc, .slice v.ko v.kn v.kc, .int .i64 v.x.rows, .int .i64 v.x.cols, .slice v.eo v.en v.ec, .slice v.po v.pn v.pc, .slice v.yo v.yn v.yc, .slice v.zo v.zn v.zc], .agg V] w fun e w' => e = .returned (.bool (againF ts v.x y)) ∧ Below w.heap.size w w' := by
  have HV := Lib.hid hV
  have HR := Lib.hid h
  have HR0 := Lib.hid (RxRel.begin w v V 79)
  clear h hV
  go_enter Tryz.func64, Tryz.ntmps64
  go_upto_region 1 with fail
  generalize (w.alloc (.cells #[.int .i64 v.x.tick, .slice v.wo v.wn v.wc, .slice v.ko v.kn v.kc, .int .i64 v.x.rows, .int .i64 v.x.cols, .slice v.eo v.en v.ec, .slice v.po v.pn v.pc, .slice v.yo v.yn v.yc, .slice v.zo v.zn v.zc] 34)).alloc (.cells V 79) = W at *
  obtain ⟨H, hH⟩ : ∃ H, w.heap.size = H := ⟨_, rfl⟩
  have HH := Lib.hid hH
  rw [hH] at HR0 ⊢
  clear hH
  obtain ⟨g0, g1, g2, g3, g4, g5, g6, g7, g8⟩ := cells9 HR0.out.g
  obtain ⟨⟨y0, y1, y2, y3, y4, y5, y6, y7⟩, y8⟩ := wait_box HV.out HR0.out.h
  by_cases hl : v.x.tick ≤ y.since
  · have d1 : decide (v.x.tick ≤ y.since) = true := decide_eq_true hl
    have HF := Lib.hid (again_late (ts := ts) hl)
    clear hl
    go_wp2_with fail
    go_ret
    exact ⟨by rw [HF.out]; rfl, HR0.out.below⟩
  have d1 : decide (v.x.tick ≤ y.since) = false := decide_eq_false hl
  have HL := Lib.hid (Int.not_le.1 hl)
  clear hl
  go_wp2_with fail
  clear g0 g1 g2 g3 g4 g5 g6 g7 g8 y0 y1 y2 y3 y4 y5 y6 y7 y8
  go_loopw [7, 8] (fun s i wr => Hid (∃ j : Nat, i = .int .i64 j ∧ j ≤ tn ∧ s = .bool ((ts.take j).any (fun u => stoodF u.x (idR y.r))) ∧ RxRel w v H V 79 wr)) (fun _ i _ => tn - (intOf i).toNat)
  case atStart => exact Lib.hid ⟨0, rfl, Nat.zero_le _, rfl, HR0.out⟩
  case round =>
    clear HR0
    obtain ⟨j, rfl, hj, rfl, hrl⟩ := hrel.out
    clear hrel
    have HX := Lib.hid hrl
    clear hrl
    have HRJ := Lib.hid (HR.out.below HX.out.below)
    obtain ⟨r0, r1, r2, r3, r4, r5⟩ := cells6 HRJ.out.box
    by_cases hlt : j < tn
    · obtain ⟨u, hu⟩ : ∃ u, ts[j]? = some u := ⟨ts[j]'(by rw [HR.out.len]; exact hlt), List.getElem?_eq_getElem _⟩
      obtain ⟨b, o, hbo, _⟩ := HRJ.out.rd.place (by rw [cellsOf_length _ 9 RV.cells_length, HR.out.len]; omega)
      have HRD := Lib.hid HRJ.out.rd
      rw [hbo] at HRD r5
      have HUI := Lib.hid (HRJ.out.ins u (List.mem_of_getElem? hu))
      have HN := Lib.hid (any_next (p := fun u => stoodF u.x (idR y.r)) hu)
      have HCR := Lib.hid (fun (w' : World) (hw' : ∃ p : Regrown, w' = grow (redrawn wr p.d) p.os) (i : Nat) (q : Value) (hq : u.cells[i]? = some q) => show w'.cell? ⟨b, o + j * 9 + i, none⟩ = some q from by
        obtain ⟨p, rfl⟩ := hw'
        exact cell_regrown (rdc_cell RV.cells_length HRD.out hu i q hq) _ _)
      obtain ⟨⟨y0, y1, y2, y3, y4, y5, y6, y7⟩, y8⟩ := wait_box HV.out HX.out.h
      have k0 := cell_regrown y0
      have k1 := cell_regrown y1
      have k2 := cell_regrown y2
      have k3 := cell_regrown y3
      have k4 := cell_regrown y4
      have k5 := cell_regrown y5
      have k6 := cell_regrown y6
      have k7 := cell_regrown y7
      have k8 := cell_regrown r5
      have cQ : ∀ dd os, Calls Tryz.prog 111 #[.agg #[.int .i64 u.x.tick, .slice u.wo u.wn u.wc, .slice u.ko u.kn u.kc, .int .i64 u.x.rows, .int .i64 u.x.cols, .slice u.eo u.en u.ec, .slice u.po u.pn u.pc, .slice u.yo u.yn u.yc, .slice u.zo u.zn u.zc], .agg #[.int .u8 y.r.i0, .int .u8 y.r.i1, .int .u8 y.r.i2, .int .u8 y.r.i3, .int .u8 y.r.i4, .int .u8 y.r.i5, .int .u8 y.r.i6, .int .u8 y.r.i7]] (grow (redrawn wr dd) os) fun e w'' => e = .returned (.bool (stoodF u.x (idR y.r))) ∧ ∃ p : Regrown, w'' = grow (redrawn wr p.d) p.os := fun dd os => Calls.regrown_of (stood_any _ u y.r (HUI.out.below (below_regrown wr dd os)))
      clear hbo hu
      obtain ⟨fb, hfb⟩ : ∃ fb, (ts.take j).any (fun u => stoodF u.x (idR y.r)) = fb := ⟨_, rfl⟩
      rw [hfb] at HN ⊢
      clear hfb
      generalize stoodF u.x (idR y.r) = st at *
      go_wp2_with fail
      refine wp_region_quiet_below (by kernel_rfl) (by kernel_rfl) ?_
      iterate 6 (go_big_quiet_step (fail))
      go_big_quiet_want
      with_reducible refine quiet_load_in (o := ⟨some 31, _, _, _, _, _⟩) 34 (.tmp 30) ?_ b (o + j * 9) ?_ u.cells #[.int .i64 u.x.tick, .slice u.wo u.wn u.wc, .slice u.ko u.kn u.kc, .int .i64 u.x.rows, .int .i64 u.x.cols, .slice u.eo u.en u.ec, .slice u.po u.pn u.pc, .slice u.yo u.yn u.yc, .slice u.zo u.zn u.zc] rfl _ HCR.out Tryz.underlying34 ?_ ?_ ?_
      · rfl
      · rfl
      · rfl
      · exact sz_rec
      go_big_quiet_on
      simp only [Act.put, List.setIfInBounds_toArray, List.set_cons_zero, List.set_cons_succ]
      iterate 3 (go_big_quiet_step (fail))
      go_big_quiet_step (exact cQ _ _)
      iterate 1 (go_big_quiet_step (fail))
      refine wpQuiet_nil ?_
      rintro _ ⟨⟨dq, osq⟩, rfl⟩
      have HX2 := Lib.hid (HX.out.next (below_regrown wr dq osq))
      clear k0 k1 k2 k3 k4 k5 k6 k7 k8 cQ y0 y1 y2 y3 y4 y5 y6 y7 y8 r0 r1 r2 r3 r4 r5 HCR
      generalize grow (redrawn wr dq) osq = WX at *
      cases fb <;> cases st
      all_goals
        go_wp2_with fail
        go_roundw
        case rel => exact Lib.hid ⟨j + 1, by go_num, by omega, by rw [HN.out]; rfl, HX2.out⟩
        case measure => simp [intOf]; omega
    · obtain rfl : tn = j := by omega
      have HTK := Lib.hid (show ts.take tn = ts from List.take_of_length_le (by rw [HR.out.len]; exact Nat.le_refl _))
      rw [HTK.out]
      obtain ⟨⟨y0, y1, y2, y3, y4, y5, y6, y7⟩, y8⟩ := wait_box HV.out HX.out.h
      cases htn : tn with
      | zero =>
        subst htn
        have HF := Lib.hid (show againF ts v.x y = false from by
          rw [List.eq_nil_of_length_eq_zero HR.out.len]
          exact again_first (Int.not_le.2 HL.out))
        go_wp2_with fail
        go_ret
        exact ⟨by rw [HF.out]; rfl, HX.out.below⟩
      | succ m =>
        subst htn
        obtain ⟨u, hu⟩ : ∃ u, ts[m]? = some u := ⟨ts[m]'(by rw [HR.out.len]; omega), List.getElem?_eq_getElem _⟩
        have HLAST := Lib.hid (show ts.getLast? = some u by rw [List.getLast?_eq_getElem?, HR.out.len]; exact hu)
        obtain ⟨b, o, hbo, _⟩ := HRJ.out.rd.place (by rw [cellsOf_length _ 9 RV.cells_length, HR.out.len]; omega)
        have HRD := Lib.hid HRJ.out.rd
        rw [hbo] at HRD r5
        have HUI := Lib.hid (HRJ.out.ins u (List.mem_of_getElem? hu))
        have HCE := Lib.hid (fun (i : Nat) (q : Value) (hq : u.cells[i]? = some q) => show wr.cell? ⟨b, o + m * 9 + i, none⟩ = some q from rdc_cell RV.cells_length HRD.out hu i q hq)
        clear hbo hu hlt hj
        have wm : IntKind.i64.wrap (m : Int) = (m : Int) := by rw [IntKind.wrap_i64]; omega
        have wm0 : (0 : Int) ≤ (m : Int) := by omega
        have wm1 : (m : Int) < (m : Int) + 1 := by omega
        go_wp2_with fail
        refine wp_region_reads 12 (fun w' => w'.cell? ⟨R, 5, none⟩ = some (.slice (some ⟨b, o, none⟩) (m + 1) tc) ∧ ∀ (i : Nat) (q : Value), u.cells[i]? = some q → w'.cell? ⟨b, o + m * 9 + i, none⟩ = some q) (by kernel_rfl) (by kernel_rfl) (fun _ _ _ _ _ h => h) ⟨(Keep.drew (fun _ => False) wr).cell r5 id, fun i q hq => (Keep.drew (fun _ => False) wr).cell (HCE.out i q hq) id⟩ ?_
        simp only [List.take_succ_cons, List.take_zero, List.drop_succ_cons, List.drop_zero]
        iterate 11 (
          refine wpReads_cons (v := ?_) (Or.inl ⟨by rfl, ?_⟩) ?_
          rotate_left
          · intro w' hSw
            have hSx := hSw.1
            clear hSw
            try dsimp only at hSx
            go_simp
            try with_reducible rfl
          try simp only [Act.put, List.setIfInBounds_toArray, List.set_cons_zero, List.set_cons_succ])
        refine reads_load rfl 34 (.tmp 56) rfl b (o + m * 9) (by first | rfl | simp [Act.eval]) u.cells #[.int .i64 u.x.tick, .slice u.wo u.wn u.wc, .slice u.ko u.kn u.kc, .int .i64 u.x.rows, .int .i64 u.x.cols, .slice u.eo u.en u.ec, .slice u.po u.pn u.pc, .slice u.yo u.yn u.yc, .slice u.zo u.zn u.zc] rfl _ (fun w' hS i q hq => hS.2 i q hq) Tryz.underlying34 rfl sz_rec ?_
        simp only [Act.put, List.setIfInBounds_toArray, List.set_cons_zero, List.set_cons_succ]
        refine wpReads_nil ?_
        refine wpOp_here rfl (fun K hK => ?_)
        go_simp
        refine hK _ _ ⟨⟨(Keep.of_below (((Below.refl wr.heap.size wr).alloc (Nat.le_refl _) _).drew) (Nat.le_refl _) (fun _ => False)).cell r5 id, fun i q hq => (Keep.of_below (((Below.refl wr.heap.size wr).alloc (Nat.le_refl _) _).drew) (Nat.le_refl _) (fun _ => False)).cell (HCE.out i q hq) id⟩, ?_⟩
        clear hK K
        go_upto_region 12 with fail
        have HX2 := Lib.hid (HX.out.next (((Below.refl wr.heap.size wr).alloc (Nat.le_refl _) (.cells #[.int .i64 u.x.tick, .slice u.wo u.wn u.wc, .slice u.ko u.kn u.kc, .int .i64 u.x.rows, .int .i64 u.x.cols, .slice u.eo u.en u.ec, .slice u.po u.pn u.pc, .slice u.yo u.yn u.yc, .slice u.zo u.zn u.zc] 34)).drew))
        have HUI2 := Lib.hid (HUI.out.below (((Below.refl wr.heap.size wr).alloc (Nat.le_refl _) (.cells #[.int .i64 u.x.tick, .slice u.wo u.wn u.wc, .slice u.ko u.kn u.kc, .int .i64 u.x.rows, .int .i64 u.x.cols, .slice u.eo u.en u.ec, .slice u.po u.pn u.pc, .slice u.yo u.yn u.yc, .slice u.zo u.zn u.zc] 34)).drew))
        have HL9 := Lib.hid (show (wr.alloc (.cells #[.int .i64 u.x.tick, .slice u.wo u.wn u.wc, .slice u.ko u.kn u.kc, .int .i64 u.x.rows, .int .i64 u.x.cols, .slice u.eo u.en u.ec, .slice u.po u.pn u.pc, .slice u.yo u.yn u.yc, .slice u.zo u.zn u.zc] 34)).drew.heap[wr.heap.size]? = some (.cells #[.int .i64 u.x.tick, .slice u.wo u.wn u.wc, .slice u.ko u.kn u.kc, .int .i64 u.x.rows, .int .i64 u.x.cols, .slice u.eo u.en u.ec, .slice u.po u.pn u.pc, .slice u.yo u.yn u.yc, .slice u.zo u.zn u.zc] 34 (0, 0)) from heap_alloc_new wr _)
        clear r0 r1 r2 r3 r4 r5 y0 y1 y2 y3 y4 y5 y6 y7 y8 HCE HRD HUI wm wm0 wm1 HRJ
        generalize (wr.alloc (.cells #[.int .i64 u.x.tick, .slice u.wo u.wn u.wc, .slice u.ko u.kn u.kc, .int .i64 u.x.rows, .int .i64 u.x.cols, .slice u.eo u.en u.ec, .slice u.po u.pn u.pc, .slice u.yo u.yn u.yc, .slice u.zo u.zn u.zc] 34)).drew = W2 at *
        generalize wr.heap.size = L at *
        have HC2 := Lib.hid (head_cells HX2.out.h 18 (show y.cells = V.toList.take 18 by rw [← HV.out]; rfl))
        obtain ⟨l0, l1, l2, l3, l4, l5, l6, l7, l8⟩ := cells9 HL9.out
        cases hst : ts.any (fun u => stoodF u.x (idR y.r)) with
        | true =>
          have HF := Lib.hid (again_old (x := v.x) (Int.not_le.2 HL.out) HLAST.out hst)
          clear hst
          go_wp2_with (first | ((with_reducible refine wpList_load_elem (o := ⟨some 60, _, _, _, _, _⟩) ?_ 79 (.tmp 5) ?_ (H + 1) 0 ?_ y.cells V HV.out _ HC2.out Tryz.underlying79 ?_ ?_ ?_); rfl; rfl; rfl; rfl; exact sz_wait))
          refine (left_any W2 u y V HV.out HUI2.out).mono ?_
          rintro e w2 ⟨rfl, hb2⟩
          have HB2 := Lib.hid (Below.next HX2.out.below hb2)
          clear hb2
          generalize leftF u.x y = lf at *
          go_wp2_with fail
          go_ret
          exact ⟨by rw [HF.out]; rfl, HB2.out⟩
        | false =>
          have HF := Lib.hid (again_new (x := v.x) (Int.not_le.2 HL.out) HLAST.out hst)
          have y8 := (wait_box HV.out HX2.out.h).2
          clear hst
          go_wp2_with fail
          go_ret
          exact ⟨by rw [HF.out]; rfl, HX2.out.below⟩
end Go.Proofs.YtcaicgipibcicaaGreat

/- The same with several operations amid the reads. -/
namespace Go.Proofs.YtcaicgipibcicaaGreat
set_option maxRecDepth 100000

section
variable {P : Program} {ops : Array Oper} {md : Region.Mode} {S : World → Prop} {Q : Exit → Act → World → Prop}

/-- m operations from number i on, one after the other, S behind each. -/
def wpKeeps (P : Program) (ops : Array Oper) (Q : Exit → Act → World → Prop) (S : World → Prop) (K : Act → World → Prop) : Nat → Nat → Act → World → Prop
  | 0, _, a, w => K a w
  | m + 1, i, a, w => wpOp P ops Q i (fun a' w' => S w' ∧ wpKeeps P ops Q S K m (i + 1) a' w') a w

theorem wpAnyM_seq {n g : Nat} {Lq : Act → World → Prop} : ∀ (m k : Nat) (listed : Array Bool) (a : Act) (w : World), k + m = n → Region.seqB md ops (m + g) k listed = true → wpKeeps P ops Q S Lq m k a w →
    wpAnyM P md ops Q S n (fun listed' a' w' => Region.seqB md ops g n listed' = true ∧ Lq a' w') m listed a w
  | 0, k, listed, a, w, hk, hB, h => by
    have hkn : k = n := by simpa using hk
    subst hkn
    exact ⟨by simpa using hB, h⟩
  | m + 1, k, listed, a, w, hk, hB, h => by
    rw [show m + 1 + g = (m + g) + 1 by omega] at hB
    simp only [Region.seqB, Bool.and_eq_true, decide_eq_true_eq] at hB
    refine ⟨by rw [hB.1]; exact List.cons_ne_nil _ _, fun i hi => ?_⟩
    rw [hB.1] at hi
    have hik : i = k := by simpa using hi
    subst hik
    have hw : wpOp P ops Q i (fun a' w' => S w' ∧ wpKeeps P ops Q S Lq m (i + 1) a' w') a w := h
    exact ⟨by omega, wpOp_mono (fun a' w' h' => ⟨h'.1, wpAnyM_seq m (i + 1) _ a' w' (by omega) hB.2 h'.2⟩) hw⟩

theorem wpAnyM_lex2 {n m g : Nat} {Lq : Act → World → Prop} (hsel : Region.noSelect ops = true) (hs : Region.sinkB md ops (n + m) = true) (hc : Region.chainB md ops (n + m) = true) (hn : n + m < ops.size)
    (hQ : ∀ c (a : Act) (t : Nat) (v : Value) w, Q (.panic c) (a.put (some t) v) w → Q (.panic c) a w) :
    ∀ (l : List Oper) (k : Nat) (listed : Array Bool) (a : Act) (w : World), (∀ j, j < l.length → l[j]? = ops[k + j]?) → k + l.length = n → HeadInv md ops (n + m) listed →
    Region.lexHead md ops (m + g) l.length k listed = true → S w → wpReads P ops S (fun a' => wpKeeps P ops Q S Lq m n a' w) l a →
    wpAnyM P md ops Q S (n + m) (fun listed' a' w' => Region.seqB md ops g (n + m) listed' = true ∧ Lq a' w') (l.length + m) listed a w
  | [], k, listed, a, w, _, hk, _, hB, _, h => by
    have hkn : k = n := by simpa using hk
    subst hkn
    have hw : wpKeeps P ops Q S Lq m k a w := h
    rw [List.length_nil, Nat.zero_add]
    exact wpAnyM_seq m k listed a w rfl (by simpa [Region.lexHead] using hB) hw
  | o :: l, k, listed, a, w, hl, hk, inv, hB, hS, h => by
    have h0 : ops[k]? = some o := by simpa using (hl 0 (by simp)).symm
    simp only [List.length_cons, Region.lexHead, Bool.and_eq_true] at hB
    have hkn : k < n + m := by simp only [List.length_cons] at hk; omega
    have hr : k ∈ Region.ready md ops listed := by simpa using hB.1.1
    obtain ⟨v, hy, hK⟩ := h
    rw [show (o :: l).length + m = (l.length + m) + 1 by simp only [List.length_cons]; omega]
    refine wpAnyM_first h0 (Region.noSelect_spec hsel) hs hc hn hkn (fun c a' w' hp => panic_put hQ c a' _ _ w' hp) (fun listed' a' w' hL => seqB_ready hL.1) (l.length + m) listed a w inv (Region.free_spec h0 hB.1.2) hr hy hS ?_
    refine wpAnyM_lex2 hsel hs hc hn hQ l (k + 1) _ _ w (fun j hj => ?_) (by simp only [List.length_cons] at hk; omega) (inv.set hr hkn) hB.2 hS hK
    have h5 := hl (j + 1) (by simp only [List.length_cons]; omega)
    rw [show k + 1 + j = k + (j + 1) by omega, ← h5]
    rfl

/-- May a region be walked so? -/
def keepsB (ops : Array Oper) (n m : Nat) : Bool :=
  Region.noSelect ops && decide (n + m < ops.size) && Region.sinkB .any ops (n + m) && Region.chainB .any ops (n + m) && Region.lexHead .any ops (m + (ops.size - (n + m))) n 0 (Array.replicate ops.size false)

/-- Reads of what stays as it is while they may come up (S); m operations which keep S; behind them the tail. -/
theorem wp_region_keeps {id : Nat} {a : Act} {w : World} {l : List Oper} (n m : Nat) (S : World → Prop) (hm : P.follows .mixedOrders = true) (hB : keepsB l.toArray n m = true)
    (hQ : ∀ c (a : Act) (t : Nat) (v : Value) w, Q (.panic c) (a.put (some t) v) w → Q (.panic c) a w) (hS : S w.drew)
    (h : wpReads P l.toArray S (fun a' => wpKeeps P l.toArray Q S (fun a'' w'' => wpList P l.toArray Q (l.drop (n + m)) a'' w'') m n a' w.drew) (l.take n) a) : (Code.region id l.toArray true).wp P Q a w := by
  simp only [keepsB, Bool.and_eq_true, decide_eq_true_eq] at hB
  obtain ⟨⟨⟨⟨hsel, hn⟩, hs⟩, hc⟩, hlex⟩ := hB
  have hn' : n + m < l.length := by simpa using hn
  have htl : (l.take n).length = n := by simp; omega
  have hdl : (l.drop (n + m)).length = l.toArray.size - (n + m) := by simp
  have inv0 : HeadInv .any l.toArray (n + m) (Array.replicate l.toArray.size false) :=
    ⟨by simp, fun j oj _ hl => (by rw [getD_replicate_false] at hl; cases hl), fun t _ ht => getD_in (by simpa using ht) (getD_replicate_false _ _)⟩
  have H := wpAnyM_lex2 (md := .any) (g := l.toArray.size - (n + m)) hsel hs hc hn hQ (l.take n) 0 _ a w.drew (fun j hj => by
    rw [htl] at hj
    simp [hj]) (by simpa using htl) inv0 (by rw [htl]; exact hlex) hS h
  refine wp_region_any hm ?_
  have hA := wpAny_of_headM (g := l.toArray.size - (n + m)) (fun listed a' w' hL => by
    have hT := wpAny_of_seq (md := .any) (l.drop (n + m)) (n + m) listed a' w' (fun j => by simp [List.getElem?_drop]) (by rw [hdl]; exact hL.1) hL.2
    rwa [hdl] at hT) _ _ _ _ H
  rw [htl, show n + m + (l.toArray.size - (n + m)) = l.toArray.size by omega] at hA
  exact hA
end
end Go.Proofs.YtcaicgipibcicaaGreat

/- The reference's auditor sees a record. -/
namespace Go.Proofs.YtcaicgipibcicaaGreat
set_option maxRecDepth 100000
set_option linter.unusedVariables false
set_option linter.unusedSimpArgs false
open Go.RowKit Go.Sort

theorem Own.rdc {w : World} {size n c : Nat} {lo : Option Addr} {xs : List Value} (h : Own w size (.slice lo n c) n xs) : RdC w lo xs := by
  obtain ⟨hl, h⟩ := h
  rcases h with ⟨_, h0⟩ | ⟨g, cap, hv, _, _, hr⟩
  · subst h0
    exact .inl (List.eq_nil_of_length_eq_zero (by simpa using hl))
  · cases hv
    exact .inr ⟨g, 0, rfl, fun j u hu => by rw [Nat.zero_add]; exact hr.cell j u hu⟩
/-- The lists of a record lie below N (those that hold anything). -/
def RV.Low (N : Nat) (v : RV) : Prop := ∀ (X : Nat → Prop) (w w' : World), v.In w → Keep X w w' → (∀ k, X k → N ≤ k) → v.In w'
theorem RV.In.above {N : Nat} {X : Nat → Prop} {w w' : World} {v : RV} (h : v.In w) (hl : v.Low N) (hk : Keep X w w') (hx : ∀ k, X k → N ≤ k) : v.In w' := hl X w w' h hk hx
theorem RdC.lowN {w0 w w' : World} {ao : Option Addr} {xs : List Value} {X : Nat → Prop} (h0 : RdC w0 ao xs) (h : RdC w ao xs) (hk : Keep X w w') (hx : ∀ k, X k → w0.heap.size ≤ k) : RdC w' ao xs := by
  rcases h0 with he | ⟨b, o, he, hc⟩
  · exact .inl he
  · by_cases hn : xs = []
    · exact .inl hn
    · refine h.keep hk fun b' o' hb hX => ?_
      rw [he] at hb
      cases hb
      obtain ⟨u, us, rfl⟩ := List.exists_cons_of_ne_nil hn
      have h1 := hc 0 u rfl
      have h2 := hx b hX
      have h3 : w0.heap[b]? = none := by
        rw [Array.getElem?_eq_none_iff]
        exact h2
      simp [World.cell?, h3] at h1
theorem RV.In.low {w0 : World} {v : RV} (h0 : v.In w0) : v.Low w0.heap.size := fun X w w' h hk hx =>
  ⟨h.wl, h0.wr.lowN h.wr hk hx, h.wb, h.kl, h0.kr.lowN h.kr hk hx, h.kb, h.el, h0.er.lowN h.er hk hx, h.eb, h.pl, h0.pr.lowN h.pr hk hx, h.pb, h.yl, h0.yr.lowN h.yr hk hx, h.yb, h.zl, h0.zr.lowN h.zr hk hx, h.zb, h.ok⟩

/-- The reference's auditor, its list its own. -/
structure RefOwn (N : Nat) (c : PConf) (ts : List RV) (R : Nat) (sv : Value) (tn : Nat) (w : World) : Prop where
  box : w.heap[R]? = some (.cells #[.int .i64 c.q, .int .i64 c.d, .int .i64 c.w, .int .i64 c.ttl, .int .i64 c.b, sv] 50 (0, 0))
  len : ts.length = tn
  own : Own w 9 sv tn (cellsOf RV.cells ts)
  ins : ∀ v ∈ ts, v.In w
  low : ∀ v ∈ ts, v.Low N
  rN : N ≤ R
  oN : ∀ g, sv.ownBlock = some g → N ≤ g ∧ g ≠ R
theorem RefOwn.keep {N : Nat} {c : PConf} {ts : List RV} {R : Nat} {sv : Value} {tn : Nat} {X : Nat → Prop} {w w' : World} (h : RefOwn N c ts R sv tn w) (hk : Keep X w w') (hx : ∀ k, X k → N ≤ k ∧ k ≠ R ∧ sv.ownBlock ≠ some k) : RefOwn N c ts R sv tn w' :=
  ⟨hk.old h.box (fun hX => (hx _ hX).2.1 rfl), h.len, h.own.keep hk (fun g hg hX => (hx g hX).2.2 hg), fun v hv => (h.ins v hv).above (h.low v hv) hk (fun k hX => (hx k hX).1), h.low, h.rN, h.oN⟩
theorem RefOwn.below {N : Nat} {c : PConf} {ts : List RV} {R : Nat} {sv : Value} {tn : Nat} {w w' : World} (h : RefOwn N c ts R sv tn w) (hb : Below w.heap.size w w') : RefOwn N c ts R sv tn w' :=
  h.keep (Keep.of_below hb (Nat.le_refl _) (fun _ => False)) (fun _ hX => hX.elim)
theorem RefOwn.at {N : Nat} {c : PConf} {ts : List RV} {R : Nat} {lo : Option Addr} {tn tc : Nat} {w : World} (h : RefOwn N c ts R (.slice lo tn tc) tn w) : RefAt c ts R lo tn tc w := ⟨h.box, h.len, h.own.rdc, h.ins⟩

/-- The tick behind which the next record comes. -/
def lastT (ts : List RV) : Int := match ts.getLast? with | none => 0 | some u => u.x.tick
def againAt (ts : List RV) (x : PRec) (k : Nat) : Bool := match x.ws[k]? with | none => true | some y => !againF ts x y
theorem againAt_eq {ts : List RV} {x : PRec} {k : Nat} {y : PWait} (h : x.ws[k]? = some y) : againAt ts x k = !againF ts x y := by simp [againAt, h]
/-- What the reference says, and what it has then. -/
def rseeF (c : PConf) (ts : List RV) (v : RV) : Int × List RV :=
  if auditE c v.x ≠ 0 then (auditE c v.x, ts) else if v.x.tick - lastT ts ≠ c.w then (262, ts) else if !allF v.x.ws.length (againAt ts v.x) then (261, ts) else (0, ts ++ [v])
theorem rsee_1 {c : PConf} {ts : List RV} {v : RV} (h : auditE c v.x ≠ 0) : rseeF c ts v = (auditE c v.x, ts) := by simp [rseeF, h]
theorem rsee_2 {c : PConf} {ts : List RV} {v : RV} (h1 : auditE c v.x = 0) (h : v.x.tick - lastT ts ≠ c.w) : rseeF c ts v = (262, ts) := by simp [rseeF, h1, h]
theorem rsee_3 {c : PConf} {ts : List RV} {v : RV} (h1 : auditE c v.x = 0) (h2 : v.x.tick - lastT ts = c.w) (h : allF v.x.ws.length (againAt ts v.x) = false) : rseeF c ts v = (261, ts) := by simp [rseeF, h1, h2, h]
theorem rsee_4 {c : PConf} {ts : List RV} {v : RV} (h1 : auditE c v.x = 0) (h2 : v.x.tick - lastT ts = c.w) (h : allF v.x.ws.length (againAt ts v.x) = true) : rseeF c ts v = (0, ts ++ [v]) := by simp [rseeF, h1, h2, h]
theorem lastT_nil : lastT [] = 0 := rfl
theorem lastT_at {ts : List RV} {u : RV} {m : Nat} (hl : ts.length = m + 1) (hu : ts[m]? = some u) : lastT ts = u.x.tick := by
  unfold lastT
  rw [List.getLast?_eq_getElem?, hl, Nat.add_sub_cancel, hu]

def zeroRec : Value := .agg #[.int .i64 0, .slice none 0 0, .slice none 0 0, .int .i64 0, .int .i64 0, .slice none 0 0, .slice none 0 0, .slice none 0 0, .slice none 0 0]
theorem info_rec : (Tryz.prog.info? 34).map (fun i => (i.zero, i.size)) = some (some zeroRec, 9) := by kernel_rfl
theorem infos_rec : ∃ i, Tryz.prog.info? 34 = some i ∧ i.zero = some zeroRec ∧ i.size = 9 ∧ i.bytes = 168 := by
  cases hq : Tryz.prog.info? 34 with
  | none => have h := info_rec; simp [hq] at h
  | some i =>
    have h := info_rec
    simp [hq] at h
    exact ⟨i, rfl, h.1, h.2, by
      have h2 : (Tryz.prog.info? 34).map (fun i => i.bytes) = some 168 := by kernel_rfl
      simpa [hq] using h2⟩

/-- What it leaves. -/
def RSeePost (N : Nat) (w : World) (c : PConf) (ts : List RV) (R : Nat) (sv : Value) (v : RV) (e : Ending) (w' : World) : Prop :=
  e = .returned (.int .i64 (rseeF c ts v).1) ∧ ∃ sv' tn', RefOwn N c (rseeF c ts v).2 R sv' tn' w' ∧ Keep (fun k => k = R ∨ sv.ownBlock = some k) w w' ∧ (sv'.ownBlock = sv.ownBlock ∨ ∃ g, sv'.ownBlock = some g ∧ w.heap.size ≤ g)
theorem RSeePost.same {N : Nat} {w w' : World} {c : PConf} {ts : List RV} {R : Nat} {sv : Value} {tn : Nat} {v : RV} {k : Int} (h : RefOwn N c ts R sv tn w) (hf : rseeF c ts v = (k, ts)) (hb : Below w.heap.size w w') : RSeePost N w c ts R sv v (.returned (.int .i64 k)) w' :=
  ⟨by rw [hf], sv, tn, by rw [hf]; exact h.below hb, Keep.of_below hb (Nat.le_refl _) _, .inl rfl⟩
end Go.Proofs.YtcaicgipibcicaaGreat
