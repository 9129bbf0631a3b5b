/- Chapter 13 in the reference: what speaks against a pair; who fits. -/
import Derived.Test.YtcaicgipibcicaaGreatQRFit3
import Derived.Test.YtcaicgipibcicaaGreatQAllF
import Derived.Test.YtcaicgipibcicaaGreatQWeigh2
namespace Go.Proofs.YtcaicgipibcicaaGreat
set_option maxRecDepth 100000
set_option linter.unusedVariables false
set_option linter.unusedSimpArgs false
open Go.RowKit Go.Sort

theorem idx_class (b : Nat) (k : Int) (h0 : 0 ≤ k) (h7 : k ≤ 7) (w : World) : (Instr.index 274 (.agg (clArr b 8)) (.int .i64 k)).run Tryz.prog w = .ok (.bool (classF b k)) w := by
  obtain ⟨n, rfl⟩ := Int.eq_ofNat_of_zero_le h0
  have hlt : n < 8 := by omega
  have hat := clArr_at b 8 n hlt
  have : clAt b 8 n = .bool (classF b n) := by simp [clAt, hlt]
  rw [this] at hat
  have hn : (0 : Int) ≤ n ∧ (n : Int) < ((8 : Nat) : Int) := by omega
  have hi : (Tryz.prog.info? 4).map (·.size) = some 1 := by kernel_rfl
  cases hq : Tryz.prog.info? 4 with
  | none => simp [hq] at hi
  | some j =>
    have hj : j.size = 1 := by simpa [hq] using hi
    simp [Instr.index, run_underlying Tryz.underlying274, asIntOf, hn, hat, hlt, sizeOf, typeInfo, go_sem, hq, hj]

set_option maxHeartbeats 4000000 in
theorem ragainst_any (w : World) (r : PReq) (d : PDrv) (hr : r.Ok) (hd : d.Ok) : Calls Tryz.prog 174 #[.agg #[.int .u8 r.i0, .int .u8 r.i1, .int .u8 r.i2, .int .u8 r.i3, .int .u8 r.i4, .int .u8 r.i5, .int .u8 r.i6, .int .u8 r.i7, .int .i16 r.fx, .int .i16 r.fy, .int .i16 r.tx, .int .i16 r.ty, .int .u8 r.seats, .int .u8 r.classes, .int .i64 r.base, .int .i64 r.ttl], .agg #[.int .u8 d.i0, .int .u8 d.i1, .int .u8 d.i2, .int .u8 d.i3, .int .u8 d.i4, .int .u8 d.i5, .int .u8 d.i6, .int .u8 d.i7, .int .i16 d.ax, .int .i16 d.ay, .int .u8 d.seats, .int .u8 d.cls, .int .i64 d.radius]] w fun e w' => e = .returned (.int .i64 (againstF r d)) ∧ Below w.heap.size w w' := by
  have HB := Lib.hid (((Below.refl w.heap.size w).alloc (Nat.le_refl _) (.cells #[.int .u8 r.i0, .int .u8 r.i1, .int .u8 r.i2, .int .u8 r.i3, .int .u8 r.i4, .int .u8 r.i5, .int .u8 r.i6, .int .u8 r.i7, .int .i16 r.fx, .int .i16 r.fy, .int .i16 r.tx, .int .i16 r.ty, .int .u8 r.seats, .int .u8 r.classes, .int .i64 r.base, .int .i64 r.ttl] 77)).alloc (by simp) (.cells #[.int .u8 d.i0, .int .u8 d.i1, .int .u8 d.i2, .int .u8 d.i3, .int .u8 d.i4, .int .u8 d.i5, .int .u8 d.i6, .int .u8 d.i7, .int .i16 d.ax, .int .i16 d.ay, .int .u8 d.seats, .int .u8 d.cls, .int .i64 d.radius] 81))
  have hz : (w.alloc (.cells #[.int .u8 r.i0, .int .u8 r.i1, .int .u8 r.i2, .int .u8 r.i3, .int .u8 r.i4, .int .u8 r.i5, .int .u8 r.i6, .int .u8 r.i7, .int .i16 r.fx, .int .i16 r.fy, .int .i16 r.tx, .int .i16 r.ty, .int .u8 r.seats, .int .u8 r.classes, .int .i64 r.base, .int .i64 r.ttl] 77)).heap.size = w.heap.size + 1 := by simp
  have hh0 := (Keep.alloc (fun _ => False) (w.alloc (.cells #[.int .u8 r.i0, .int .u8 r.i1, .int .u8 r.i2, .int .u8 r.i3, .int .u8 r.i4, .int .u8 r.i5, .int .u8 r.i6, .int .u8 r.i7, .int .i16 r.fx, .int .i16 r.fy, .int .i16 r.tx, .int .i16 r.ty, .int .u8 r.seats, .int .u8 r.classes, .int .i64 r.base, .int .i64 r.ttl] 77)) (.cells #[.int .u8 d.i0, .int .u8 d.i1, .int .u8 d.i2, .int .u8 d.i3, .int .u8 d.i4, .int .u8 d.i5, .int .u8 d.i6, .int .u8 d.i7, .int .i16 d.ax, .int .i16 d.ay, .int .u8 d.seats, .int .u8 d.cls, .int .i64 d.radius] 81)).old (heap_alloc_new w (.cells #[.int .u8 r.i0, .int .u8 r.i1, .int .u8 r.i2, .int .u8 r.i3, .int .u8 r.i4, .int .u8 r.i5, .int .u8 r.i6, .int .u8 r.i7, .int .i16 r.fx, .int .i16 r.fy, .int .i16 r.tx, .int .i16 r.ty, .int .u8 r.seats, .int .u8 r.classes, .int .i64 r.base, .int .i64 r.ttl] 77)) id
  have hh1 := heap_alloc_new (w.alloc (.cells #[.int .u8 r.i0, .int .u8 r.i1, .int .u8 r.i2, .int .u8 r.i3, .int .u8 r.i4, .int .u8 r.i5, .int .u8 r.i6, .int .u8 r.i7, .int .i16 r.fx, .int .i16 r.fy, .int .i16 r.tx, .int .i16 r.ty, .int .u8 r.seats, .int .u8 r.classes, .int .i64 r.base, .int .i64 r.ttl] 77)) (.cells #[.int .u8 d.i0, .int .u8 d.i1, .int .u8 d.i2, .int .u8 d.i3, .int .u8 d.i4, .int .u8 d.i5, .int .u8 d.i6, .int .u8 d.i7, .int .i16 d.ax, .int .i16 d.ay, .int .u8 d.seats, .int .u8 d.cls, .int .i64 d.radius] 81)
  rw [hz] at hh1
  have H0 := Lib.hid hh0
  have H1 := Lib.hid hh1
  clear hz hh0 hh1
  have HDI := Lib.hid (fun w => rdist_any w d.ax d.ay r.fx r.fy hd.at_.1 hd.at_.2 hr.from_.1 hr.from_.2)
  obtain ⟨s1, s2⟩ := hr.seats
  obtain ⟨s3, s4⟩ := hr.classes
  obtain ⟨s5, s6⟩ := hd.seats
  obtain ⟨s7, s8⟩ := hd.cls
  obtain ⟨cn, hcn⟩ := Int.eq_ofNat_of_zero_le s3
  have HCL := Lib.hid (fun w => classes_any w cn (by omega))
  have HIX := Lib.hid (fun (h7 : d.cls ≤ 7) w => idx_class cn d.cls s7 h7 w)
  have hcase : ((if d.cls ≤ 7 ∧ classF r.classes d.cls = true then (0 : Int) else 1) = 1 ∧ 7 < d.cls) ∨ ((if d.cls ≤ 7 ∧ classF r.classes d.cls = true then (0 : Int) else 1) = 1 ∧ d.cls ≤ 7 ∧ classF cn d.cls = false) ∨ ((if d.cls ≤ 7 ∧ classF r.classes d.cls = true then (0 : Int) else 1) = 0 ∧ d.cls ≤ 7 ∧ classF cn d.cls = true) := by
    rw [hcn]
    by_cases a1 : 7 < d.cls
    · exact .inl ⟨if_neg (by omega), a1⟩
    · cases hcl : classF (cn : Int) d.cls with
      | true => exact .inr (.inr ⟨if_pos ⟨by omega, rfl⟩, by omega, rfl⟩)
      | false => exact .inr (.inl ⟨if_neg (by simp), by omega, rfl⟩)
  have hseat : ((if r.seats ≤ d.seats then (0 : Int) else 2) = 0 ∧ r.seats ≤ d.seats) ∨ ((if r.seats ≤ d.seats then (0 : Int) else 2) = 2 ∧ d.seats < r.seats) := by
    by_cases a : r.seats ≤ d.seats
    · exact .inl ⟨if_pos a, a⟩
    · exact .inr ⟨if_neg a, by omega⟩
  have HA := Lib.hid (show againstF r d = (if d.cls ≤ 7 ∧ classF r.classes d.cls = true then (0 : Int) else 1) + (if r.seats ≤ d.seats then (0 : Int) else 2) + (if distF d.ax d.ay r.fx r.fy ≤ d.radius then (0 : Int) else 4) from rfl)
  generalize (if d.cls ≤ 7 ∧ classF r.classes d.cls = true then (0 : Int) else 1) = A at *
  generalize (if r.seats ≤ d.seats then (0 : Int) else 2) = B at *
  generalize clArr cn 8 = CL at *
  have HCN := Lib.hid hcn
  clear hcn
  rcases hcase with ⟨rfl, a1⟩ | ⟨rfl, a1, a2⟩ | ⟨rfl, a1, a2⟩ <;> rcases hseat with ⟨rfl, a3⟩ | ⟨rfl, a3⟩
  all_goals
    go_enter Tryz.func174, Tryz.ntmps174
    go_wp2_with fail
    generalize (w.alloc (.cells #[.int .u8 r.i0, .int .u8 r.i1, .int .u8 r.i2, .int .u8 r.i3, .int .u8 r.i4, .int .u8 r.i5, .int .u8 r.i6, .int .u8 r.i7, .int .i16 r.fx, .int .i16 r.fy, .int .i16 r.tx, .int .i16 r.ty, .int .u8 r.seats, .int .u8 r.classes, .int .i64 r.base, .int .i64 r.ttl] 77)).alloc (.cells #[.int .u8 d.i0, .int .u8 d.i1, .int .u8 d.i2, .int .u8 d.i3, .int .u8 d.i4, .int .u8 d.i5, .int .u8 d.i6, .int .u8 d.i7, .int .i16 d.ax, .int .i16 d.ay, .int .u8 d.seats, .int .u8 d.cls, .int .i64 d.radius] 81) = W at *
    generalize w.heap.size + 1 = H2 at *
    have k0 := cell_regrown (show W.cell? ⟨w.heap.size, 13, none⟩ = some (.int .u8 r.classes) by simp [World.cell?, H0.out])
    have k1 := cell_regrown (show W.cell? ⟨H2, 11, none⟩ = some (.int .u8 d.cls) by simp [World.cell?, H1.out])
    have cQ : ∀ dd os, Calls Tryz.prog 194 #[.int .u8 r.classes] (grow (redrawn W dd) os) fun e w'' => e = .returned (.agg CL) ∧ ∃ p : Regrown, w'' = grow (redrawn W p.d) p.os := fun dd os => Calls.regrown_of (by rw [HCN.out]; exact HCL.out _)
    have k5 : d.cls ≤ 7 → ∀ w, Sem.run Tryz.prog (Instr.index 274 (Value.agg CL) (Value.int IntKind.i64 d.cls)) w = Result.ok (Value.bool (classF cn d.cls)) w := HIX.out
    have k6 : d.cls ≤ 7 → decide (7 < d.cls) = false := fun h => by simp; omega
    refine wp_region_quiet_below (by kernel_rfl) (by kernel_rfl) ?_
    first
      | (have k7 := k5 a1
         have k8 := k6 a1
         clear k5 k6
         repeat (go_big_quiet_step (exact cQ _ _)))
      | repeat (go_big_quiet_step (exact cQ _ _))
    refine wpQuiet_nil ?_
    intro _ hw'
    obtain ⟨⟨dq, osq⟩, hw''⟩ := hw'
    subst hw''
    have HBX := Lib.hid (below_two HB.out (below_regrown W dq osq))
    have hkx := Keep.of_below (below_regrown W dq osq) (Nat.le_refl _) (fun _ => False)
    have g0 := hkx.old H0.out id
    have g1 := hkx.old H1.out id
    clear k0 k1 cQ hkx
    try clear k5 k6
    generalize grow (redrawn W dq) osq = WX at *
    have c0 : WX.cell? ⟨w.heap.size, 12, none⟩ = some (.int .u8 r.seats) := by simp [World.cell?, g0]
    have c1 : WX.cell? ⟨H2, 10, none⟩ = some (.int .u8 d.seats) := by simp [World.cell?, g1]
    have k0 := cell_regrown (show WX.cell? ⟨w.heap.size, 8, none⟩ = some (.int .i16 r.fx) by simp [World.cell?, g0])
    have k1 := cell_regrown (show WX.cell? ⟨w.heap.size, 9, none⟩ = some (.int .i16 r.fy) by simp [World.cell?, g0])
    have k2 := cell_regrown (show WX.cell? ⟨H2, 8, none⟩ = some (.int .i16 d.ax) by simp [World.cell?, g1])
    have k3 := cell_regrown (show WX.cell? ⟨H2, 9, none⟩ = some (.int .i16 d.ay) by simp [World.cell?, g1])
    have k4 := cell_regrown (show WX.cell? ⟨H2, 12, none⟩ = some (.int .i64 d.radius) by simp [World.cell?, g1])
    clear g0 g1
    go_wp2_with fail
    have cQ : ∀ dd os, Calls Tryz.prog 195 #[.agg #[.int .i16 d.ax, .int .i16 d.ay], .agg #[.int .i16 r.fx, .int .i16 r.fy]] (grow (redrawn WX dd) os) fun e w'' => e = .returned (.int .i64 (distF d.ax d.ay r.fx r.fy)) ∧ ∃ p : Regrown, w'' = grow (redrawn WX p.d) p.os := fun dd os => Calls.regrown_of (HDI.out _)
    refine wp_region_quiet_below (by kernel_rfl) (by kernel_rfl) ?_
    repeat (go_big_quiet_step (exact cQ _ _))
    refine wpQuiet_nil ?_
    intro _ hw'
    obtain ⟨⟨dr, osr⟩, hw''⟩ := hw'
    subst hw''
    have HBY := Lib.hid (below_two HBX.out (below_regrown WX dr osr))
    clear k0 k1 k2 k3 k4 cQ
    generalize grow (redrawn WX dr) osr = WY at *
    by_cases a9 : distF d.ax d.ay r.fx r.fy ≤ d.radius
    · have hF : (if distF d.ax d.ay r.fx r.fy ≤ d.radius then (0 : Int) else 4) = 0 := if_pos a9
      rw [hF] at HA
      clear hF
      go_wp2_with fail
      go_ret
      exact ⟨by rw [HA.out]; rfl, HBY.out⟩
    · have hF : (if distF d.ax d.ay r.fx r.fy ≤ d.radius then (0 : Int) else 4) = 4 := if_neg a9
      rw [hF] at HA
      clear hF
      have a9' : d.radius < distF d.ax d.ay r.fx r.fy := by omega
      go_wp2_with fail
      go_ret
      exact ⟨by rw [HA.out]; rfl, HBY.out⟩

set_option maxHeartbeats 4000000 in
theorem rfits_any (w : World) (r : PReq) (d : PDrv) (hr : r.Ok) (hd : d.Ok) : Calls Tryz.prog 134 #[.agg #[.int .u8 r.i0, .int .u8 r.i1, .int .u8 r.i2, .int .u8 r.i3, .int .u8 r.i4, .int .u8 r.i5, .int .u8 r.i6, .int .u8 r.i7, .int .i16 r.fx, .int .i16 r.fy, .int .i16 r.tx, .int .i16 r.ty, .int .u8 r.seats, .int .u8 r.classes, .int .i64 r.base, .int .i64 r.ttl], .agg #[.int .u8 d.i0, .int .u8 d.i1, .int .u8 d.i2, .int .u8 d.i3, .int .u8 d.i4, .int .u8 d.i5, .int .u8 d.i6, .int .u8 d.i7, .int .i16 d.ax, .int .i16 d.ay, .int .u8 d.seats, .int .u8 d.cls, .int .i64 d.radius]] w fun e w' => e = .returned (.bool (fitsF r d)) ∧ Below w.heap.size w w' := by
  have HB := Lib.hid (((Below.refl w.heap.size w).alloc (Nat.le_refl _) (.cells #[.int .u8 r.i0, .int .u8 r.i1, .int .u8 r.i2, .int .u8 r.i3, .int .u8 r.i4, .int .u8 r.i5, .int .u8 r.i6, .int .u8 r.i7, .int .i16 r.fx, .int .i16 r.fy, .int .i16 r.tx, .int .i16 r.ty, .int .u8 r.seats, .int .u8 r.classes, .int .i64 r.base, .int .i64 r.ttl] 77)).alloc (by simp) (.cells #[.int .u8 d.i0, .int .u8 d.i1, .int .u8 d.i2, .int .u8 d.i3, .int .u8 d.i4, .int .u8 d.i5, .int .u8 d.i6, .int .u8 d.i7, .int .i16 d.ax, .int .i16 d.ay, .int .u8 d.seats, .int .u8 d.cls, .int .i64 d.radius] 81))
  have HA := Lib.hid (fun w => ragainst_any w r d hr hd)
  have HE := Lib.hid (fits_eq r d)
  go_enter Tryz.func134, Tryz.ntmps134
  go_wp2_with fail
  generalize (w.alloc (.cells #[.int .u8 r.i0, .int .u8 r.i1, .int .u8 r.i2, .int .u8 r.i3, .int .u8 r.i4, .int .u8 r.i5, .int .u8 r.i6, .int .u8 r.i7, .int .i16 r.fx, .int .i16 r.fy, .int .i16 r.tx, .int .i16 r.ty, .int .u8 r.seats, .int .u8 r.classes, .int .i64 r.base, .int .i64 r.ttl] 77)).alloc (.cells #[.int .u8 d.i0, .int .u8 d.i1, .int .u8 d.i2, .int .u8 d.i3, .int .u8 d.i4, .int .u8 d.i5, .int .u8 d.i6, .int .u8 d.i7, .int .i16 d.ax, .int .i16 d.ay, .int .u8 d.seats, .int .u8 d.cls, .int .i64 d.radius] 81) = W at *
  refine (HA.out W).mono ?_
  rintro e w1 ⟨rfl, hb1⟩
  have HB1 := Lib.hid (below_two HB.out hb1)
  clear hb1
  generalize againstF r d = A at *
  go_wp2_with fail
  go_ret
  exact ⟨by rw [← HE.out]; rfl, HB1.out⟩
end Go.Proofs.YtcaicgipibcicaaGreat

/- Chapter 13: all pairs that fit, in the reference. -/
namespace Go.Proofs.YtcaicgipibcicaaGreat
set_option maxRecDepth 100000
set_option linter.unusedVariables false
set_option linter.unusedSimpArgs false
open Go.RowKit Go.Sort

set_option maxHeartbeats 4000000 in
theorem rpairs_any (w : World) (ao bo : Option Addr) (n m c c' : Nat) (ws : List PWait) (ds : List PIdle) (hn : ws.length = n) (hm : ds.length = m) (hw : RdC w ao (cellsOf PWait.cells ws)) (hd : RdC w bo (cellsOf PIdle.cells ds))
    (how : ∀ x ∈ ws, x.Ok) (hod : ∀ x ∈ ds, x.Ok) (hn' : n ≤ 1048576) (hm' : m ≤ 1048576) :
    Calls Tryz.prog 100 #[.slice ao n c, .slice bo m c'] w fun e w' => ∃ v, e = .returned v ∧ Grown w PPair.cells 2 (pairsF ws ds) v w' := by
  have HN := Lib.hid hn
  have HM := Lib.hid hm
  have HW := Lib.hid hw
  have HD := Lib.hid hd
  have HOW := Lib.hid how
  have HOD := Lib.hid hod
  clear hn hm hw hd how hod
  go_enter Tryz.func100, Tryz.ntmps100
  go_wp2_with fail
  have hst := Lib.hid (show Grown w PPair.cells 2 (pairsAt ws ds 0 0) (.slice none 0 0) w from Grown.begin _ _ _)
  obtain ⟨i5, hi, hz0, hz1, hz2⟩ := infos info_pair
  go_loopw [5, 6] (fun a i wr => Hid (∃ p : Nat, i = .int .i64 p ∧ p ≤ n ∧ Grown w PPair.cells 2 (pairsAt ws ds p 0) a wr)) (fun _ i _ => n - (intOf i).toNat)
  case atStart => exact Lib.hid ⟨0, rfl, Nat.zero_le _, hst.out⟩
  case round =>
    obtain ⟨p, rfl, hp, hrel1⟩ := hrel.out
    clear hrel
    have HR := Lib.hid hrel1
    clear hrel1
    by_cases hlt : p < n
    · obtain ⟨x, hx⟩ : ∃ x, ws[p]? = some x := ⟨ws[p]'(by rw [HN.out]; exact hlt), List.getElem?_eq_getElem _⟩
      obtain ⟨b, o, rfl, _⟩ := HW.out.place (by rw [cellsOf_length _ 18 PWait.cells_length, HN.out]; omega)
      have HX := Lib.hid hx
      have HXO := Lib.hid (HOW.out x (List.mem_of_getElem? hx))
      clear hx
      go_wp2_with fail
      go_loopw [5, 7] (fun a i wr => Hid (∃ q : Nat, i = .int .i64 q ∧ q ≤ m ∧ Grown w PPair.cells 2 (pairsAt ws ds p q) a wr)) (fun _ i _ => m - (intOf i).toNat)
      case atStart => exact Lib.hid ⟨0, rfl, Nat.zero_le _, HR.out⟩
      case round =>
        obtain ⟨q, rfl, hq, hrel1⟩ := hrel.out
        clear hrel
        have HR1 := Lib.hid hrel1
        clear hrel1
        by_cases hqm : q < m
        · obtain ⟨y, hy⟩ : ∃ y, ds[q]? = some y := ⟨ds[q]'(by rw [HM.out]; exact hqm), List.getElem?_eq_getElem _⟩
          obtain ⟨b', o', rfl, _⟩ := HD.out.place (by rw [cellsOf_length _ 14 PIdle.cells_length, HM.out]; omega)
          have HY := Lib.hid hy
          have HYO := Lib.hid (HOD.out y (List.mem_of_getElem? hy))
          clear hy
          go_wp2_with fail
          have cQ : ∀ dd os, Calls Tryz.prog 134 #[.agg #[.int .u8 x.r.i0, .int .u8 x.r.i1, .int .u8 x.r.i2, .int .u8 x.r.i3, .int .u8 x.r.i4, .int .u8 x.r.i5, .int .u8 x.r.i6, .int .u8 x.r.i7, .int .i16 x.r.fx, .int .i16 x.r.fy, .int .i16 x.r.tx, .int .i16 x.r.ty, .int .u8 x.r.seats, .int .u8 x.r.classes, .int .i64 x.r.base, .int .i64 x.r.ttl], .agg #[.int .u8 y.d.i0, .int .u8 y.d.i1, .int .u8 y.d.i2, .int .u8 y.d.i3, .int .u8 y.d.i4, .int .u8 y.d.i5, .int .u8 y.d.i6, .int .u8 y.d.i7, .int .i16 y.d.ax, .int .i16 y.d.ay, .int .u8 y.d.seats, .int .u8 y.d.cls, .int .i64 y.d.radius]] (grow (redrawn wr dd) os) fun e w'' => e = .returned (.bool (fitsF x.r y.d)) ∧ ∃ p : Regrown, w'' = grow (redrawn wr p.d) p.os := fun dd os => Calls.regrown_of (rfits_any _ _ _ HXO.out.r HYO.out.d)
          obtain ⟨k0, k1, k2, k3, k4, k5, k6, k7, k8, k9, k10, k11, k12, k13, k14, k15, k16, k17⟩ := wait_re (HW.out.below HR1.out.below) HX.out
          obtain ⟨j0, j1, j2, j3, j4, j5, j6, j7, j8, j9, j10, j11, j12, j13⟩ := idle_re (HD.out.below HR1.out.below) HY.out
          have HF := Lib.hid (fitAt_eq HX.out HY.out)
          refine wp_region_quiet_below (by kernel_rfl) (by kernel_rfl) ?_
          repeat (go_big_quiet_step (exact cQ _ _))
          refine wpQuiet_nil ?_
          intro _ hw'
          obtain ⟨⟨dq, osq⟩, hw''⟩ := hw'
          subst hw''
          clear cQ k0 k1 k2 k3 k4 k5 k6 k7 k8 k9 k10 k11 k12 k13 k14 k15 k16 k17 j0 j1 j2 j3 j4 j5 j6 j7 j8 j9 j10 j11 j12 j13
          have HBX := Lib.hid (below_regrown wr dq osq)
          generalize grow (redrawn wr dq) osq = WX at *
          cases hfit : fitsF x.r y.d with
          | true =>
            rw [hfit] at HF
            have hlen := pairsAt_len ws ds p q
            have hsmall : (pairsAt ws ds p q).length + 1 ≤ 1099512676353 := by
              have h1 : p * ds.length ≤ 1048576 * 1048576 := Nat.mul_le_mul (by omega) (by rw [HM.out]; exact hm')
              omega
            clear hlen
            have HG := Lib.hid (HR1.out.next HBX.out)
            go_wp2_with (at_builtin; refine wpList_append_two rfl (.tmp 31) (.tmp 35) 29 29 rfl 69 i5 zeroPair 2 16 Tryz.underlying29 hi hz0 hz1 hz2 rfl u5 (pairsAt ws ds p q).length _ rfl (HG.out.own.keep (Keep.alloc (fun _ => False) _ _) (fun _ _ => id)) (.slice (some ⟨WX.heap.size, 0, none⟩) 1 1) 1 (PPair.cells ⟨p, q⟩) rfl (Src.lit Tryz.underlying29 2 _ rfl (PPair.cells_one _) _ _ rfl) (by omega) (by unfold maxLen; omega) (by omega) ?_)
            intro g cap w2 ho2 hc2
            have hrel2 := Lib.hid (show Grown w PPair.cells 2 (pairsAt ws ds p (q + 1)) (.slice (some ⟨g, 0, none⟩) ((pairsAt ws ds p q).length + 1) cap) w2 from by
              rw [pairsAt_yes HF.out]
              exact HG.out.app (Keep.alloc (fun _ => False) _ _) ho2 hc2)
            clear ho2 hc2
            generalize (pairsAt ws ds p q).length = N at *
            go_wp2_with fail
            go_roundw
            case rel => exact Lib.hid ⟨q + 1, by go_num, by omega, hrel2.out⟩
            case measure => simp [intOf]; omega
          | false =>
            rw [hfit] at HF
            have hrel2 := Lib.hid (show Grown w PPair.cells 2 (pairsAt ws ds p (q + 1)) u5 WX from by
              rw [pairsAt_no HF.out]
              exact HR1.out.next HBX.out)
            go_wp2_with fail
            go_roundw
            case rel => exact Lib.hid ⟨q + 1, by go_num, by omega, hrel2.out⟩
            case measure => simp [intOf]; omega
        · obtain rfl : m = q := by omega
          go_wp2_with fail
          go_roundw
          case rel => exact Lib.hid ⟨p + 1, by go_num, by omega, by rw [pairsAt_next, HM.out]; exact HR1.out⟩
          case measure => simp [intOf]; omega
    · obtain rfl : n = p := by omega
      go_wp2_with fail
      go_ret
      refine ⟨_, rfl, ?_⟩
      rw [← pairsAt_all, HN.out]
      exact HR.out
end Go.Proofs.YtcaicgipibcicaaGreat

/- Chapter 16: what a pair is worth, in the reference. -/
namespace Go.Proofs.YtcaicgipibcicaaGreat
set_option maxRecDepth 100000
set_option linter.unusedVariables false
set_option linter.unusedSimpArgs false
open Go.RowKit Go.Sort

set_option maxHeartbeats 8000000 in
theorem rweight_p (w : World) (c : PConf) (now : Int) (x : PWait) (hx : x.Ok) (hnow : i64ok now) : Calls Tryz.prog 99 #[.agg #[.int .i64 c.q, .int .i64 c.d, .int .i64 c.w, .int .i64 c.ttl, .int .i64 c.b], .int .i64 now, .agg #[.int .u8 x.r.i0, .int .u8 x.r.i1, .int .u8 x.r.i2, .int .u8 x.r.i3, .int .u8 x.r.i4, .int .u8 x.r.i5, .int .u8 x.r.i6, .int .u8 x.r.i7, .int .i16 x.r.fx, .int .i16 x.r.fy, .int .i16 x.r.tx, .int .i16 x.r.ty, .int .u8 x.r.seats, .int .u8 x.r.classes, .int .i64 x.r.base, .int .i64 x.r.ttl, .int .i64 x.since, .int .i64 x.number]] w fun e w' => e = .returned (.tuple #[.int .i64 (wtP c now x).1, .int .i64 (wtP c now x).2]) ∧ Below w.heap.size w w' := by
  have HXR := Lib.hid hx.r
  obtain ⟨xs1, xs2⟩ := hx.since
  obtain ⟨xt1, xt2⟩ := hx.r.ttl
  obtain ⟨nw1, nw2⟩ := hnow
  clear hx
  have HW := Lib.hid (CwRel.begin w c x)
  obtain ⟨A, E, hAE⟩ : ∃ A E, wtP c now x = (A, E) := ⟨_, _, rfl⟩
  rw [hAE]
  have HAE := Lib.hid hAE
  clear hAE
  go_enter Tryz.func99, Tryz.ntmps99
  go_upto_region 1 with fail
  generalize (w.alloc (.cells #[.int .i64 c.q, .int .i64 c.d, .int .i64 c.w, .int .i64 c.ttl, .int .i64 c.b] 23)).alloc (.cells #[.int .u8 x.r.i0, .int .u8 x.r.i1, .int .u8 x.r.i2, .int .u8 x.r.i3, .int .u8 x.r.i4, .int .u8 x.r.i5, .int .u8 x.r.i6, .int .u8 x.r.i7, .int .i16 x.r.fx, .int .i16 x.r.fy, .int .i16 x.r.tx, .int .i16 x.r.ty, .int .u8 x.r.seats, .int .u8 x.r.classes, .int .i64 x.r.base, .int .i64 x.r.ttl, .int .i64 x.since, .int .i64 x.number] 79) = W at *
  generalize w.heap.size + 1 = H1 at *
  have HHE := Lib.hid (show ∃ H0, w.heap.size = H0 from ⟨_, rfl⟩)
  obtain ⟨H0, hH0⟩ := HHE.out
  rw [hH0] at HW
  rw [hH0]
  have HH := Lib.hid hH0
  clear hH0 HHE
  go_wp2_with (first | ((with_reducible refine wpList_load_elem (o := ⟨some 10, _, _, _, _, _⟩) ?_ 23 (.tmp 3) ?_ H0 (0) ?_ c.cells #[.int .i64 c.q, .int .i64 c.d, .int .i64 c.w, .int .i64 c.ttl, .int .i64 c.b] ?_ _ (conf_whole HW.out.g) Tryz.underlying23 ?_ ?_ ?_); rfl; rfl; rfl; rfl; rfl; exact sz_conf) | ((with_reducible refine wpList_load_elem (o := ⟨some 12, _, _, _, _, _⟩) ?_ 77 (.tmp 11) ?_ H1 (0) ?_ x.r.cells #[.int .u8 x.r.i0, .int .u8 x.r.i1, .int .u8 x.r.i2, .int .u8 x.r.i3, .int .u8 x.r.i4, .int .u8 x.r.i5, .int .u8 x.r.i6, .int .u8 x.r.i7, .int .i16 x.r.fx, .int .i16 x.r.fy, .int .i16 x.r.tx, .int .i16 x.r.ty, .int .u8 x.r.seats, .int .u8 x.r.classes, .int .i64 x.r.base, .int .i64 x.r.ttl] ?_ _ (wait_head HW.out.h) Tryz.underlying77 ?_ ?_ ?_); rfl; rfl; rfl; rfl; rfl; exact sz_req))
  refine (rcheck_any W c x.r HXR.out).mono ?_
  rintro e w1 ⟨rfl, hb1⟩
  have HW1 := Lib.hid (HW.out.keep hb1)
  clear hb1 HW
  obtain ⟨g4, k14, k15, k16⟩ := HW1.out.cells
  by_cases h0 : checkE c x.r = 0
  · have HB := Lib.hid (check_bounds h0)
    obtain ⟨b1, b2, b3, b4, b5, b6, b7⟩ := HB.out
    have H0E := Lib.hid h0
    rw [h0]
    clear h0
    go_wp2_with fail
    refine (rtick_any w1 now).mono ?_
    rintro e w2 ⟨rfl, rfl⟩
    by_cases ht1 : 0 ≤ now ∧ now ≤ 1099511627776
    · obtain ⟨t1, t2⟩ := ht1
      rw [show tickF now = true from decide_eq_true ⟨t1, t2⟩]
      go_wp2_with fail
      refine (rtick_any w1 x.since).mono ?_
      rintro e w2 ⟨rfl, rfl⟩
      by_cases ht2 : 0 ≤ x.since ∧ x.since ≤ 1099511627776
      · obtain ⟨t3, t4⟩ := ht2
        rw [show tickF x.since = true from decide_eq_true ⟨t3, t4⟩]
        by_cases ht3 : now < x.since
        · have HE := Lib.hid (Prod.mk.inj (HAE.out.symm.trans (wtP_arg H0E.out (by omega))))
          go_wp2_with fail
          go_ret2
          exact ⟨by rw [HE.out.1, HE.out.2]; rfl, HW1.out.below⟩
        · have t5 : x.since ≤ now := by omega
          clear ht3
          by_cases ht4 : x.r.ttl < now - x.since
          · have HE := Lib.hid (Prod.mk.inj (HAE.out.symm.trans (wtP_gone H0E.out ⟨t1, t2, t3, t4, t5⟩ ht4)))
            go_wp2_with fail
            go_ret2
            exact ⟨by rw [HE.out.1, HE.out.2]; rfl, HW1.out.below⟩
          · have t6 : now - x.since ≤ x.r.ttl := by omega
            have HE := Lib.hid (Prod.mk.inj (HAE.out.symm.trans (wtP_good H0E.out ⟨t1, t2, t3, t4, t5⟩ ht4)))
            have hmb := mul_bd (a := now - x.since) (b := c.b + 1) (by omega) (by omega) (by omega) (by omega)
            obtain ⟨M, hM⟩ : ∃ M, (now - x.since) * (c.b + 1) = M := ⟨_, rfl⟩
            rw [hM] at hmb HE
            obtain ⟨m1, m2⟩ := hmb
            have hw : wrap64 ((now - x.since) * (c.b + 1)) = M := by rw [hM]; exact IntWalk.wrap64_in M ⟨by omega, by omega⟩
            clear ht4 hM
            go_wp2_with fail
            go_ret2
            exact ⟨by rw [HE.out.1, HE.out.2]; rfl, HW1.out.below⟩
      · have HE := Lib.hid (Prod.mk.inj (HAE.out.symm.trans (wtP_arg H0E.out (by omega))))
        rw [show tickF x.since = false from decide_eq_false ht2]
        clear ht2
        go_wp2_with fail
        go_ret2
        exact ⟨by rw [HE.out.1, HE.out.2]; rfl, HW1.out.below⟩
    · have HE := Lib.hid (Prod.mk.inj (HAE.out.symm.trans (wtP_arg H0E.out (by omega))))
      rw [show tickF now = false from decide_eq_false ht1]
      clear ht1
      go_wp2_with fail
      go_ret2
      exact ⟨by rw [HE.out.1, HE.out.2]; rfl, HW1.out.below⟩
  · have HE := Lib.hid (Prod.mk.inj (HAE.out.symm.trans (wtP_check h0)))
    have b1 : (checkE c x.r == 0) = false := by simp [h0]
    have b2 : (checkE c x.r != 0) = true := by simp [h0]
    clear h0
    generalize checkE c x.r = C at *
    go_wp2_with fail
    go_ret2
    exact ⟨by rw [HE.out.1, HE.out.2]; rfl, HW1.out.below⟩
end Go.Proofs.YtcaicgipibcicaaGreat
