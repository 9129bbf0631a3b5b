/- Chapter 13 in the reference: what speaks against a pair; who fits. -/
import Derived.Test.YtcaicgipibcicaaGreatQRFit3
import Derived.Test.YtcaicgipibcicaaGreatQCertF
import Derived.Test.YtcaicgipibcicaaGreatQWeigh2
import Derived.Deep.RegionHeld3
import Derived.StillTailTactics
namespace Go.Proofs.YtcaicgipibcicaaGreat
set_option maxRecDepth 100000
set_option linter.unusedVariables false
set_option linter.unusedSimpArgs false
open Go.RowKit Go.Sort

theorem idx_class (b : Nat) (k : Int) (h0 : 0 ≤ k) (h7 : k ≤ 7) (w : World) : (Instr.index 274 (.agg (clArr b 8)) (.int .i64 k)).run Tryz.prog w = .ok (.bool (classF b k)) w := by
  obtain ⟨n, rfl⟩ := Int.eq_ofNat_of_zero_le h0
  have hlt : n < 8 := by omega
  have hat := clArr_at b 8 n hlt
  have : clAt b 8 n = .bool (classF b n) := by simp [clAt, hlt]
  rw [this] at hat
  have hn : (0 : Int) ≤ n ∧ (n : Int) < ((8 : Nat) : Int) := by omega
  have hi : (Tryz.prog.info? 4).map (·.size) = some 1 := by kernel_rfl
  cases hq : Tryz.prog.info? 4 with
  | none => simp [hq] at hi
  | some j =>
    have hj : j.size = 1 := by simpa [hq] using hi
    simp [Instr.index, run_underlying Tryz.underlying274, asIntOf, hn, hat, hlt, sizeOf, typeInfo, go_sem, hq, hj]

set_option maxHeartbeats 4000000 in
theorem ragainst_any (w : World) (r : PReq) (d : PDrv) (hr : r.Ok) (hd : d.Ok) : Calls Tryz.prog 174 #[.agg #[.int .u8 r.i0, .int .u8 r.i1, .int .u8 r.i2, .int .u8 r.i3, .int .u8 r.i4, .int .u8 r.i5, .int .u8 r.i6, .int .u8 r.i7, .int .i16 r.fx, .int .i16 r.fy, .int .i16 r.tx, .int .i16 r.ty, .int .u8 r.seats, .int .u8 r.classes, .int .i64 r.base, .int .i64 r.ttl], .agg #[.int .u8 d.i0, .int .u8 d.i1, .int .u8 d.i2, .int .u8 d.i3, .int .u8 d.i4, .int .u8 d.i5, .int .u8 d.i6, .int .u8 d.i7, .int .i16 d.ax, .int .i16 d.ay, .int .u8 d.seats, .int .u8 d.cls, .int .i64 d.radius]] w fun e w' => e = .returned (.int .i64 (againstF r d)) ∧ Below w.heap.size w w' := by
  have HB := Lib.hid (((Below.refl w.heap.size w).alloc (Nat.le_refl _) (.cells #[.int .u8 r.i0, .int .u8 r.i1, .int .u8 r.i2, .int .u8 r.i3, .int .u8 r.i4, .int .u8 r.i5, .int .u8 r.i6, .int .u8 r.i7, .int .i16 r.fx, .int .i16 r.fy, .int .i16 r.tx, .int .i16 r.ty, .int .u8 r.seats, .int .u8 r.classes, .int .i64 r.base, .int .i64 r.ttl] 77)).alloc (by simp) (.cells #[.int .u8 d.i0, .int .u8 d.i1, .int .u8 d.i2, .int .u8 d.i3, .int .u8 d.i4, .int .u8 d.i5, .int .u8 d.i6, .int .u8 d.i7, .int .i16 d.ax, .int .i16 d.ay, .int .u8 d.seats, .int .u8 d.cls, .int .i64 d.radius] 81))
  have hz : (w.alloc (.cells #[.int .u8 r.i0, .int .u8 r.i1, .int .u8 r.i2, .int .u8 r.i3, .int .u8 r.i4, .int .u8 r.i5, .int .u8 r.i6, .int .u8 r.i7, .int .i16 r.fx, .int .i16 r.fy, .int .i16 r.tx, .int .i16 r.ty, .int .u8 r.seats, .int .u8 r.classes, .int .i64 r.base, .int .i64 r.ttl] 77)).heap.size = w.heap.size + 1 := by simp
  have hh0 := (Keep.alloc (fun _ => False) (w.alloc (.cells #[.int .u8 r.i0, .int .u8 r.i1, .int .u8 r.i2, .int .u8 r.i3, .int .u8 r.i4, .int .u8 r.i5, .int .u8 r.i6, .int .u8 r.i7, .int .i16 r.fx, .int .i16 r.fy, .int .i16 r.tx, .int .i16 r.ty, .int .u8 r.seats, .int .u8 r.classes, .int .i64 r.base, .int .i64 r.ttl] 77)) (.cells #[.int .u8 d.i0, .int .u8 d.i1, .int .u8 d.i2, .int .u8 d.i3, .int .u8 d.i4, .int .u8 d.i5, .int .u8 d.i6, .int .u8 d.i7, .int .i16 d.ax, .int .i16 d.ay, .int .u8 d.seats, .int .u8 d.cls, .int .i64 d.radius] 81)).old (heap_alloc_new w (.cells #[.int .u8 r.i0, .int .u8 r.i1, .int .u8 r.i2, .int .u8 r.i3, .int .u8 r.i4, .int .u8 r.i5, .int .u8 r.i6, .int .u8 r.i7, .int .i16 r.fx, .int .i16 r.fy, .int .i16 r.tx, .int .i16 r.ty, .int .u8 r.seats, .int .u8 r.classes, .int .i64 r.base, .int .i64 r.ttl] 77)) id
  have hh1 := heap_alloc_new (w.alloc (.cells #[.int .u8 r.i0, .int .u8 r.i1, .int .u8 r.i2, .int .u8 r.i3, .int .u8 r.i4, .int .u8 r.i5, .int .u8 r.i6, .int .u8 r.i7, .int .i16 r.fx, .int .i16 r.fy, .int .i16 r.tx, .int .i16 r.ty, .int .u8 r.seats, .int .u8 r.classes, .int .i64 r.base, .int .i64 r.ttl] 77)) (.cells #[.int .u8 d.i0, .int .u8 d.i1, .int .u8 d.i2, .int .u8 d.i3, .int .u8 d.i4, .int .u8 d.i5, .int .u8 d.i6, .int .u8 d.i7, .int .i16 d.ax, .int .i16 d.ay, .int .u8 d.seats, .int .u8 d.cls, .int .i64 d.radius] 81)
  rw [hz] at hh1
  have H0 := Lib.hid hh0
  have H1 := Lib.hid hh1
  clear hz hh0 hh1
  have HDI := Lib.hid (fun w => rdist_any w d.ax d.ay r.fx r.fy hd.at_.1 hd.at_.2 hr.from_.1 hr.from_.2)
  obtain ⟨s1, s2⟩ := hr.seats
  obtain ⟨s3, s4⟩ := hr.classes
  obtain ⟨s5, s6⟩ := hd.seats
  obtain ⟨s7, s8⟩ := hd.cls
  obtain ⟨cn, hcn⟩ := Int.eq_ofNat_of_zero_le s3
  have HCL := Lib.hid (fun w => classes_any w cn (by omega))
  have HIX := Lib.hid (fun (h7 : d.cls ≤ 7) w => idx_class cn d.cls s7 h7 w)
  have hcase : ((if d.cls ≤ 7 ∧ classF r.classes d.cls = true then (0 : Int) else 1) = 1 ∧ 7 < d.cls) ∨ ((if d.cls ≤ 7 ∧ classF r.classes d.cls = true then (0 : Int) else 1) = 1 ∧ d.cls ≤ 7 ∧ classF cn d.cls = false) ∨ ((if d.cls ≤ 7 ∧ classF r.classes d.cls = true then (0 : Int) else 1) = 0 ∧ d.cls ≤ 7 ∧ classF cn d.cls = true) := by
    rw [hcn]
    by_cases a1 : 7 < d.cls
    · exact .inl ⟨if_neg (by omega), a1⟩
    · cases hcl : classF (cn : Int) d.cls with
      | true => exact .inr (.inr ⟨if_pos ⟨by omega, rfl⟩, by omega, rfl⟩)
      | false => exact .inr (.inl ⟨if_neg (by simp), by omega, rfl⟩)
  have hseat : ((if r.seats ≤ d.seats then (0 : Int) else 2) = 0 ∧ r.seats ≤ d.seats) ∨ ((if r.seats ≤ d.seats then (0 : Int) else 2) = 2 ∧ d.seats < r.seats) := by
    by_cases a : r.seats ≤ d.seats
    · exact .inl ⟨if_pos a, a⟩
    · exact .inr ⟨if_neg a, by omega⟩
  have HA := Lib.hid (show againstF r d = (if d.cls ≤ 7 ∧ classF r.classes d.cls = true then (0 : Int) else 1) + (if r.seats ≤ d.seats then (0 : Int) else 2) + (if distF d.ax d.ay r.fx r.fy ≤ d.radius then (0 : Int) else 4) from rfl)
  generalize (if d.cls ≤ 7 ∧ classF r.classes d.cls = true then (0 : Int) else 1) = A at *
  generalize (if r.seats ≤ d.seats then (0 : Int) else 2) = B at *
  generalize clArr cn 8 = CL at *
  have HCN := Lib.hid hcn
  clear hcn
  rcases hcase with ⟨rfl, a1⟩ | ⟨rfl, a1, a2⟩ | ⟨rfl, a1, a2⟩ <;> rcases hseat with ⟨rfl, a3⟩ | ⟨rfl, a3⟩
  all_goals
    go_enter Tryz.func174, Tryz.ntmps174
    go_wp2_with fail
    generalize (w.alloc (.cells #[.int .u8 r.i0, .int .u8 r.i1, .int .u8 r.i2, .int .u8 r.i3, .int .u8 r.i4, .int .u8 r.i5, .int .u8 r.i6, .int .u8 r.i7, .int .i16 r.fx, .int .i16 r.fy, .int .i16 r.tx, .int .i16 r.ty, .int .u8 r.seats, .int .u8 r.classes, .int .i64 r.base, .int .i64 r.ttl] 77)).alloc (.cells #[.int .u8 d.i0, .int .u8 d.i1, .int .u8 d.i2, .int .u8 d.i3, .int .u8 d.i4, .int .u8 d.i5, .int .u8 d.i6, .int .u8 d.i7, .int .i16 d.ax, .int .i16 d.ay, .int .u8 d.seats, .int .u8 d.cls, .int .i64 d.radius] 81) = W at *
    generalize w.heap.size + 1 = H2 at *
    have k0 := cell_regrown (show W.cell? ⟨w.heap.size, 13, none⟩ = some (.int .u8 r.classes) by simp [World.cell?, H0.out])
    have k1 := cell_regrown (show W.cell? ⟨H2, 11, none⟩ = some (.int .u8 d.cls) by simp [World.cell?, H1.out])
    have cQ : ∀ dd os, Calls Tryz.prog 194 #[.int .u8 r.classes] (grow (redrawn W dd) os) fun e w'' => e = .returned (.agg CL) ∧ ∃ p : Regrown, w'' = grow (redrawn W p.d) p.os := fun dd os => Calls.regrown_of (by rw [HCN.out]; exact HCL.out _)
    have k5 : d.cls ≤ 7 → ∀ w, Sem.run Tryz.prog (Instr.index 274 (Value.agg CL) (Value.int IntKind.i64 d.cls)) w = Result.ok (Value.bool (classF cn d.cls)) w := HIX.out
    have k6 : d.cls ≤ 7 → decide (7 < d.cls) = false := fun h => by simp; omega
    refine wp_region_quiet_below (by kernel_rfl) (by kernel_rfl) ?_
    first
      | (have k7 := k5 a1
         have k8 := k6 a1
         clear k5 k6
         repeat (go_big_quiet_step (exact cQ _ _)))
      | repeat (go_big_quiet_step (exact cQ _ _))
    refine wpQuiet_nil ?_
    intro _ hw'
    obtain ⟨⟨dq, osq⟩, hw''⟩ := hw'
    subst hw''
    have HBX := Lib.hid (below_two HB.out (below_regrown W dq osq))
    have hkx := Keep.of_below (below_regrown W dq osq) (Nat.le_refl _) (fun _ => False)
    have g0 := hkx.old H0.out id
    have g1 := hkx.old H1.out id
    clear k0 k1 cQ hkx
    try clear k5 k6
    generalize grow (redrawn W dq) osq = WX at *
    have c0 : WX.cell? ⟨w.heap.size, 12, none⟩ = some (.int .u8 r.seats) := by simp [World.cell?, g0]
    have c1 : WX.cell? ⟨H2, 10, none⟩ = some (.int .u8 d.seats) := by simp [World.cell?, g1]
    have k0 := cell_regrown (show WX.cell? ⟨w.heap.size, 8, none⟩ = some (.int .i16 r.fx) by simp [World.cell?, g0])
    have k1 := cell_regrown (show WX.cell? ⟨w.heap.size, 9, none⟩ = some (.int .i16 r.fy) by simp [World.cell?, g0])
    have k2 := cell_regrown (show WX.cell? ⟨H2, 8, none⟩ = some (.int .i16 d.ax) by simp [World.cell?, g1])
    have k3 := cell_regrown (show WX.cell? ⟨H2, 9, none⟩ = some (.int .i16 d.ay) by simp [World.cell?, g1])
    have k4 := cell_regrown (show WX.cell? ⟨H2, 12, none⟩ = some (.int .i64 d.radius) by simp [World.cell?, g1])
    clear g0 g1
    go_wp2_with fail
    have cQ : ∀ dd os, Calls Tryz.prog 195 #[.agg #[.int .i16 d.ax, .int .i16 d.ay], .agg #[.int .i16 r.fx, .int .i16 r.fy]] (grow (redrawn WX dd) os) fun e w'' => e = .returned (.int .i64 (distF d.ax d.ay r.fx r.fy)) ∧ ∃ p : Regrown, w'' = grow (redrawn WX p.d) p.os := fun dd os => Calls.regrown_of (HDI.out _)
    refine wp_region_quiet_below (by kernel_rfl) (by kernel_rfl) ?_
    repeat (go_big_quiet_step (exact cQ _ _))
    refine wpQuiet_nil ?_
    intro _ hw'
    obtain ⟨⟨dr, osr⟩, hw''⟩ := hw'
    subst hw''
    have HBY := Lib.hid (below_two HBX.out (below_regrown WX dr osr))
    clear k0 k1 k2 k3 k4 cQ
    generalize grow (redrawn WX dr) osr = WY at *
    by_cases a9 : distF d.ax d.ay r.fx r.fy ≤ d.radius
    · have hF : (if distF d.ax d.ay r.fx r.fy ≤ d.radius then (0 : Int) else 4) = 0 := if_pos a9
      rw [hF] at HA
      clear hF
      go_wp2_with fail
      go_ret
      exact ⟨by rw [HA.out]; rfl, HBY.out⟩
    · have hF : (if distF d.ax d.ay r.fx r.fy ≤ d.radius then (0 : Int) else 4) = 4 := if_neg a9
      rw [hF] at HA
      clear hF
      have a9' : d.radius < distF d.ax d.ay r.fx r.fy := by omega
      go_wp2_with fail
      go_ret
      exact ⟨by rw [HA.out]; rfl, HBY.out⟩

set_option maxHeartbeats 4000000 in
theorem rfits_any (w : World) (r : PReq) (d : PDrv) (hr : r.Ok) (hd : d.Ok) : Calls Tryz.prog 134 #[.agg #[.int .u8 r.i0, .int .u8 r.i1, .int .u8 r.i2, .int .u8 r.i3, .int .u8 r.i4, .int .u8 r.i5, .int .u8 r.i6, .int .u8 r.i7, .int .i16 r.fx, .int .i16 r.fy, .int .i16 r.tx, .int .i16 r.ty, .int .u8 r.seats, .int .u8 r.classes, .int .i64 r.base, .int .i64 r.ttl], .agg #[.int .u8 d.i0, .int .u8 d.i1, .int .u8 d.i2, .int .u8 d.i3, .int .u8 d.i4, .int .u8 d.i5, .int .u8 d.i6, .int .u8 d.i7, .int .i16 d.ax, .int .i16 d.ay, .int .u8 d.seats, .int .u8 d.cls, .int .i64 d.radius]] w fun e w' => e = .returned (.bool (fitsF r d)) ∧ Below w.heap.size w w' := by
  have HB := Lib.hid (((Below.refl w.heap.size w).alloc (Nat.le_refl _) (.cells #[.int .u8 r.i0, .int .u8 r.i1, .int .u8 r.i2, .int .u8 r.i3, .int .u8 r.i4, .int .u8 r.i5, .int .u8 r.i6, .int .u8 r.i7, .int .i16 r.fx, .int .i16 r.fy, .int .i16 r.tx, .int .i16 r.ty, .int .u8 r.seats, .int .u8 r.classes, .int .i64 r.base, .int .i64 r.ttl] 77)).alloc (by simp) (.cells #[.int .u8 d.i0, .int .u8 d.i1, .int .u8 d.i2, .int .u8 d.i3, .int .u8 d.i4, .int .u8 d.i5, .int .u8 d.i6, .int .u8 d.i7, .int .i16 d.ax, .int .i16 d.ay, .int .u8 d.seats, .int .u8 d.cls, .int .i64 d.radius] 81))
  have HA := Lib.hid (fun w => ragainst_any w r d hr hd)
  have HE := Lib.hid (fits_eq r d)
  go_enter Tryz.func134, Tryz.ntmps134
  go_wp2_with fail
  generalize (w.alloc (.cells #[.int .u8 r.i0, .int .u8 r.i1, .int .u8 r.i2, .int .u8 r.i3, .int .u8 r.i4, .int .u8 r.i5, .int .u8 r.i6, .int .u8 r.i7, .int .i16 r.fx, .int .i16 r.fy, .int .i16 r.tx, .int .i16 r.ty, .int .u8 r.seats, .int .u8 r.classes, .int .i64 r.base, .int .i64 r.ttl] 77)).alloc (.cells #[.int .u8 d.i0, .int .u8 d.i1, .int .u8 d.i2, .int .u8 d.i3, .int .u8 d.i4, .int .u8 d.i5, .int .u8 d.i6, .int .u8 d.i7, .int .i16 d.ax, .int .i16 d.ay, .int .u8 d.seats, .int .u8 d.cls, .int .i64 d.radius] 81) = W at *
  refine (HA.out W).mono ?_
  rintro e w1 ⟨rfl, hb1⟩
  have HB1 := Lib.hid (below_two HB.out hb1)
  clear hb1
  generalize againstF r d = A at *
  go_wp2_with fail
  go_ret
  exact ⟨by rw [← HE.out]; rfl, HB1.out⟩
end Go.Proofs.YtcaicgipibcicaaGreat

/- Chapter 13: all pairs that fit, in the reference. -/
namespace Go.Proofs.YtcaicgipibcicaaGreat
set_option maxRecDepth 100000
set_option linter.unusedVariables false
set_option linter.unusedSimpArgs false
open Go.RowKit Go.Sort

set_option maxHeartbeats 4000000 in
theorem rpairs_any (w : World) (ao bo : Option Addr) (n m c c' : Nat) (ws : List PWait) (ds : List PIdle) (hn : ws.length = n) (hm : ds.length = m) (hw : RdC w ao (cellsOf PWait.cells ws)) (hd : RdC w bo (cellsOf PIdle.cells ds))
    (how : ∀ x ∈ ws, x.Ok) (hod : ∀ x ∈ ds, x.Ok) (hn' : n ≤ 1048576) (hm' : m ≤ 1048576) :
    Calls Tryz.prog 100 #[.slice ao n c, .slice bo m c'] w fun e w' => ∃ v, e = .returned v ∧ Grown w PPair.cells 2 (pairsF ws ds) v w' := by
  have HN := Lib.hid hn
  have HM := Lib.hid hm
  have HW := Lib.hid hw
  have HD := Lib.hid hd
  have HOW := Lib.hid how
  have HOD := Lib.hid hod
  clear hn hm hw hd how hod
  go_enter Tryz.func100, Tryz.ntmps100
  go_wp2_with fail
  have hst := Lib.hid (show Grown w PPair.cells 2 (pairsAt ws ds 0 0) (.slice none 0 0) w from Grown.begin _ _ _)
  obtain ⟨i5, hi, hz0, hz1, hz2⟩ := infos info_pair
  go_loopw [5, 6] (fun a i wr => Hid (∃ p : Nat, i = .int .i64 p ∧ p ≤ n ∧ Grown w PPair.cells 2 (pairsAt ws ds p 0) a wr)) (fun _ i _ => n - (intOf i).toNat)
  case atStart => exact Lib.hid ⟨0, rfl, Nat.zero_le _, hst.out⟩
  case round =>
    obtain ⟨p, rfl, hp, hrel1⟩ := hrel.out
    clear hrel
    have HR := Lib.hid hrel1
    clear hrel1
    by_cases hlt : p < n
    · obtain ⟨x, hx⟩ : ∃ x, ws[p]? = some x := ⟨ws[p]'(by rw [HN.out]; exact hlt), List.getElem?_eq_getElem _⟩
      obtain ⟨b, o, rfl, _⟩ := HW.out.place (by rw [cellsOf_length _ 18 PWait.cells_length, HN.out]; omega)
      have HX := Lib.hid hx
      have HXO := Lib.hid (HOW.out x (List.mem_of_getElem? hx))
      clear hx
      go_wp2_with fail
      go_loopw [5, 7] (fun a i wr => Hid (∃ q : Nat, i = .int .i64 q ∧ q ≤ m ∧ Grown w PPair.cells 2 (pairsAt ws ds p q) a wr)) (fun _ i _ => m - (intOf i).toNat)
      case atStart => exact Lib.hid ⟨0, rfl, Nat.zero_le _, HR.out⟩
      case round =>
        obtain ⟨q, rfl, hq, hrel1⟩ := hrel.out
        clear hrel
        have HR1 := Lib.hid hrel1
        clear hrel1
        by_cases hqm : q < m
        · obtain ⟨y, hy⟩ : ∃ y, ds[q]? = some y := ⟨ds[q]'(by rw [HM.out]; exact hqm), List.getElem?_eq_getElem _⟩
          obtain ⟨b', o', rfl, _⟩ := HD.out.place (by rw [cellsOf_length _ 14 PIdle.cells_length, HM.out]; omega)
          have HY := Lib.hid hy
          have HYO := Lib.hid (HOD.out y (List.mem_of_getElem? hy))
          clear hy
          go_wp2_with fail
          have cQ : ∀ dd os, Calls Tryz.prog 134 #[.agg #[.int .u8 x.r.i0, .int .u8 x.r.i1, .int .u8 x.r.i2, .int .u8 x.r.i3, .int .u8 x.r.i4, .int .u8 x.r.i5, .int .u8 x.r.i6, .int .u8 x.r.i7, .int .i16 x.r.fx, .int .i16 x.r.fy, .int .i16 x.r.tx, .int .i16 x.r.ty, .int .u8 x.r.seats, .int .u8 x.r.classes, .int .i64 x.r.base, .int .i64 x.r.ttl], .agg #[.int .u8 y.d.i0, .int .u8 y.d.i1, .int .u8 y.d.i2, .int .u8 y.d.i3, .int .u8 y.d.i4, .int .u8 y.d.i5, .int .u8 y.d.i6, .int .u8 y.d.i7, .int .i16 y.d.ax, .int .i16 y.d.ay, .int .u8 y.d.seats, .int .u8 y.d.cls, .int .i64 y.d.radius]] (grow (redrawn wr dd) os) fun e w'' => e = .returned (.bool (fitsF x.r y.d)) ∧ ∃ p : Regrown, w'' = grow (redrawn wr p.d) p.os := fun dd os => Calls.regrown_of (rfits_any _ _ _ HXO.out.r HYO.out.d)
          obtain ⟨k0, k1, k2, k3, k4, k5, k6, k7, k8, k9, k10, k11, k12, k13, k14, k15, k16, k17⟩ := wait_re (HW.out.below HR1.out.below) HX.out
          obtain ⟨j0, j1, j2, j3, j4, j5, j6, j7, j8, j9, j10, j11, j12, j13⟩ := idle_re (HD.out.below HR1.out.below) HY.out
          have HF := Lib.hid (fitAt_eq HX.out HY.out)
          refine wp_region_quiet_below (by kernel_rfl) (by kernel_rfl) ?_
          repeat (go_big_quiet_step (exact cQ _ _))
          refine wpQuiet_nil ?_
          intro _ hw'
          obtain ⟨⟨dq, osq⟩, hw''⟩ := hw'
          subst hw''
          clear cQ k0 k1 k2 k3 k4 k5 k6 k7 k8 k9 k10 k11 k12 k13 k14 k15 k16 k17 j0 j1 j2 j3 j4 j5 j6 j7 j8 j9 j10 j11 j12 j13
          have HBX := Lib.hid (below_regrown wr dq osq)
          generalize grow (redrawn wr dq) osq = WX at *
          cases hfit : fitsF x.r y.d with
          | true =>
            rw [hfit] at HF
            have hlen := pairsAt_len ws ds p q
            have hsmall : (pairsAt ws ds p q).length + 1 ≤ 1099512676353 := by
              have h1 : p * ds.length ≤ 1048576 * 1048576 := Nat.mul_le_mul (by omega) (by rw [HM.out]; exact hm')
              omega
            clear hlen
            have HG := Lib.hid (HR1.out.next HBX.out)
            go_wp2_with (at_builtin; refine wpList_append_two rfl (.tmp 31) (.tmp 35) 29 29 rfl 69 i5 zeroPair 2 16 Tryz.underlying29 hi hz0 hz1 hz2 rfl u5 (pairsAt ws ds p q).length _ rfl (HG.out.own.keep (Keep.alloc (fun _ => False) _ _) (fun _ _ => id)) (.slice (some ⟨WX.heap.size, 0, none⟩) 1 1) 1 (PPair.cells ⟨p, q⟩) rfl (Src.lit Tryz.underlying29 2 _ rfl (PPair.cells_one _) _ _ rfl) (by omega) (by unfold maxLen; omega) (by omega) ?_)
            intro g cap w2 ho2 hc2
            have hrel2 := Lib.hid (show Grown w PPair.cells 2 (pairsAt ws ds p (q + 1)) (.slice (some ⟨g, 0, none⟩) ((pairsAt ws ds p q).length + 1) cap) w2 from by
              rw [pairsAt_yes HF.out]
              exact HG.out.app (Keep.alloc (fun _ => False) _ _) ho2 hc2)
            clear ho2 hc2
            generalize (pairsAt ws ds p q).length = N at *
            go_wp2_with fail
            go_roundw
            case rel => exact Lib.hid ⟨q + 1, by go_num, by omega, hrel2.out⟩
            case measure => simp [intOf]; omega
          | false =>
            rw [hfit] at HF
            have hrel2 := Lib.hid (show Grown w PPair.cells 2 (pairsAt ws ds p (q + 1)) u5 WX from by
              rw [pairsAt_no HF.out]
              exact HR1.out.next HBX.out)
            go_wp2_with fail
            go_roundw
            case rel => exact Lib.hid ⟨q + 1, by go_num, by omega, hrel2.out⟩
            case measure => simp [intOf]; omega
        · obtain rfl : m = q := by omega
          go_wp2_with fail
          go_roundw
          case rel => exact Lib.hid ⟨p + 1, by go_num, by omega, by rw [pairsAt_next, HM.out]; exact HR1.out⟩
          case measure => simp [intOf]; omega
    · obtain rfl : n = p := by omega
      go_wp2_with fail
      go_ret
      refine ⟨_, rfl, ?_⟩
      rw [← pairsAt_all, HN.out]
      exact HR.out
end Go.Proofs.YtcaicgipibcicaaGreat

/- Chapter 16: what a pair is worth, in the reference. -/
namespace Go.Proofs.YtcaicgipibcicaaGreat
set_option maxRecDepth 100000
set_option linter.unusedVariables false
set_option linter.unusedSimpArgs false
open Go.RowKit Go.Sort

set_option maxHeartbeats 8000000 in
theorem rweight_p (w : World) (c : PConf) (now : Int) (x : PWait) (hx : x.Ok) (hnow : i64ok now) : Calls Tryz.prog 99 #[.agg #[.int .i64 c.q, .int .i64 c.d, .int .i64 c.w, .int .i64 c.ttl, .int .i64 c.b], .int .i64 now, .agg #[.int .u8 x.r.i0, .int .u8 x.r.i1, .int .u8 x.r.i2, .int .u8 x.r.i3, .int .u8 x.r.i4, .int .u8 x.r.i5, .int .u8 x.r.i6, .int .u8 x.r.i7, .int .i16 x.r.fx, .int .i16 x.r.fy, .int .i16 x.r.tx, .int .i16 x.r.ty, .int .u8 x.r.seats, .int .u8 x.r.classes, .int .i64 x.r.base, .int .i64 x.r.ttl, .int .i64 x.since, .int .i64 x.number]] w fun e w' => e = .returned (.tuple #[.int .i64 (wtP c now x).1, .int .i64 (wtP c now x).2]) ∧ Below w.heap.size w w' := by
  have HXR := Lib.hid hx.r
  obtain ⟨xs1, xs2⟩ := hx.since
  obtain ⟨xt1, xt2⟩ := hx.r.ttl
  obtain ⟨nw1, nw2⟩ := hnow
  clear hx
  have HW := Lib.hid (CwRel.begin w c x)
  obtain ⟨A, E, hAE⟩ : ∃ A E, wtP c now x = (A, E) := ⟨_, _, rfl⟩
  rw [hAE]
  have HAE := Lib.hid hAE
  clear hAE
  go_enter Tryz.func99, Tryz.ntmps99
  go_upto_region 1 with fail
  generalize (w.alloc (.cells #[.int .i64 c.q, .int .i64 c.d, .int .i64 c.w, .int .i64 c.ttl, .int .i64 c.b] 23)).alloc (.cells #[.int .u8 x.r.i0, .int .u8 x.r.i1, .int .u8 x.r.i2, .int .u8 x.r.i3, .int .u8 x.r.i4, .int .u8 x.r.i5, .int .u8 x.r.i6, .int .u8 x.r.i7, .int .i16 x.r.fx, .int .i16 x.r.fy, .int .i16 x.r.tx, .int .i16 x.r.ty, .int .u8 x.r.seats, .int .u8 x.r.classes, .int .i64 x.r.base, .int .i64 x.r.ttl, .int .i64 x.since, .int .i64 x.number] 79) = W at *
  generalize w.heap.size + 1 = H1 at *
  have HHE := Lib.hid (show ∃ H0, w.heap.size = H0 from ⟨_, rfl⟩)
  obtain ⟨H0, hH0⟩ := HHE.out
  rw [hH0] at HW
  rw [hH0]
  have HH := Lib.hid hH0
  clear hH0 HHE
  go_wp2_with (first | ((with_reducible refine wpList_load_elem (o := ⟨some 10, _, _, _, _, _⟩) ?_ 23 (.tmp 3) ?_ H0 (0) ?_ c.cells #[.int .i64 c.q, .int .i64 c.d, .int .i64 c.w, .int .i64 c.ttl, .int .i64 c.b] ?_ _ (conf_whole HW.out.g) Tryz.underlying23 ?_ ?_ ?_); rfl; rfl; rfl; rfl; rfl; exact sz_conf) | ((with_reducible refine wpList_load_elem (o := ⟨some 12, _, _, _, _, _⟩) ?_ 77 (.tmp 11) ?_ H1 (0) ?_ x.r.cells #[.int .u8 x.r.i0, .int .u8 x.r.i1, .int .u8 x.r.i2, .int .u8 x.r.i3, .int .u8 x.r.i4, .int .u8 x.r.i5, .int .u8 x.r.i6, .int .u8 x.r.i7, .int .i16 x.r.fx, .int .i16 x.r.fy, .int .i16 x.r.tx, .int .i16 x.r.ty, .int .u8 x.r.seats, .int .u8 x.r.classes, .int .i64 x.r.base, .int .i64 x.r.ttl] ?_ _ (wait_head HW.out.h) Tryz.underlying77 ?_ ?_ ?_); rfl; rfl; rfl; rfl; rfl; exact sz_req))
  refine (rcheck_any W c x.r HXR.out).mono ?_
  rintro e w1 ⟨rfl, hb1⟩
  have HW1 := Lib.hid (HW.out.keep hb1)
  clear hb1 HW
  obtain ⟨g4, k14, k15, k16⟩ := HW1.out.cells
  by_cases h0 : checkE c x.r = 0
  · have HB := Lib.hid (check_bounds h0)
    obtain ⟨b1, b2, b3, b4, b5, b6, b7⟩ := HB.out
    have H0E := Lib.hid h0
    rw [h0]
    clear h0
    go_wp2_with fail
    refine (rtick_any w1 now).mono ?_
    rintro e w2 ⟨rfl, rfl⟩
    by_cases ht1 : 0 ≤ now ∧ now ≤ 1099511627776
    · obtain ⟨t1, t2⟩ := ht1
      rw [show tickF now = true from decide_eq_true ⟨t1, t2⟩]
      go_wp2_with fail
      refine (rtick_any w1 x.since).mono ?_
      rintro e w2 ⟨rfl, rfl⟩
      by_cases ht2 : 0 ≤ x.since ∧ x.since ≤ 1099511627776
      · obtain ⟨t3, t4⟩ := ht2
        rw [show tickF x.since = true from decide_eq_true ⟨t3, t4⟩]
        by_cases ht3 : now < x.since
        · have HE := Lib.hid (Prod.mk.inj (HAE.out.symm.trans (wtP_arg H0E.out (by omega))))
          go_wp2_with fail
          go_ret2
          exact ⟨by rw [HE.out.1, HE.out.2]; rfl, HW1.out.below⟩
        · have t5 : x.since ≤ now := by omega
          clear ht3
          by_cases ht4 : x.r.ttl < now - x.since
          · have HE := Lib.hid (Prod.mk.inj (HAE.out.symm.trans (wtP_gone H0E.out ⟨t1, t2, t3, t4, t5⟩ ht4)))
            go_wp2_with fail
            go_ret2
            exact ⟨by rw [HE.out.1, HE.out.2]; rfl, HW1.out.below⟩
          · have t6 : now - x.since ≤ x.r.ttl := by omega
            have HE := Lib.hid (Prod.mk.inj (HAE.out.symm.trans (wtP_good H0E.out ⟨t1, t2, t3, t4, t5⟩ ht4)))
            have hmb := mul_bd (a := now - x.since) (b := c.b + 1) (by omega) (by omega) (by omega) (by omega)
            obtain ⟨M, hM⟩ : ∃ M, (now - x.since) * (c.b + 1) = M := ⟨_, rfl⟩
            rw [hM] at hmb HE
            obtain ⟨m1, m2⟩ := hmb
            have hw : wrap64 ((now - x.since) * (c.b + 1)) = M := by rw [hM]; exact IntWalk.wrap64_in M ⟨by omega, by omega⟩
            clear ht4 hM
            go_wp2_with fail
            go_ret2
            exact ⟨by rw [HE.out.1, HE.out.2]; rfl, HW1.out.below⟩
      · have HE := Lib.hid (Prod.mk.inj (HAE.out.symm.trans (wtP_arg H0E.out (by omega))))
        rw [show tickF x.since = false from decide_eq_false ht2]
        clear ht2
        go_wp2_with fail
        go_ret2
        exact ⟨by rw [HE.out.1, HE.out.2]; rfl, HW1.out.below⟩
    · have HE := Lib.hid (Prod.mk.inj (HAE.out.symm.trans (wtP_arg H0E.out (by omega))))
      rw [show tickF now = false from decide_eq_false ht1]
      clear ht1
      go_wp2_with fail
      go_ret2
      exact ⟨by rw [HE.out.1, HE.out.2]; rfl, HW1.out.below⟩
  · have HE := Lib.hid (Prod.mk.inj (HAE.out.symm.trans (wtP_check h0)))
    have b1 : (checkE c x.r == 0) = false := by simp [h0]
    have b2 : (checkE c x.r != 0) = true := by simp [h0]
    clear h0
    generalize checkE c x.r = C at *
    go_wp2_with fail
    go_ret2
    exact ⟨by rw [HE.out.1, HE.out.2]; rfl, HW1.out.below⟩
end Go.Proofs.YtcaicgipibcicaaGreat

/- A region that draws its order: reads ahead, one operation that may come amid them, then a tail that waits for all of them. -/
namespace Go.Proofs.YtcaicgipibcicaaGreat
set_option maxRecDepth 100000

section
variable {P : Program} {ops : Array Oper} {md : Region.Mode} {S : World → Prop} {Q : Exit → Act → World → Prop}

/-- As long as L is not reached, only operations below n come up, and S holds behind each. -/
def wpAnyM (P : Program) (md : Region.Mode) (ops : Array Oper) (Q : Exit → Act → World → Prop) (S : World → Prop) (n : Nat) (L : Array Bool → Act → World → Prop) : Nat → Array Bool → Act → World → Prop
  | 0, listed, a, w => L listed a w
  | f + 1, listed, a, w => Region.ready md ops listed ≠ [] ∧ ∀ i ∈ Region.ready md ops listed, i < n ∧ wpOp P ops Q i (fun a' w' => S w' ∧ wpAnyM P md ops Q S n L f (listed.setIfInBounds i true) a' w') a w

theorem wpAny_of_headM {n g : Nat} {L : Array Bool → Act → World → Prop} (hL : ∀ listed a w, L listed a w → wpAny P md ops Q g listed a w) :
    ∀ (f : Nat) (listed : Array Bool) (a : Act) (w : World), wpAnyM P md ops Q S n L f listed a w → wpAny P md ops Q (f + g) listed a w
  | 0, listed, a, w, h => by rw [Nat.zero_add]; exact hL _ _ _ h
  | f + 1, listed, a, w, h => by
    rw [show f + 1 + g = (f + g) + 1 by omega]
    exact ⟨fun h0 => absurd h0 h.1, fun i hi => wpOp_mono (fun a' w' h' => wpAny_of_headM hL f _ a' w' h'.2) (h.2 i hi).2⟩

theorem wpAnyM_first {n i : Nat} {oi : Oper} {v : Value} {L : Array Bool → Act → World → Prop} (hi : ops[i]? = some oi) (hsel : ∀ (j : Nat) (o : Oper) cs b, ops[j]? = some o → o.op ≠ .select cs b)
    (hs : Region.sinkB md ops n = true) (hc : Region.chainB md ops n = true) (hn : n < ops.size) (hin : i < n)
    (hQ : ∀ c a w, Q (.panic c) (a.put oi.dst v) w → Q (.panic c) a w)
    (hdone : ∀ listed a w, L listed a w → ∀ j ∈ Region.ready md ops listed, n ≤ j) :
    ∀ (f : Nat) (listed : Array Bool) (a : Act) (w : World), HeadInv md ops n listed →
      (∀ j oj, ops[j]? = some oj → j ≠ i → listed.getD j true = false → (∀ e ∈ oj.after, Region.binds md e = true → e.on ≠ i) → oi.apart ops oj = true) →
      i ∈ Region.ready md ops listed → YieldsIf P ops S oi v a → S w →
      wpAnyM P md ops Q S n L f (listed.setIfInBounds i true) (a.put oi.dst v) w → wpAnyM P md ops Q S n L (f + 1) listed a w := by
  intro f
  induction f with
  | zero =>
    intro listed a w inv _ hr hy hS H
    have hun := (mem_ready.1 hr).1
    have below : ∀ j ∈ Region.ready md ops listed, j < n := fun j hj =>
      Nat.lt_of_not_le fun h => tail_waits hs hc hn inv _ i rfl hin hun j h hj
    refine ⟨fun h => (by rw [h] at hr; cases hr), fun j hj => ⟨below j hj, ?_⟩⟩
    by_cases hji : j = i
    · subst hji; exact hy.wpOp hi hS ⟨hS, H⟩
    · have h1 := hdone _ _ _ H j (ready_mono hj hji)
      have h2 := below j hj
      omega
  | succ f ih =>
    intro listed a w inv hfree hr hy hS H
    have hun := (mem_ready.1 hr).1
    have below : ∀ j ∈ Region.ready md ops listed, j < n := fun j hj =>
      Nat.lt_of_not_le fun h => tail_waits hs hc hn inv _ i rfl hin hun j h hj
    refine ⟨fun h => (by rw [h] at hr; cases hr), fun j hj => ⟨below j hj, ?_⟩⟩
    by_cases hji : j = i
    · subst hji; exact hy.wpOp hi hS ⟨hS, H⟩
    · have hstep := (H.2 j (ready_mono hj hji)).2
      obtain ⟨hjun, oj, hoj, hall⟩ := mem_ready.1 hj
      have hnot : ∀ e ∈ oj.after, Region.binds md e = true → e.on ≠ i := by
        intro e he hb heq
        have hl := hall e he hb
        rw [heq, getD_both hun] at hl
        cases hl
      have hboth := wpOp_putIf hoj (hfree j oj hoj hji hjun hnot) (fun cs b => hsel i oi cs b hi) (fun cs b => hsel j oj cs b hoj) hQ hy hstep
      refine wpOp_mono (fun a' w' h3 => ⟨h3.2.1, ih (listed.setIfInBounds j true) a' w' (inv.set hj (below j hj)) ?_ (ready_mono hr (Ne.symm hji)) h3.1 h3.2.1 ?_⟩) hboth
      · intro k ok hk hki hku hno
        have hkk : listed.getD k true = false := by
          by_cases hjk : j = k
          · rw [← hjk]; exact hjun
          · rwa [getD_set_ne true hjk] at hku
        exact hfree k ok hk hki hkk hno
      · have h4 := h3.2.2
        rwa [Array.setIfInBounds_comm _ _ (Ne.symm hji)] at h4

/-- The reads, in their own order: each yields its value in every world of S. -/
def wpReads (P : Program) (ops : Array Oper) (S : World → Prop) (K : Act → Prop) : List Oper → Act → Prop
  | [], a => K a
  | o :: rest, a => ∃ v, YieldsIf P ops S o v a ∧ wpReads P ops S K rest (a.put o.dst v)
theorem wpReads_nil {K : Act → Prop} {a : Act} (h : K a) : wpReads P ops S K [] a := h
theorem wpReads_cons {K : Act → Prop} {a : Act} {o : Oper} {rest : List Oper} {v : Value} (hy : YieldsIf P ops S o v a) (h : wpReads P ops S K rest (a.put o.dst v)) : wpReads P ops S K (o :: rest) a := ⟨v, hy, h⟩
theorem wpOp_here {i : Nat} {o : Oper} {a : Act} {w : World} {K : Act → World → Prop} (h0 : ops[i]? = some o)
    (h : ∀ K' : Act → World → Prop, (∀ a w, K a w → K' a w) → if Region.wanted o (yielded ops a.tmps) = true then o.wp P a w K' Q else K' (a.put o.dst undef) w) : wpOp P ops Q i K a w := by
  have h1 := h K (fun _ _ h => h)
  unfold wpOp
  simp only [h0]
  split
  · rename_i hw
    rw [if_pos hw] at h1
    exact .inl h1
  · rename_i hw
    rw [if_neg hw] at h1
    exact h1

theorem panic_put (hQ : ∀ c (a : Act) (t : Nat) (v : Value) w, Q (.panic c) (a.put (some t) v) w → Q (.panic c) a w) (c : List PanicEntry) (a : Act) (d : Option Nat) (v : Value) (w : World) (h : Q (.panic c) (a.put d v) w) : Q (.panic c) a w := by
  cases d with
  | none => exact h
  | some t => exact hQ c a t v w h

theorem wpAnyM_lex {n g : Nat} {Lq : Act → World → Prop} (hsel : Region.noSelect ops = true) (hs : Region.sinkB md ops (n + 1) = true) (hc : Region.chainB md ops (n + 1) = true) (hn : n + 1 < ops.size)
    (hQ : ∀ c (a : Act) (t : Nat) (v : Value) w, Q (.panic c) (a.put (some t) v) w → Q (.panic c) a w) :
    ∀ (l : List Oper) (k : Nat) (listed : Array Bool) (a : Act) (w : World), (∀ j, j < l.length → l[j]? = ops[k + j]?) → k + l.length = n → HeadInv md ops (n + 1) listed →
    Region.lexHead md ops (g + 1) l.length k listed = true → S w → wpReads P ops S (fun a' => wpOp P ops Q n (fun a'' w'' => S w'' ∧ Lq a'' w'') a' w) l a →
    wpAnyM P md ops Q S (n + 1) (fun listed' a' w' => Region.seqB md ops g (n + 1) listed' = true ∧ Lq a' w') (l.length + 1) listed a w
  | [], k, listed, a, w, _, hk, _, hB, _, h => by
    have hkn : k = n := by simpa using hk
    subst hkn
    simp only [List.length_nil, Region.lexHead, Region.seqB, Bool.and_eq_true, decide_eq_true_eq] at hB
    refine ⟨by rw [hB.1]; exact List.cons_ne_nil _ _, fun i hi => ?_⟩
    rw [hB.1] at hi
    have hik : i = k := by simpa using hi
    subst hik
    have hw : wpOp P ops Q i (fun a'' w'' => S w'' ∧ Lq a'' w'') a w := h
    exact ⟨by omega, wpOp_mono (fun a' w' h' => ⟨h'.1, hB.2, h'.2⟩) hw⟩
  | o :: l, k, listed, a, w, hl, hk, inv, hB, hS, h => by
    have h0 : ops[k]? = some o := by simpa using (hl 0 (by simp)).symm
    simp only [List.length_cons, Region.lexHead, Bool.and_eq_true] at hB
    have hkn : k < n + 1 := by simp only [List.length_cons] at hk; omega
    have hr : k ∈ Region.ready md ops listed := by simpa using hB.1.1
    obtain ⟨v, hy, hK⟩ := h
    refine wpAnyM_first h0 (Region.noSelect_spec hsel) hs hc hn hkn (fun c a' w' hp => panic_put hQ c a' _ _ w' hp) (fun listed' a' w' hL => seqB_ready hL.1) (l.length + 1) listed a w inv (Region.free_spec h0 hB.1.2) hr hy hS ?_
    refine wpAnyM_lex hsel hs hc hn hQ l (k + 1) _ _ w (fun j hj => ?_) (by simp only [List.length_cons] at hk; omega) (inv.set hr hkn) hB.2 hS hK
    have h5 := hl (j + 1) (by simp only [List.length_cons]; omega)
    rw [show k + 1 + j = k + (j + 1) by omega, ← h5]
    rfl

/-- May a region be walked so? -/
def readsB (ops : Array Oper) (n : Nat) : Bool :=
  Region.noSelect ops && decide (n + 1 < ops.size) && Region.sinkB .any ops (n + 1) && Region.chainB .any ops (n + 1) && Region.lexHead .any ops (ops.size - (n + 1) + 1) n 0 (Array.replicate ops.size false)

/-- Reads of what stays as it is while they may come up (S); operation n, which keeps S; behind it the tail, one after the other. -/
theorem wp_region_reads {id : Nat} {a : Act} {w : World} {l : List Oper} (n : Nat) (S : World → Prop) (hm : P.follows .mixedOrders = true) (hB : readsB l.toArray n = true)
    (hQ : ∀ c (a : Act) (t : Nat) (v : Value) w, Q (.panic c) (a.put (some t) v) w → Q (.panic c) a w) (hS : S w.drew)
    (h : wpReads P l.toArray S (fun a' => wpOp P l.toArray Q n (fun a'' w'' => S w'' ∧ wpList P l.toArray Q (l.drop (n + 1)) a'' w'') a' w.drew) (l.take n) a) : (Code.region id l.toArray true).wp P Q a w := by
  simp only [readsB, Bool.and_eq_true, decide_eq_true_eq] at hB
  obtain ⟨⟨⟨⟨hsel, hn⟩, hs⟩, hc⟩, hlex⟩ := hB
  have hn' : n + 1 < l.length := by simpa using hn
  have htl : (l.take n).length = n := by simp; omega
  have hdl : (l.drop (n + 1)).length = l.toArray.size - (n + 1) := by simp
  have inv0 : HeadInv .any l.toArray (n + 1) (Array.replicate l.toArray.size false) :=
    ⟨by simp, fun j oj _ hl => (by rw [getD_replicate_false] at hl; cases hl), fun t _ ht => getD_in (by simpa using ht) (getD_replicate_false _ _)⟩
  have H := wpAnyM_lex (md := .any) (g := l.toArray.size - (n + 1)) hsel hs hc hn hQ (l.take n) 0 _ a w.drew (fun j hj => by
    rw [htl] at hj
    simp [hj]) (by simpa using htl) inv0 (by rw [htl]; exact hlex) hS h
  refine wp_region_any hm ?_
  have hA := wpAny_of_headM (g := l.toArray.size - (n + 1)) (fun listed a' w' hL => by
    have hT := wpAny_of_seq (md := .any) (l.drop (n + 1)) (n + 1) listed a' w' (fun j => by simp [List.getElem?_drop]) (by rw [hdl]; exact hL.1) hL.2
    rwa [hdl] at hT) _ _ _ _ H
  rw [htl, show n + 1 + (l.toArray.size - (n + 1)) = l.toArray.size by omega] at hA
  exact hA
end
end Go.Proofs.YtcaicgipibcicaaGreat
