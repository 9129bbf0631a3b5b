/- The Book looks at its lists of frames. -/
import Derived.Test.YtmblghdiejneoaaGreatQBookGrow
import Derived.Lib.QuietBelow
import Derived.BigQuiet
namespace Go.Proofs.YtmblghdiejneoaaGreat
set_option maxRecDepth 100000
open Go.RowKit Go.Sort

/-- One mark of a list that is seen. -/
theorem Sees.mark4 {w : World} {g cap n : Nat} {c0 c1 c2 c3 : Value} (h : Sees w (.slice (some ⟨g, 0, none⟩) n cap) n (marks [c0, c1, c2, c3] n)) {k : Nat} (hk : k < n) :
    w.cell? ⟨g, k * 4, none⟩ = some c0 ∧ w.cell? ⟨g, k * 4 + 1, none⟩ = some c1 ∧ w.cell? ⟨g, k * 4 + 2, none⟩ = some c2 ∧ w.cell? ⟨g, k * 4 + 3, none⟩ = some c3 := by
  rcases h with ⟨h, _⟩ | ⟨g', cap', he, _, hc⟩
  · cases h
  · cases he
    exact ⟨hc _ _ (marks_get [c0, c1, c2, c3] n k 0 _ hk rfl), hc _ _ (marks_get [c0, c1, c2, c3] n k 1 _ hk rfl), hc _ _ (marks_get [c0, c1, c2, c3] n k 2 _ hk rfl), hc _ _ (marks_get [c0, c1, c2, c3] n k 3 _ hk rfl)⟩

set_option maxHeartbeats 4000000 in
theorem lookFrame_any (w : World) (K n m : Nat) (B F : Value) (f : Nat → Held) (L : Nat → Value) (hb : BookAt w K n B F) (hF : Own w 3 F m (hcells f L m)) (hk : Kept K F f m)
    (hl : ∀ i, i < m → Sees w (f i).v (f i).k (marks (fmark (f i).n) (f i).k) ∧ Sees w (L i) ((f i).k + 70) (marks (fmark (f i).n) ((f i).k + 70))) :
    Calls Tryz.prog 99 #[.pointer (some ⟨K, 0, none⟩)] w fun e w' => e = .returned (.bool true) ∧ Below w.heap.size w w' := by
  have HB := Lib.hid hb
  have HF := Lib.hid hF
  have HK := Lib.hid hk
  have HL := Lib.hid hl
  have hms := hk.small
  clear hb hF hk hl
  obtain ⟨fa, fc, rfl, hfs⟩ := own_shape HF.out
  have HFS := Lib.hid hfs
  clear hfs
  go_enter Tryz.func99, Tryz.ntmps99
  go_wp2_with fail
  go_loopw [3] (fun i wr => Hid (∃ j : Nat, i = .int .i64 j ∧ j ≤ m ∧ Below w.heap.size w wr)) (fun i _ => m - (intOf i).toNat)
  case atStart => exact Lib.hid ⟨0, rfl, Nat.zero_le _, Below.refl _ _⟩
  case round =>
    obtain ⟨j, rfl, hj, hbw⟩ := hrel.out
    have HW := Lib.hid hbw
    have HKW := Lib.hid (Keep.of_below hbw (Nat.le_refl _) (fun _ => False))
    clear hbw hrel
    obtain ⟨c0, c2, c20, cf, hKl⟩ := book_cells (show BookAt wr K n B (.slice fa m fc) from HKW.out.old HB.out id)
    by_cases hlt : j < m
    · obtain ⟨g0, rfl⟩ := HFS.out (by omega)
      obtain ⟨e0, e1, e2⟩ := hcells_get f L m j hlt
      have hof := HF.out.keep HKW.out (fun _ _ => id)
      have d0 := hof.cellAt e0
      have d1 := hof.cellAt e1
      have d2 := hof.cellAt e2
      clear e0 e1 e2 hof
      obtain ⟨hs1, hs2⟩ := HL.out j hlt
      have hkn := HK.out.num j hlt
      have hkl := HK.out.len j hlt
      obtain ⟨la, lc, hv, hls⟩ := hs1.shape
      obtain ⟨xa, xc, hv2, hls2⟩ := hs2.shape
      obtain ⟨xg, rfl, _⟩ := hls2 (by omega)
      rw [hv] at d0 hs1
      rw [hv2] at d1 hs2
      have HS1 := Lib.hid hs1
      have HS2 := Lib.hid hs2
      have HLS := Lib.hid hls
      clear hs1 hs2 hls hls2 hv hv2
      generalize (f j).k = k at *
      generalize (f j).n = nn at *
      generalize L j = lj at *
      go_wp2_with fail
      have hHw := HW.out.size
      have hH := heap_alloc_new wr (.cells #[Value.slice la k lc, Value.slice (some ⟨xg, 0, none⟩) (k + 70) xc, Value.int IntKind.i64 (nn : Int)] 105)
      have HA := Lib.hid (Keep.alloc (fun _ => False) wr (.cells #[Value.slice la k lc, Value.slice (some ⟨xg, 0, none⟩) (k + 70) xc, Value.int IntKind.i64 (nn : Int)] 105))
      have HBA := Lib.hid (HW.out.alloc hHw (.cells #[Value.slice la k lc, Value.slice (some ⟨xg, 0, none⟩) (k + 70) xc, Value.int IntKind.i64 (nn : Int)] 105))
      generalize wr.alloc (.cells #[Value.slice la k lc, Value.slice (some ⟨xg, 0, none⟩) (k + 70) xc, Value.int IntKind.i64 (nn : Int)] 105) = W1 at *
      have HT1 := Lib.hid (HS1.out.keep (HKW.out.trans HA.out (Z := fun _ => False) (fun _ _ h => h) (fun _ _ h => h)) (fun _ _ => id))
      have HT2 := Lib.hid (HS2.out.keep (HKW.out.trans HA.out (Z := fun _ => False) (fun _ _ h => h) (fun _ _ h => h)) (fun _ _ => id))
      have q0 : W1.cell? ⟨wr.heap.size, 0, none⟩ = some (Value.slice la k lc) := by simp [World.cell?, hH]
      have q1 : W1.cell? ⟨wr.heap.size, 1, none⟩ = some (Value.slice (some ⟨xg, 0, none⟩) (k + 70) xc) := by simp [World.cell?, hH]
      have q2 : W1.cell? ⟨wr.heap.size, 2, none⟩ = some (Value.int IntKind.i64 (nn : Int)) := by simp [World.cell?, hH]
      generalize wr.heap.size = H at *
      have Q0 := Lib.hid q0
      have Q1 := Lib.hid q1
      have Q2 := Lib.hid q2
      clear HKW HA c0 c2 c20 cf hKl d0 d1 d2 hH HS1 HS2 q0 q1 q2
      go_loopw [5] (fun i wx => Hid (∃ q : Nat, i = .int .i64 q ∧ q ≤ k + 70 ∧ Below W1.heap.size W1 wx)) (fun i _ => k + 70 - (intOf i).toNat)
      case atStart => exact Lib.hid ⟨0, rfl, Nat.zero_le _, Below.refl _ _⟩
      case round =>
        obtain ⟨q, rfl, hq, hbq⟩ := hrel.out
        have hkq := Keep.of_below hbq (Nat.le_refl _) (fun _ => False)
        have HBQ := Lib.hid hbq
        have h0 := hkq.cell Q0.out id
        have h1 := hkq.cell Q1.out id
        have h2 := hkq.cell Q2.out id
        clear hrel hbq
        by_cases hltq : q < k + 70
        · obtain ⟨b0, b1, b2, b3⟩ := (HT2.out.keep hkq (fun _ _ => id)).mark4 hltq
          by_cases hqk : q < k
          · obtain ⟨lg, rfl, _, _⟩ := HLS.out (by omega)
            obtain ⟨x0, x1, x2, x3⟩ := (HT1.out.keep hkq (fun _ _ => id)).mark4 hqk
            clear hkq
            have hd : decide ((q : Int) < (k : Int)) = true := by simp; omega
            have k0 := cell_regrown h0
            have k1 := cell_regrown h1
            have k2 := cell_regrown h2
            have k4 := cell_regrown b0
            have k5 := cell_regrown b1
            have k6 := cell_regrown b2
            have k7 := cell_regrown b3
            have k8 := cell_regrown x0
            have k9 := cell_regrown x1
            have k10 := cell_regrown x2
            have k11 := cell_regrown x3
            have cQ : ∀ d os, Calls Tryz.prog 158 #[.agg #[.int .u8 99, .int .i64 nn, .int .i64 0, .string ⟨#[]⟩], .int .i64 nn] (grow (redrawn wr d) os) fun e w'' => e = .returned (.bool true) ∧ ∃ p : Regrown, w'' = grow (redrawn wr p.d) p.os := fun d os => Calls.regrown_of (isFrame_any nn _)
            go_wp2_with fail
            refine wp_region_quiet_below (by kernel_rfl) (by kernel_rfl) ?_
            repeat (go_big_quiet_step (exact cQ _ _))
            refine wpQuiet_nil ?_
            intro _ hw'
            obtain ⟨⟨dq, osq⟩, hw''⟩ := hw'
            subst hw''
            have HBX := Lib.hid (Below.next HBQ.out (below_regrown wr dq osq))
            clear k0 k1 k2 k4 k5 k6 k7 k8 k9 k10 k11 cQ
            generalize grow (redrawn wr dq) osq = WX at *
            go_wp2_with fail
            go_roundw
            case rel => exact Lib.hid ⟨q + 1, by go_num, by omega, HBX.out⟩
            case measure => simp [intOf]; omega
          · clear hkq
            have hd : decide ((q : Int) < (k : Int)) = false := by simp; omega
            have k0 := cell_regrown h0
            have k1 := cell_regrown h1
            have k2 := cell_regrown h2
            have k4 := cell_regrown b0
            have k5 := cell_regrown b1
            have k6 := cell_regrown b2
            have k7 := cell_regrown b3
            have cQ : ∀ d os, Calls Tryz.prog 158 #[.agg #[.int .u8 99, .int .i64 nn, .int .i64 0, .string ⟨#[]⟩], .int .i64 nn] (grow (redrawn wr d) os) fun e w'' => e = .returned (.bool true) ∧ ∃ p : Regrown, w'' = grow (redrawn wr p.d) p.os := fun d os => Calls.regrown_of (isFrame_any nn _)
            go_wp2_with fail
            refine wp_region_quiet_below (by kernel_rfl) (by kernel_rfl) ?_
            repeat (go_big_quiet_step (exact cQ _ _))
            refine wpQuiet_nil ?_
            intro _ hw'
            obtain ⟨⟨dq, osq⟩, hw''⟩ := hw'
            subst hw''
            have HBX := Lib.hid (Below.next HBQ.out (below_regrown wr dq osq))
            clear k0 k1 k2 k4 k5 k6 k7 cQ
            generalize grow (redrawn wr dq) osq = WX at *
            go_wp2_with fail
            go_roundw
            case rel => exact Lib.hid ⟨q + 1, by go_num, by omega, HBX.out⟩
            case measure => simp [intOf]; omega
        · obtain rfl : q = k + 70 := by omega
          clear hkq
          go_wp2_with fail
          go_roundw
          case rel => exact Lib.hid ⟨j + 1, by go_num, by omega, HBA.out.trans (HBQ.out.mono (by have := HBA.out.size; omega))⟩
          case measure => simp [intOf]; omega
    · obtain rfl : j = m := by omega
      go_wp2_with fail
      go_ret
      exact ⟨rfl, HW.out⟩
end Go.Proofs.YtmblghdiejneoaaGreat
