/- The Book makes its lists of bytes longer. (Printed by genbytes.py.) -/
import Derived.Test.YtmblghdiejneoaaGreatQBookFillB
import Derived.Test.YtmblghdiejneoaaGreatQBookGrow
namespace Go.Proofs.YtmblghdiejneoaaGreat
set_option maxRecDepth 100000
open Go.RowKit

/-- One value that a literal has laid. -/
theorem Src.one {P : Program} {w : World} {tx e : TypeId} (hk : P.underlying tx = some (.slice e)) (a : Value) (ha : a.oneCell' = true) (cs : Array Value) (t : TypeId) (h : cs = #[a]) : Src P 1 tx (.slice (some ⟨w.heap.size, 0, none⟩) 1 1) 1 [a] (w.alloc (.cells cs t)) := by
  subst h
  refine Src.ofSlice (P := P) _ hk _ _ 1 [a] rfl (fun j u hu => ?_) (fun u hu => by simp at hu; subst hu; exact ha)
  have hadd : (⟨w.heap.size, 0, none⟩ : Addr).add j = ⟨w.heap.size, j, none⟩ := by unfold Addr.add; split <;> simp_all
  rw [hadd, World.cell?_alloc_mark]
  simpa using hu

set_option maxHeartbeats 4000000 in
theorem growByte_any (w : World) (K n m : Nat) (B F : Value) (f : Nat → Held) (hb : BookAt w K n F B) (hF : Own w 3 F m (hcells f L0 m)) (hk : Kept K F f m)
    (hl : ∀ i, i < m → Own w 1 (f i).v (f i).k (marks (bmark (f i).n) (f i).k)) :
    Calls Tryz.prog 56 #[.pointer (some ⟨K, 0, none⟩)] w fun e w' => e = .returned (.tuple #[]) ∧ ∃ L, Own w' 3 F m (hcells f L m) ∧ Longer 1 bmark w w' f L m m ∧ Keep (fun k => F.ownBlock = some k ∨ ∃ i, i < m ∧ (f i).v.ownBlock = some k) w w' := by
  obtain ⟨i5, hi, hz0, hz1, hz2⟩ := info_parts info_u8
  have HB := Lib.hid hb
  have HF := Lib.hid hF
  have HK := Lib.hid hk
  have HL := Lib.hid hl
  have hms := hk.small
  clear hb hF hk hl
  obtain ⟨fa, fc, rfl, hfs⟩ := own_shape HF.out
  have HFS := Lib.hid hfs
  clear hfs
  have KP := Lib.hid (show ∀ wr, Keep (fun k => (Value.slice fa m fc).ownBlock = some k ∨ ∃ i, i < m ∧ (f i).v.ownBlock = some k) w wr → BookAt wr K n (.slice fa m fc) B from fun wr h =>
    h.old HB.out (fun hx => hx.elim (fun h => HK.out.book K h rfl) (fun ⟨i, hi, hg⟩ => (HK.out.off i hi K hg).1 rfl)))
  go_enter Tryz.func56, Tryz.ntmps56
  go_wp2_with fail
  go_loopw [2] (fun i wr => Hid (∃ j : Nat, i = .int .i64 j ∧ j ≤ m ∧ ∃ L, Own wr 3 (.slice fa m fc) m (hcells f L m) ∧ Longer 1 bmark w wr f L j m ∧ Keep (fun k => (Value.slice fa m fc).ownBlock = some k ∨ ∃ i, i < m ∧ (f i).v.ownBlock = some k) w wr)) (fun i _ => m - (intOf i).toNat)
  case atStart => exact Lib.hid ⟨0, rfl, Nat.zero_le _, L0, HF.out, ⟨fun _ _ => rfl, fun _ h => absurd h (Nat.not_lt_zero _), fun i hi => (HL.out i hi).sees, fun i _ hi => HL.out i hi⟩, Keep.refl _ _⟩
  case round =>
    obtain ⟨j, rfl, hj, L, hof, hlo, hkw⟩ := hrel.out
    have HOF := Lib.hid hof
    have HLO := Lib.hid hlo
    have HW := Lib.hid hkw
    clear hof hlo hkw hrel
    obtain ⟨c0, c2, c20, cf, hKl⟩ := book_cells (KP.out _ HW.out)
    by_cases hlt : j < m
    · obtain ⟨g0, rfl⟩ := HFS.out (by omega)
      obtain ⟨e0, e1, e2⟩ := hcells_get f L m j hlt
      rw [HLO.out.nil j (Nat.le_refl _)] at e1
      have d0 := HOF.out.cellAt e0
      have d1 := HOF.out.cellAt e1
      have d2 := HOF.out.cellAt e2
      clear e0 e1 e2
      obtain ⟨la, lc, hv, hls⟩ := own_shape (HLO.out.rest j (Nat.le_refl _) hlt)
      have HV := Lib.hid hv
      rw [hv] at d0
      clear hls hv
      have hgl : ∀ g, (f j).v.ownBlock = some g → g < w.heap.size := (HL.out j hlt).lt
      have hg0 : g0 < w.heap.size := HF.out.lt g0 rfl
      have hkn := HK.out.num j hlt
      have hkl := HK.out.len j hlt
      go_wp2_with fail
      have hHw := HW.out.size
      have HH := Lib.hid (heap_alloc_new wr (.cells #[Value.slice la (f j).k lc, Value.slice none 0 0, Value.int IntKind.i64 ((f j).n : Int)] 107))
      have HA := Lib.hid (Keep.alloc (fun _ => False) wr (.cells #[Value.slice la (f j).k lc, Value.slice none 0 0, Value.int IntKind.i64 ((f j).n : Int)] 107))
      generalize wr.alloc (.cells #[Value.slice la (f j).k lc, Value.slice none 0 0, Value.int IntKind.i64 ((f j).n : Int)] 107) = W1 at *
      have HOF1 := Lib.hid (HOF.out.keep HA.out (fun _ _ => id))
      have HW1 := Lib.hid (HW.out.trans HA.out (fun _ _ h => h) (fun _ _ h => h.elim))
      have HLN := Lib.hid HLO.out.nil
      have HLL := Lib.hid (show ∀ i, i < j → Own W1 1 (L i) ((f i).k + 70) (marks (bmark (f i).n) ((f i).k + 70)) ∧ ((L i).ownBlock = (f i).v.ownBlock ∨ ∃ g, (L i).ownBlock = some g ∧ w.heap.size ≤ g) from fun i hi => ⟨(HLO.out.long i hi).1.keep HA.out (fun _ _ => id), (HLO.out.long i hi).2⟩)
      have HLS := Lib.hid (show ∀ i, i < m → Sees W1 (f i).v (f i).k (marks (bmark (f i).n) (f i).k) from fun i hi => (HLO.out.sees i hi).keep HA.out (fun _ _ => id))
      have HLR := Lib.hid (show ∀ i, j ≤ i → i < m → Own W1 1 (f i).v (f i).k (marks (bmark (f i).n) (f i).k) from fun i hi him => (HLO.out.rest i hi him).keep HA.out (fun _ _ => id))
      have hW1s := HA.out.size
      generalize wr.heap.size = H at *
      clear HOF HW HLO HA c0 c2 c20 cf hKl d0 d1 d2
      go_loopw [4, 5] (fun l i wx => Hid (∃ q : Nat, i = .int .i64 q ∧ q ≤ 70 ∧ Own wx 1 l ((f j).k + q) (marks (bmark (f j).n) ((f j).k + q)) ∧ Sees wx (f j).v (f j).k (marks (bmark (f j).n) (f j).k) ∧ (l.ownBlock = (f j).v.ownBlock ∨ ∃ g, l.ownBlock = some g ∧ W1.heap.size ≤ g) ∧ Keep (fun k => (f j).v.ownBlock = some k) W1 wx)) (fun _ i _ => 70 - (intOf i).toNat)
      case atStart => exact Lib.hid ⟨0, rfl, Nat.zero_le _, by rw [← HV.out]; exact HLR.out j (Nat.le_refl _) hlt, HLS.out j hlt, .inl (by rw [HV.out]), Keep.refl _ _⟩
      case round =>
        obtain ⟨q, rfl, hq, hol, hse, hob, hkq⟩ := hrel.out
        have hbH := hkq.old HH.out (fun h => by have := hgl _ h; omega)
        have h0 : wr.cell? ⟨H, 0, none⟩ = some (.slice la (f j).k lc) := by simp [World.cell?, hbH]
        have h2 : wr.cell? ⟨H, 2, none⟩ = some (.int .i64 ((f j).n : Int)) := by simp [World.cell?, hbH]
        obtain ⟨xa, xc, rfl, _⟩ := own_shape hol
        have HOL := Lib.hid hol
        have HSE := Lib.hid hse
        have HOB := Lib.hid hob
        have HKQ := Lib.hid hkq
        clear hrel hkq hol hse hob hbH
        by_cases hltq : q < 70
        · go_wp2_with fail
          refine (markByte_bel _ _ hkn).mono ?_
          rintro e w3 ⟨rfl, hb3⟩
          have HK3 := Lib.hid (Keep.of_below hb3 (Nat.le_refl _) (fun _ => False))
          clear hb3
          go_wp2_with (at_builtin; refine wpList_append_two rfl (.tmp 28) (.tmp 32) 22 22 rfl 5 i5 (.int .u8 0) 1 1 Tryz.underlying22 hi hz0 hz1 hz2 rfl (.slice xa ((f j).k + q) xc) ((f j).k + q) (marks (bmark (f j).n) ((f j).k + q)) rfl ((HOL.out.keep HK3.out (fun _ _ => id)).keep (Keep.alloc (fun _ => False) _ _) (fun _ _ => id)) (.slice (some ⟨w3.heap.size, 0, none⟩) 1 1) 1 (bmark (f j).n) rfl (Src.one Tryz.underlying22 _ (by rfl) _ _ rfl) (by omega) (by unfold maxLen; omega) (by omega) ?_)
          intro g1 q1 w4 ho4 hc4
          have hx3 := HK3.out.trans (Keep.alloc (fun _ => False) w3 (.cells #[.int .u8 ((bm (f j).n : Nat) : Int)] 5)) (Z := fun _ => False) (fun _ _ h => h) (fun _ _ h => h)
          obtain ⟨s1, s2, s3⟩ := grow_step (HSE.out.keep hx3 (fun _ _ => id)) (by omega) HOB.out (fun g hg => by have := hgl g hg; omega) (HKQ.out.trans hx3 (fun _ _ h => h) (fun _ _ h => h.elim)) ho4 (by simpa using hc4)
          have HO4 := Lib.hid (show Own w4 1 (.slice (some ⟨g1, 0, none⟩) ((f j).k + q + 1) q1) ((f j).k + (q + 1)) (marks (bmark (f j).n) ((f j).k + (q + 1))) from ho4)
          have S1 := Lib.hid s1
          have S2 := Lib.hid s2
          have S3 := Lib.hid s3
          clear hx3 s1 s2 s3 ho4 hc4
          go_wp2_with fail
          go_roundw
          case rel => exact Lib.hid ⟨q + 1, by go_num, by omega, HO4.out, S1.out, S2.out, S3.out⟩
          case measure => simp [intOf]; omega
        · obtain rfl : q = 70 := by omega
          have hofr := HOF1.out.keep HKQ.out (fun g hg h => (HK.out.off j hlt g h).2 hg)
          have hwr := HW1.out.trans HKQ.out (Z := fun k => (Value.slice (some ⟨g0, 0, none⟩) m fc).ownBlock = some k ∨ ∃ i, i < m ∧ (f i).v.ownBlock = some k) (fun _ _ h => h) (fun k _ h => .inr ⟨j, hlt, h⟩)
          obtain ⟨c0, c2, c20, cf, hKl⟩ := book_cells (KP.out _ hwr)
          obtain ⟨e0, e1, e2⟩ := hcells_get f L m j hlt
          have d1 := hofr.cellAt e1
          have f1 := hofr.freeAt (j := j * 3 + 1) (by omega)
          have hos := hofr.set (j * 3 + 1) (.slice xa ((f j).k + 70) xc) (by omega)
          rw [hcells_set f L m j hlt] at hos
          have HOS := Lib.hid hos
          have HWR := Lib.hid hwr
          have HSC := Lib.hid (Keep.setCell wr g0 (j * 3 + 1) (.slice xa ((f j).k + 70) xc))
          clear hos hwr hofr e0 e1 e2
          go_wp2_with fail
          go_roundw
          case rel =>
            have off : ∀ i, i < m → ∀ g, (f i).v.ownBlock = some g → ¬ g = g0 := fun i hi g hg h => (HK.out.off i hi g hg).2 (by rw [h]; rfl)
            have HSCo := HSC.out
            refine Lib.hid ⟨j + 1, by go_num, by omega, upd L j (.slice xa ((f j).k + 70) xc), HOS.out, ⟨fun i hi => ?_, fun i hi => ?_, fun i hi => ?_, fun i hi him => ?_⟩, HWR.out.trans HSCo (fun _ _ h => h) (fun k _ h => .inl (by rw [h]; rfl))⟩
            · rw [upd_other _ _ _ (by omega)]; exact HLN.out i (by omega)
            · by_cases hij : i = j
              · subst hij
                rw [upd_same]
                refine ⟨HOL.out.keep HSCo (fun g hg h => ?_), ?_⟩
                · subst h
                  rcases HOB.out with h1 | ⟨g', h1, h2⟩
                  · exact off i hlt _ (h1.symm.trans hg) rfl
                  · rw [hg] at h1; cases h1; omega
                · rcases HOB.out with h1 | ⟨g', h1, h2⟩
                  · exact .inl h1
                  · exact .inr ⟨g', h1, by omega⟩
              · rw [upd_other _ _ _ hij]
                obtain ⟨h1, h2⟩ := HLL.out i (by omega)
                refine ⟨(h1.keep HKQ.out (fun g hg h => ?_)).keep HSCo (fun g hg h => ?_), h2⟩
                · rcases h2 with h3 | ⟨g', h3, h4⟩
                  · exact HK.out.apart i j (by omega) hlt hij g (h3.symm.trans hg) h
                  · rw [hg] at h3; cases h3
                    have := hgl g h; omega
                · subst h
                  rcases h2 with h3 | ⟨g', h3, h4⟩
                  · exact off i (by omega) _ (h3.symm.trans hg) rfl
                  · rw [hg] at h3; cases h3; omega
            · refine Sees.keep ?_ HSCo (fun g hg h => off i hi g hg h)
              by_cases hij : i = j
              · subst hij; exact HSE.out
              · exact (HLS.out i hi).keep HKQ.out (fun g hg h => HK.out.apart i j hi hlt hij g hg h)
            · exact ((HLR.out i (by omega) him).keep HKQ.out (fun g hg h => HK.out.apart i j him hlt (by omega) g hg h)).keep HSCo (fun g hg h => off i him g hg h)
          case measure => simp [intOf]; omega
    · obtain rfl : j = m := by omega
      go_wp2_with fail
      refine bodyPost_end (v := .tuple #[]) (by simp [results, Tryz.results56, go_sem]) rfl ⟨rfl, L, HOF.out, HLO.out, HW.out⟩
end Go.Proofs.YtmblghdiejneoaaGreat
