/- The reference's Stands, Gone, Split. -/
import Derived.Test.YtmblghdiejneoaaGreatQIdx
import Derived.Test.YtmblghdiejneoaaGreatQBookF
import Derived.Test.YtmblghdiejneoaaGreatQGone
namespace Go.Proofs.YtmblghdiejneoaaGreat
set_option maxRecDepth 100000
open Go.RowKit

set_option maxHeartbeats 4000000 in
theorem stands_any (s : ByteArray) (at_ : Nat) (w : World) (hat : at_ ≤ s.size) (hs : s.size ≤ 1000000000000) :
    Calls Tryz.prog 115 #[.string s, .int .i64 at_] w fun e w' => e = .returned (.tuple #[.int .i64 ((standsF (s.data.toList.drop at_)).1 : Int), .int .i64 ((standsF (s.data.toList.drop at_)).2 : Int)]) ∧ Below w.heap.size w w' := by
  have hl : (s.data.toList.drop at_).length = s.size - at_ := by rw [List.length_drop]; simp
  by_cases h1 : s.size - at_ < 1
  · have hst : standsF (s.data.toList.drop at_) = (3, 0) := by unfold standsF; rw [if_pos (by omega)]
    rw [hst]
    have hle : (s.size : Int) - (at_ : Int) < 1 := by omega
    clear hst hl
    go_enter Tryz.func115, Tryz.ntmps115
    go_wp2_with fail
    refine bodyPost_ret (v := .tuple #[.int .i64 3, .int .i64 0]) (by simp [results, Tryz.results115, go_sem]) rfl ⟨rfl, Below.refl _ _⟩
  · have hgd : ∀ i, (s.data.toList.drop at_).getD i 0 = s.data.toList.getD (at_ + i) 0 := fun i => by
      simp only [List.getD_eq_getElem?_getD, List.getElem?_drop]
    have hi0 : ∀ w, (Instr.index 9 (.string s) (.int .i64 (at_ : Int))).run Tryz.prog w = .ok (.int .u8 (((s.data.toList.drop at_).getD 0 0).toNat : Int)) w := by
      intro w; rw [hgd 0]; exact idx_str s at_ (by omega) w
    have b0 := ((s.data.toList.drop at_).getD 0 0).toNat_lt
    have b1 := ((s.data.toList.drop at_).getD 1 0).toNat_lt
    have b2 := ((s.data.toList.drop at_).getD 2 0).toNat_lt
    have b3 := ((s.data.toList.drop at_).getD 3 0).toNat_lt
    have hi1 : 1 < s.size - at_ → ∀ w, (Instr.index 9 (.string s) (.int .i64 ((at_ : Int) + 1))).run Tryz.prog w = .ok (.int .u8 (((s.data.toList.drop at_).getD 1 0).toNat : Int)) w := by
      intro h w; rw [hgd 1]; exact idx_str s (at_ + 1) (by omega) w
    have hi2 : 4 ≤ s.size - at_ → ∀ w, (Instr.index 9 (.string s) (.int .i64 ((at_ : Int) + 2))).run Tryz.prog w = .ok (.int .u8 (((s.data.toList.drop at_).getD 2 0).toNat : Int)) w := by
      intro h w; rw [hgd 2]; exact idx_str s (at_ + 2) (by omega) w
    have hi3 : 4 ≤ s.size - at_ → ∀ w, (Instr.index 9 (.string s) (.int .i64 ((at_ : Int) + 3))).run Tryz.prog w = .ok (.int .u8 (((s.data.toList.drop at_).getD 3 0).toNat : Int)) w := by
      intro h w; rw [hgd 3]; exact idx_str s (at_ + 3) (by omega) w
    have HI1 := Lib.hid hi1
    have HI2 := Lib.hid hi2
    have HI3 := Lib.hid hi3
    have hdef : standsF (s.data.toList.drop at_) = if (s.data.toList.drop at_).getD 0 0 ≠ 197 ∨ (1 < (s.data.toList.drop at_).length ∧ (s.data.toList.drop at_).getD 1 0 ≠ 171) then (1, 0) else if (s.data.toList.drop at_).length < 4 then (3, 0) else if 4096 < lenOf (s.data.toList.drop at_) then (1, 0) else if (s.data.toList.drop at_).length < lenOf (s.data.toList.drop at_) + 8 then (3, 0) else if frameL (((s.data.toList.drop at_).drop 4).take (lenOf (s.data.toList.drop at_))) ≠ (s.data.toList.drop at_).take (lenOf (s.data.toList.drop at_) + 8) then (1, 0) else (2, lenOf (s.data.toList.drop at_) + 8) := by
      unfold standsF; rw [if_neg (by omega)]
    rw [hdef, hl]
    have HLN := Lib.hid (show lenOf (s.data.toList.drop at_) = ((s.data.toList.drop at_).getD 2 0).toNat * 256 + ((s.data.toList.drop at_).getD 3 0).toNat from rfl)
    clear hgd hi1 hi2 hi3 hdef
    have n0 : ∀ (x y : UInt8), ¬ x = y → (((x.toNat : Int)) == ((y.toNat : Nat) : Int)) = false := by
      intro x y h
      rw [u8_beq]
      simpa using h
    by_cases h0 : (s.data.toList.drop at_).getD 0 0 = 197
    · have hx0 : ((s.data.toList.drop at_).getD 0 0).toNat = 197 := by rw [h0]; rfl
      rw [hx0] at hi0
      have hi0' : ∀ w, (Instr.index 9 (.string s) (.int .i64 (at_ : Int))).run Tryz.prog w = .ok (.int .u8 197) w := hi0
      clear hi0 hx0 b0
      have q1 : 1 < s.size - at_ → ¬ (s.data.toList.drop at_).getD 1 0 = 171 → ((((s.data.toList.drop at_).getD 1 0).toNat : Int) == 171) = false := fun _ h => n0 _ 171 h
      have q2 : (s.data.toList.drop at_).getD 1 0 = 171 → ((s.data.toList.drop at_).getD 1 0).toNat = 171 := fun h => by rw [h]; rfl
      by_cases h3 : 1 < s.size - at_ ∧ ¬ (s.data.toList.drop at_).getD 1 0 = 171
      · rw [if_pos (.inr h3)]
        have hk1 := HI1.out h3.1
        have qq := q1 h3.1 h3.2
        have qn : ¬ (((s.data.toList.drop at_).getD 1 0).toNat : Int) = 171 := by simpa using qq
        have hgt : (1 : Int) < (s.size : Int) - (at_ : Int) := by omega
        clear q1 q2 h3 h0 n0
        skip
        generalize ((s.data.toList.drop at_).getD 1 0).toNat = x1 at *
        go_enter Tryz.func115, Tryz.ntmps115
        go_wp2_with fail
        refine bodyPost_ret (v := .tuple #[.int .i64 1, .int .i64 0]) (by simp [results, Tryz.results115, go_sem]) rfl ⟨rfl, Below.refl _ _⟩
      · rw [if_neg (by rintro (h | h); exact h h0; exact h3 h)]
        have q3 : 1 < s.size - at_ → ((s.data.toList.drop at_).getD 1 0).toNat = 171 := fun h => q2 (by
          by_cases hh : (s.data.toList.drop at_).getD 1 0 = 171
          · exact hh
          · exact absurd ⟨h, hh⟩ h3)
        clear q1 q2 h3 h0 n0
        by_cases h4 : s.size - at_ < 4
        · rw [if_pos h4]
          by_cases h2 : 1 < s.size - at_
          · have hk1 := HI1.out h2
            have qq := q3 h2
            rw [qq] at hk1
            have hk1' : ∀ w, (Instr.index 9 (.string s) (.int .i64 ((at_ : Int) + 1))).run Tryz.prog w = .ok (.int .u8 171) w := hk1
            clear hk1 qq
            have hgt : (1 : Int) < (s.size : Int) - (at_ : Int) := by omega
            have hlt : (s.size : Int) - (at_ : Int) < 4 := by omega
            clear q3
            skip
            generalize ((s.data.toList.drop at_).getD 1 0).toNat = x1 at *
            go_enter Tryz.func115, Tryz.ntmps115
            go_wp2_with fail
            refine bodyPost_ret (v := .tuple #[.int .i64 3, .int .i64 0]) (by simp [results, Tryz.results115, go_sem]) rfl ⟨rfl, Below.refl _ _⟩
          · have hgt : (s.size : Int) - (at_ : Int) = 1 := by omega
            clear q3
            skip
            go_enter Tryz.func115, Tryz.ntmps115
            go_wp2_with fail
            refine bodyPost_ret (v := .tuple #[.int .i64 3, .int .i64 0]) (by simp [results, Tryz.results115, go_sem]) rfl ⟨rfl, Below.refl _ _⟩
        · rw [if_neg h4]
          have hk1 := HI1.out (by omega)
          have hk2 := HI2.out (by omega)
          have hk3 := HI3.out (by omega)
          have qq := q3 (by omega)
          rw [qq] at hk1
          have hk1' : ∀ w, (Instr.index 9 (.string s) (.int .i64 ((at_ : Int) + 1))).run Tryz.prog w = .ok (.int .u8 171) w := hk1
          clear hk1 qq
          have hgt : (4 : Int) ≤ (s.size : Int) - (at_ : Int) := by omega
          have hln := HLN.out
          have hfr : frameL (((s.data.toList.drop at_).drop 4).take (lenOf (s.data.toList.drop at_))) = (s.data.toList.drop at_).take (lenOf (s.data.toList.drop at_) + 8) ∨ ¬ frameL (((s.data.toList.drop at_).drop 4).take (lenOf (s.data.toList.drop at_))) = (s.data.toList.drop at_).take (lenOf (s.data.toList.drop at_) + 8) := Classical.em _
          have HFR := Lib.hid hfr
          have htk : ∀ n, n + 8 ≤ s.size - at_ → (s.extract (at_ + 4) (at_ + 4 + n)).data.toList = ((s.data.toList.drop at_).drop 4).take n ∧ (s.extract at_ (at_ + n + 8)).data.toList = (s.data.toList.drop at_).take (n + 8) := by
            intro n hn
            rw [Lib.extract_data, Lib.extract_data, List.drop_drop]
            exact ⟨by congr 1; omega, by congr 1; omega⟩
          have HTK := Lib.hid htk
          rw [hln] at HFR ⊢
          generalize hR : (if 4096 < ((s.data.toList.drop at_).getD 2 0).toNat * 256 + ((s.data.toList.drop at_).getD 3 0).toNat then ((1, 0) : Nat × Nat) else _) = R
          have HRR := Lib.hid hR
          clear hR
          clear q3 hfr htk HLN hln
          skip
          generalize ((s.data.toList.drop at_).getD 1 0).toNat = x1 at *
          generalize ((s.data.toList.drop at_).getD 2 0).toNat = x2 at *
          generalize ((s.data.toList.drop at_).getD 3 0).toNat = x3 at *
          go_enter Tryz.func115, Tryz.ntmps115
          go_wp2_with fail
          go_quiet (fail)
          by_cases hbig : 4096 < x2 * 256 + x3
          · have HV := Lib.hid (show R = (1, 0) from by rw [← HRR.out, if_pos hbig])
            go_wp2_with fail
            refine bodyPost_ret (v := .tuple #[.int .i64 1, .int .i64 0]) (by simp [results, Tryz.results115, go_sem]) rfl ⟨by rw [HV.out]; rfl, below_drewN (Below.refl _ _) _⟩
          · by_cases hsh : s.size - at_ < x2 * 256 + x3 + 8
            · have HV := Lib.hid (show R = (3, 0) from by rw [← HRR.out, if_neg hbig, if_pos hsh])
              have hsh' : (s.size : Int) - (at_ : Int) < (x2 : Int) * 256 + (x3 : Int) + 8 := by omega
              go_wp2_with fail
              refine bodyPost_ret (v := .tuple #[.int .i64 3, .int .i64 0]) (by simp [results, Tryz.results115, go_sem]) rfl ⟨by rw [HV.out]; rfl, below_drewN (Below.refl _ _) _⟩
            · have HRQ := Lib.hid (HRR.out.symm.trans (by rw [if_neg hbig, if_neg hsh]))
              obtain ⟨ht1, ht2⟩ := HTK.out (x2 * 256 + x3) (by omega)
              have hxs : (s.extract (at_ + 4) (at_ + 4 + (x2 * 256 + x3))).size = x2 * 256 + x3 := by
                rw [ByteArray.size_extract]; omega
              have hp := rpack_fits (s.extract (at_ + 4) (at_ + 4 + (x2 * 256 + x3))) (w.drewN nq) (by omega)
              rw [ht1] at hp
              have hcmp : (((⟨(frameL (((s.data.toList.drop at_).drop 4).take (x2 * 256 + x3))).toArray⟩ : ByteArray)).toList == (s.extract at_ (at_ + (x2 * 256 + x3) + 8)).toList) = (frameL (((s.data.toList.drop at_).drop 4).take (x2 * 256 + x3)) == (s.data.toList.drop at_).take (x2 * 256 + x3 + 8)) := by
                rw [Lib.toList_data, Lib.toList_data, ht2]
              generalize (⟨(frameL (((s.data.toList.drop at_).drop 4).take (x2 * 256 + x3))).toArray⟩ : ByteArray) = S at *
              have HP := Lib.hid hp
              clear hp hxs ht1 ht2
              have hle : (x2 : Int) * 256 + (x3 : Int) + 8 ≤ (s.size : Int) - (at_ : Int) := by omega
              rcases HFR.out with hf | hf
              · have HV := Lib.hid (show R = (2, x2 * 256 + x3 + 8) from by rw [HRQ.out, if_neg (fun h => h hf)])
                rw [hf] at hcmp
                have hcmp' : (S.toList == (s.extract at_ (at_ + (x2 * 256 + x3) + 8)).toList) = true := by rw [hcmp]; simp
                clear hf hcmp HFR
                go_wp2_with fail
                refine HP.out.mono ?_
                rintro e w1 ⟨rfl, hb1⟩
                have HB1 := Lib.hid (show Below w.heap.size w w1 from Below.next (below_drewN (Below.refl _ _) _) hb1)
                clear hb1
                go_wp2_with fail
                refine bodyPost_ret (v := .tuple #[.int .i64 2, .int .i64 ((x2 * 256 + x3 + 8 : Nat) : Int)]) (by simp [results, Tryz.results115, go_sem]) rfl ⟨by rw [HV.out]; rfl, HB1.out⟩
              · have HV := Lib.hid (show R = (1, 0) from by rw [HRQ.out, if_pos hf])
                have hcmp' : (S.toList == (s.extract at_ (at_ + (x2 * 256 + x3) + 8)).toList) = false := by rw [hcmp]; simpa using hf
                clear hf hcmp HFR
                go_wp2_with fail
                refine HP.out.mono ?_
                rintro e w1 ⟨rfl, hb1⟩
                have HB1 := Lib.hid (show Below w.heap.size w w1 from Below.next (below_drewN (Below.refl _ _) _) hb1)
                clear hb1
                go_wp2_with fail
                refine bodyPost_ret (v := .tuple #[.int .i64 1, .int .i64 0]) (by simp [results, Tryz.results115, go_sem]) rfl ⟨by rw [HV.out]; rfl, HB1.out⟩
    · rw [if_pos (.inl h0)]
      have q0 := n0 _ 197 h0
      have q0' : ((((s.data.toList.drop at_).getD 0 0).toNat : Int) == 197) = false := q0
      have qn : ¬ (((s.data.toList.drop at_).getD 0 0).toNat : Int) = 197 := by simpa using q0'
      clear q0 n0 h0
      generalize ((s.data.toList.drop at_).getD 0 0).toNat = x0 at *
      go_enter Tryz.func115, Tryz.ntmps115
      go_wp2_with fail
      refine bodyPost_ret (v := .tuple #[.int .i64 1, .int .i64 0]) (by simp [results, Tryz.results115, go_sem]) rfl ⟨rfl, Below.refl _ _⟩
end Go.Proofs.YtmblghdiejneoaaGreat
