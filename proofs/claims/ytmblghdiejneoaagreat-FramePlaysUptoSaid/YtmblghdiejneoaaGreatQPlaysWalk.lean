/- FramePlays: the walk. -/
import Derived.Test.YtmblghdiejneoaaGreatQPlay
import Derived.Test.YtmblghdiejneoaaGreatQResume
import Derived.Test.YtmblghdiejneoaaGreatQBeyond
namespace Go.Proofs.YtmblghdiejneoaaGreat
set_option maxRecDepth 100000
open Go.RowKit

/-- The script in memory. -/
def Script (w : World) (sa : Option Addr) (n : Nat) : Prop :=
  ∀ i, i < n → ∃ sb so kd ao ln cp b, sa = some ⟨sb, so, none⟩ ∧ w.cell? ⟨sb, so + i * 2, none⟩ = some (.int .i64 kd) ∧ w.cell? ⟨sb, so + i * 2 + 1, none⟩ = some (.slice ao ln cp) ∧ Rd w ao b ∧ b.length = ln ∧ ln ≤ 1048576

/-- How all stands ahead of a round. -/
def PlayRel (w : World) (D R C T K j : Nat) (wr : World) : Prop :=
  ∃ P ds es c, Play w.heap.size wr D R C T K P ds ds es es c [] ∧ ROk ds ∧ ROk es ∧ c ≤ 2 * j ∧ Below w.heap.size w wr

theorem play_new {N : Nat} {w : World} {D R C T K : Nat} {r : Value} {d e : DSt} (hN : N ≤ w.heap.size) (hd : DecAt w D r d) (hr : RDecAt w R d) (he : DecAt w C (.slice none 0 0) e) (ht : RDecAt w T e) (hk : Bk w K (fun g => g = K) 0)
    (nD : N ≤ D) (nR : N ≤ R) (nC : N ≤ C) (nT : N ≤ T) (nK : N ≤ K) (hDR : ¬ D = R) (hC : D < C ∧ R < C) (hT : C < T) (hK : T < K) (hKs : K < w.heap.size) (hrr : ∀ g, r.ownBlock = some g → N ≤ g ∧ g < C ∧ ¬ g = R) :
    ∃ P, Play N w D R C T K P d d e e 0 [] := by
  have hap : ∀ g, r.ownBlock = some g → ¬ g = D := fun g hg e => hd.apart (by rw [hg, e])
  refine ⟨fun i g => (i = 0 ∧ (g = D ∨ r.ownBlock = some g)) ∨ (i = 1 ∧ g = R) ∨ (i = 2 ∧ g = C) ∨ (i = 3 ∧ g = T) ∨ (i = 4 ∧ g = K), hN, ⟨fun i g hg => ?_, fun i j g hi hj => ?_⟩, ⟨r, hd, .inl ⟨rfl, .inl rfl⟩, fun g hg => .inl ⟨rfl, .inr hg⟩, fun g hg => ?_⟩, ⟨hr, .inr (.inl ⟨rfl, rfl⟩), fun g hg => ?_⟩, ⟨_, he, .inr (.inr (.inl ⟨rfl, rfl⟩)), fun g hg => by simp [Value.ownBlock] at hg, fun g hg => ?_⟩, ⟨ht, .inr (.inr (.inr (.inl ⟨rfl, rfl⟩))), fun g hg => ?_⟩, hk.mono (fun g hg _ => .inr (.inr (.inr (.inr ⟨rfl, hg⟩)))) (Nat.le_refl _), fun x hx => by cases hx⟩
  · rcases hg with ⟨_, hg | hg⟩ | ⟨_, hg⟩ | ⟨_, hg⟩ | ⟨_, hg⟩ | ⟨_, hg⟩
    · omega
    · have := hrr g hg; omega
    all_goals omega
  · rcases hi with ⟨e1, h1 | h1⟩ | ⟨e1, h1⟩ | ⟨e1, h1⟩ | ⟨e1, h1⟩ | ⟨e1, h1⟩ <;> rcases hj with ⟨e2, h2 | h2⟩ | ⟨e2, h2⟩ | ⟨e2, h2⟩ | ⟨e2, h2⟩ | ⟨e2, h2⟩ <;>
      first
        | omega
        | (have := hrr g h1; have := hap g h1; omega)
        | (have := hrr g h2; have := hap g h2; omega)
  · rcases hg with ⟨_, hg⟩ | ⟨h, _⟩ | ⟨h, _⟩ | ⟨h, _⟩ | ⟨h, _⟩
    · exact hg
    all_goals omega
  · rcases hg with ⟨h, _⟩ | ⟨_, hg⟩ | ⟨h, _⟩ | ⟨h, _⟩ | ⟨h, _⟩
    · omega
    · exact hg
    all_goals omega
  · rcases hg with ⟨h, _⟩ | ⟨h, _⟩ | ⟨_, hg⟩ | ⟨h, _⟩ | ⟨h, _⟩
    · omega
    · omega
    · exact .inl hg
    all_goals omega
  · rcases hg with ⟨h, _⟩ | ⟨h, _⟩ | ⟨h, _⟩ | ⟨_, hg⟩ | ⟨h, _⟩
    · omega
    · omega
    · omega
    · exact hg
    · omega

set_option maxHeartbeats 8000000 in
theorem plays_any (w : World) (made : Bool) (fed ba bs : Int) (S : ByteArray) (c : Bool) (sa : Option Addr) (n cap : Nat) (hS : S.size ≤ 1048576) (hn : n ≤ 1048576) (hsc : Script w sa n) :
    Calls Tryz.prog 4 #[.agg #[.bool made, .int .i64 fed, .int .i64 ba, .int .i64 bs, .string S, .bool c], .slice sa n cap] w fun e w' => e = .returned (.bool true) ∧ Below w.heap.size w w' := by
  have HSC := Lib.hid hsc
  have HBG := Lib.hid (fun w => begun_any w made fed ba bs S c (by omega))
  clear hsc
  have hb0 := (Below.refl w.heap.size w).alloc (Nat.le_refl _) (.cells #[.bool made, .int .i64 fed, .int .i64 ba, .int .i64 bs, .string S, .bool c] 62)
  have hh0 := heap_alloc_new w (.cells #[.bool made, .int .i64 fed, .int .i64 ba, .int .i64 bs, .string S, .bool c] 62)
  have HB := Lib.hid hb0
  have HH0 := Lib.hid hh0
  clear hb0 hh0
  go_enter Tryz.func4, Tryz.ntmps4
  go_wp2_with fail
  have hz0 : (w.alloc (.cells #[.bool made, .int .i64 fed, .int .i64 ba, .int .i64 bs, .string S, .bool c] 62)).heap.size = w.heap.size + 1 := by simp
  generalize w.alloc (.cells #[.bool made, .int .i64 fed, .int .i64 ba, .int .i64 bs, .string S, .bool c] 62) = W0 at *
  have hc1 : (W0.alloc (.cells #[.int .i64 (n : Int)] 3)).cell? ⟨w.heap.size + 1, 0, none⟩ = some (.int .i64 n) := by
    rw [← hz0, World.cell?_alloc_mark]; rfl
  have hb1 := HB.out.alloc HB.out.size (.cells #[.int .i64 (n : Int)] 3)
  have hh1 := (Keep.alloc (fun _ => False) W0 (.cells #[.int .i64 (n : Int)] 3)).old HH0.out id
  have HB := Lib.hid hb1
  have HH0 := Lib.hid hh1
  clear hz0 hb1 hh1
  refine (beyond_any _ (w.heap.size + 1) n hc1 hn).mono ?_
  rintro e w1 ⟨rfl, hw1⟩
  rw [hw1] at HB HH0
  clear hw1 hc1
  have hs1 := HB.out.size
  have q0 : w1.cell? ⟨w.heap.size, 0, none⟩ = some (.bool made) := by simp [World.cell?, HH0.out]
  have q1 : w1.cell? ⟨w.heap.size, 1, none⟩ = some (.int .i64 fed) := by simp [World.cell?, HH0.out]
  have q2 : w1.cell? ⟨w.heap.size, 2, none⟩ = some (.int .i64 ba) := by simp [World.cell?, HH0.out]
  have q3 : w1.cell? ⟨w.heap.size, 3, none⟩ = some (.int .i64 bs) := by simp [World.cell?, HH0.out]
  have q4 : w1.cell? ⟨w.heap.size, 4, none⟩ = some (.string S) := by simp [World.cell?, HH0.out]
  have q5 : w1.cell? ⟨w.heap.size, 5, none⟩ = some (.bool c) := by simp [World.cell?, HH0.out]
  go_wp2_with fail
  refine (HBG.out w1).mono ?_
  clear q0 q1 q2 q3 q4 q5
  rintro e w2 (⟨d, D, R, r, hok, rfl, hd, hr, hD, hR, hDR, hrR, hb2⟩ | ⟨rfl, hb2⟩)
  rotate_left
  · have HB := Lib.hid (Below.next HB.out hb2)
    clear hb2
    go_wp2_with fail
    refine (alive_any w2).mono ?_
    rintro e w3 ⟨rfl, hb3⟩
    have HB := Lib.hid (Below.next HB.out hb3)
    clear hb3
    go_wp2_with fail
    go_ret
    exact ⟨rfl, HB.out⟩
  have hdl := lt_of_block hd.block
  have hrl := lt_of_block hr
  have HB := Lib.hid (Below.next HB.out hb2)
  have HD := Lib.hid hd
  have HR := Lib.hid hr
  have HRR := Lib.hid (show ∀ g, r.ownBlock = some g → w.heap.size ≤ g ∧ g < w2.heap.size ∧ ¬ g = R from fun g hg => ⟨by have := (hrR g hg).1; omega, hd.own.lt g hg, (hrR g hg).2⟩)
  have HOK := Lib.hid hok
  have HDR := Lib.hid hDR
  clear hd hr hrR hok hb2 HH0 hDR
  go_wp2_with fail
  refine (new_any w2).mono ?_
  rintro e w3 ⟨rfl, hw3⟩
  have he3 := dec_new w2
  have hb3 := (Below.refl w2.heap.size w2).alloc (Nat.le_refl _) (.cells #[.bool true, .bool false, .int .i64 0, .int .i64 0, .int .i64 0, .slice none 0 0] 93)
  rw [hw3] at he3 hb3
  have hCl := lt_of_block he3.block
  have HE := Lib.hid he3
  have HK3 := Lib.hid (Keep.of_below hb3 (Nat.le_refl _) (fun _ => False))
  have HB := Lib.hid (Below.next HB.out hb3)
  clear hw3 he3 hb3
  go_wp2_with fail
  refine (rnew_any w3).mono ?_
  rintro e w4 ⟨rfl, hw4⟩
  have ht4 := rdec_new w3
  have hb4 := (Below.refl w3.heap.size w3).alloc (Nat.le_refl _) (.cells #[.int .i64 0, .int .i64 0, .int .i64 0, .string ⟨#[]⟩, .bool false] 95)
  rw [hw4] at ht4 hb4
  have hTl := lt_of_block ht4
  have HT := Lib.hid ht4
  have HK4 := Lib.hid (Keep.of_below hb4 (Nat.le_refl _) (fun _ => False))
  have HB := Lib.hid (Below.next HB.out hb4)
  clear hw4 ht4 hb4
  go_wp2_with fail
  have hbk := bk_new w4
  have hb5 := (Below.refl w4.heap.size w4).alloc (Nat.le_refl _) (.cells (bookCells 0 (.slice none 0 0) (.slice none 0 0)) 54 (0, 0))
  simp only [bookCells] at hbk hb5
  generalize w4.alloc _ = w5 at *
  have hk5 := Keep.of_below hb5 (Nat.le_refl _) (fun _ => False)
  have hkl : w4.heap.size < w5.heap.size := by
    obtain ⟨_, _, _, _, _, _, _, hbi, _⟩ := hbk
    exact lt_of_block hbi.at_
  have HB := Lib.hid (Below.next HB.out hb5)
  have hpl := play_new (N := w.heap.size) HB.out.size (((HD.out.keep HK3.out id (fun _ _ => id)).keep HK4.out id (fun _ _ => id)).keep hk5 id (fun _ _ => id)) (hk5.old (HK4.out.old (HK3.out.old HR.out id) id) id) ((HE.out.keep HK4.out id (fun _ _ => id)).keep hk5 id (fun _ _ => id)) (hk5.old HT.out id) hbk
    (by omega) (by omega) (by omega) (by omega) (by omega) HDR.out ⟨by omega, by omega⟩ (by omega) (by omega) (by omega) HRR.out
  have hst := Lib.hid (show PlayRel w D R w2.heap.size w3.heap.size w4.heap.size 0 w5 from by
    obtain ⟨P, hp⟩ := hpl
    exact ⟨P, d, d0, 0, hp, HOK.out, d0_rok, Nat.le_refl _, HB.out⟩)
  clear hpl hbk hb5 hk5 HK3 HK4 HE HT HD HR HRR HDR HOK HB HBG
  generalize w2.heap.size = C at *
  generalize w3.heap.size = T at *
  generalize w4.heap.size = K at *
  go_loopw [12] (fun i wr => Hid (∃ j : Nat, i = .int .i64 j ∧ j ≤ n ∧ PlayRel w D R C T K j wr)) (fun i _ => n - (intOf i).toNat)
  case atStart => exact Lib.hid ⟨0, rfl, Nat.zero_le _, hst.out⟩
  case round =>
    obtain ⟨j, rfl, hj, P, ds, es, cc, hp, hdok, heok, hcc, hbr⟩ := hrel.out
    have HP := Lib.hid hp
    have HDK := Lib.hid hdok
    have HEK := Lib.hid heok
    have HB := Lib.hid hbr
    clear hrel hp hdok heok hbr
    by_cases hlt : j < n
    · obtain ⟨sb, so, kd, ao, ln, cp, b, hsa, g0, g1, hrd, hbl, hln⟩ := HSC.out j hlt
      obtain ⟨sb', so', kd2, ao2, ln2, cp2, b2, hsa2, g2, g3, hrd2, hbl2, hln2⟩ := HSC.out (n - 1 - j) (by omega)
      rw [hsa] at hsa2
      cases hsa2
      subst hsa
      have hkb := Keep.of_below HB.out (Nat.le_refl _) (fun _ => False)
      have c0 := hkb.cell g0 id
      have c1 := hkb.cell g1 id
      have c2 := hkb.cell g2 id
      have c3 := hkb.cell g3 id
      have hsb := World.block_lt_of_cell? _ _ c0
      simp only at hsb
      have HRD := Lib.hid hrd
      have HRD2 := Lib.hid hrd2
      have HBL := Lib.hid hbl
      have HBL2 := Lib.hid hbl2
      have hidx : ((n : Int) - 1 - (j : Int)) = ((n - 1 - j : Nat) : Int) := by omega
      have hq : n - 1 - j < n := by omega
      generalize n - 1 - j = q at *
      clear g0 g1 g2 g3 hrd hrd2 hbl hbl2 hkb
      go_upto_if 59 with fail
      have ha1 := (Below.refl wr.heap.size wr).alloc (Nat.le_refl _) (.cells #[Value.int .i64 kd, Value.slice ao ln cp] 72)
      obtain ⟨P1, hp1⟩ := HP.out.hold ha1 wr.heap.size (.cells #[Value.int .i64 kd, Value.slice ao ln cp] 72) (Nat.le_refl _) (heap_alloc_new wr _)
      have hz1 : (wr.alloc (.cells #[Value.int .i64 kd, Value.slice ao ln cp] 72)).heap.size = wr.heap.size + 1 := by simp
      have ha2 := (Below.refl (wr.alloc (.cells #[Value.int .i64 kd, Value.slice ao ln cp] 72)).heap.size (wr.alloc (.cells #[Value.int .i64 kd, Value.slice ao ln cp] 72))).alloc (Nat.le_refl _) (.cells #[Value.int .i64 kd2, Value.slice ao2 ln2 cp2] 72)
      obtain ⟨P2, hp2⟩ := hp1.hold ha2 (wr.alloc (.cells #[Value.int .i64 kd, Value.slice ao ln cp] 72)).heap.size (.cells #[Value.int .i64 kd2, Value.slice ao2 ln2 cp2] 72) (Nat.le_refl _) (heap_alloc_new _ _)
      have HB := Lib.hid ((HB.out.alloc HB.out.size (.cells #[Value.int .i64 kd, Value.slice ao ln cp] 72)).alloc (by rw [hz1]; have := HB.out.size; omega) (.cells #[Value.int .i64 kd2, Value.slice ao2 ln2 cp2] 72))
      rw [hz1] at hp2
      have HP := Lib.hid hp2
      clear ha1 ha2 hp1 hp2 hz1 c0 c1 c2 c3 P1 hsb hidx
      generalize (wr.alloc (.cells #[Value.int .i64 kd, Value.slice ao ln cp] 72)).alloc (.cells #[Value.int .i64 kd2, Value.slice ao2 ln2 cp2] 72) = W at *
      generalize wr.heap.size + 1 = H2 at *
      generalize wr.heap.size = H1 at *
      by_cases hk1 : kd = 1
      · have hkb1 : (kd == 1) = true := by rw [hk1]; rfl
        clear hk1
        obtain ⟨a0, a1, hH1⟩ := HP.out.two (H := H1) (t := 72) (a := Value.int .i64 kd) (b := Value.slice ao ln cp) (by simp)
        obtain ⟨b0, b1, hH2⟩ := HP.out.two (H := H2) (t := 72) (a := Value.int .i64 kd2) (b := Value.slice ao2 ln2 cp2) (by simp)
        have RD := Lib.hid (Below.rd HB.out HRD.out (Nat.le_refl _))
        have RD2 := Lib.hid (Below.rd HB.out HRD2.out (Nat.le_refl _))
        go_wp2_with fail
        refine (twin_any W ao ln cp b HBL.out RD.out (by omega)).mono ?_
        rintro e x1 ⟨rfl, hr1, hb⟩
        obtain ⟨o3, ho3⟩ := row_obj hr1
        obtain ⟨P3, hp3⟩ := HP.out.hold hb W.heap.size o3 (Nat.le_refl _) ho3
        have hG1 : H1 < W.heap.size := hH1
        have hG2 : H2 < W.heap.size := hH2
        have HB := Lib.hid (Below.trans HB.out (hb.mono HB.out.size))
        have HP := Lib.hid hp3
        have RI := Lib.hid hr1
        clear ho3 hp3 hr1 hb RD RD2 a0 a1 hH1 b0 b1 hH2
        generalize W.heap.size = G at *
        have HG7 := Lib.hid ((HP.out.ex (G, o3) (by simp)).2)
        go_wp2_with fail
        refine (play_feedD HP.out HDK.out.dok HBL.out (row_rdb RI.out) (by have := rok_short HDK.out; omega)).mono ?_
        rintro e x2 ⟨P4, ⟨u4', rfl, ho4, hu4, hk4, hj4⟩, hp4⟩
        have HB := Lib.hid (HP.out.out hk4 HB.out)
        have RI := Lib.hid (RI.out.keep hk4 (HP.out.fam.off (i := 7) (by decide) _ HG7.out))
        have HG7 := Lib.hid (show P4 7 G by rw [hj4 7 (by decide) (by decide)]; exact HG7.out)
        have HP := Lib.hid hp4
        have OV := Lib.hid ho4
        have OV5 := Lib.hid hu4
        clear hp4 hk4 hj4 ho4 hu4
        obtain ⟨a0, a1, hH1⟩ := HP.out.two (H := H1) (t := 72) (a := Value.int .i64 kd) (b := Value.slice ao ln cp) (by simp)
        have RD := Lib.hid (Below.rd HB.out HRD.out (Nat.le_refl _))
        have RD2 := Lib.hid (Below.rd HB.out HRD2.out (Nat.le_refl _))
        go_wp2_with fail
        refine (left_any _ G ao ln cp b HBL.out RI.out RD.out (by omega)).mono ?_
        rintro e x3 ⟨rfl, hb⟩
        clear RD RD2 a0 a1 hH1
        have hk := Keep.of_below hb (Nat.le_refl _) (fun _ => False)
        have HP := Lib.hid (HP.out.below hb)
        have HB := Lib.hid (Below.trans HB.out (hb.mono HB.out.size))
        have OV := Lib.hid (OV.out.keep hk (fun _ _ => id))
        have RI := Lib.hid (RI.out.keep hk id)
        clear hb hk
        obtain ⟨a0, a1, hH1⟩ := HP.out.two (H := H1) (t := 72) (a := Value.int .i64 kd) (b := Value.slice ao ln cp) (by simp)
        have RD := Lib.hid (Below.rd HB.out HRD.out (Nat.le_refl _))
        have RD2 := Lib.hid (Below.rd HB.out HRD2.out (Nat.le_refl _))
        go_wp2_with fail
        refine (play_feedR HP.out HDK.out.dok HBL.out RD.out (by have := rok_short HDK.out; omega)).mono ?_
        rintro e x4 ⟨⟨u5, rfl, ho5, hk5⟩, hp5⟩
        have HB := Lib.hid (HP.out.out hk5 HB.out)
        have OV := Lib.hid (OV.out.keep hk5 (fun g hg => HP.out.fam.off (i := 5) (by decide) g (OV5.out g hg)))
        have RI := Lib.hid (RI.out.keep hk5 (HP.out.fam.off (i := 7) (by decide) _ HG7.out))
        have OU := Lib.hid ho5
        have HP := Lib.hid hp5
        clear hp5 hk5 ho5 RD RD2 a0 a1 hH1
        go_wp2_with fail
        refine (same_any _ _ _ _ OV.out OU.out).mono ?_
        rintro e y3 ⟨rfl, hb⟩
        have hk := Keep.of_below hb (Nat.le_refl _) (fun _ => False)
        have HP := Lib.hid (HP.out.below hb)
        have HB := Lib.hid (Below.trans HB.out (hb.mono HB.out.size))
        have OV := Lib.hid (OV.out.keep hk (fun _ _ => id))
        have RI := Lib.hid (RI.out.keep hk id)
        clear hb hk
        go_wp2_with fail
        go_loopw [17] (fun i wx => Hid (∃ m : Nat, i = .int .i64 m ∧ m ≤ ln ∧ (∃ xs, Row wx G (ln + 1) 1 xs) ∧ Keep (fun g => g = G) y3 wx)) (fun i _ => ln - (intOf i).toNat)
        case atStart => exact Lib.hid ⟨0, rfl, Nat.zero_le _, ⟨_, RI.out⟩, Keep.refl _ _⟩
        case round =>
          obtain ⟨m, rfl, hm, ⟨xs, hrow⟩, hkm⟩ := hrel.out
          have RX := Lib.hid hrow
          have HKM := Lib.hid hkm
          clear hrel hrow hkm
          by_cases hltm : m < ln
          · obtain ⟨z0, hz0⟩ := Option.isSome_iff_exists.1 (RX.out.there m (by omega))
            have hzf := RX.out.free m (by omega)
            have HS := Lib.hid (RX.out.set m (.int .u8 197) (by omega))
            have HKS := Lib.hid (HKM.out.trans (Keep.setCell wr G m (.int .u8 197)) (Z := fun g => g = G) (fun _ _ h => h) (fun _ _ h => h))
            go_wp2_with fail
            go_roundw
            case rel => exact Lib.hid ⟨m + 1, by go_num, by omega, ⟨_, HS.out⟩, HKS.out⟩
            case measure => simp [intOf]; omega
          · obtain rfl : ln = m := by omega
            have OV := Lib.hid (OV.out.keep HKM.out (fun g hg e => HP.out.fam.off (i := 5) (j := 7) (by decide) g (OV5.out g hg) (by rw [e]; exact HG7.out)))
            have HB := Lib.hid (Below.trans HB.out (HKM.out.below (Nat.le_trans HP.out.low (Nat.le_refl _)) (fun i hi e => by have := HP.out.fam.bd 7 G HG7.out; omega)))
            have HP := Lib.hid (HP.out.write G HG7.out HKM.out (L' := [(H2, (.cells #[Value.int .i64 kd2, Value.slice ao2 ln2 cp2] 72)), (H1, (.cells #[Value.int .i64 kd, Value.slice ao ln cp] 72))]) (fun x hx => by
              rcases List.mem_cons.1 hx with h | h
              · subst h; exact ⟨by simp, by simp only; omega⟩
              · rcases List.mem_cons.1 h with h | h
                · subst h; exact ⟨by simp, by simp only; omega⟩
                · cases h))
            clear RX HKM RI HG7
            generalize wr = x6 at *
            go_wp2_with fail
            refine (play_frames HP.out OV.out OV5.out (by omega) (feed_told HDK.out (by rw [HBL.out]; exact hln))).mono ?_
            rintro e x7 ⟨rfl, P7, hp7, hk7⟩
            have HB := Lib.hid (HP.out.out hk7 HB.out)
            have HP := Lib.hid hp7
            clear hp7 hk7 OV OV5
            obtain ⟨b0, b1, hH2⟩ := HP.out.two (H := H2) (t := 72) (a := Value.int .i64 kd2) (b := Value.slice ao2 ln2 cp2) (by simp)
            have RD := Lib.hid (Below.rd HB.out HRD.out (Nat.le_refl _))
            have RD2 := Lib.hid (Below.rd HB.out HRD2.out (Nat.le_refl _))
            go_wp2_with fail
            refine (play_feedE HP.out HEK.out.dok HBL2.out RD2.out (by have := rok_short HEK.out; omega)).mono ?_
            rintro e v1 ⟨P1, ⟨u1, rfl, ho1, hu1, hk1, hj1⟩, hp1⟩
            have HB := Lib.hid (HP.out.out hk1 HB.out)
            have HP := Lib.hid hp1
            have OV := Lib.hid ho1
            have OV5 := Lib.hid hu1
            clear hp1 hk1 hj1 ho1 hu1 RD RD2 b0 b1 hH2
            obtain ⟨b0, b1, hH2⟩ := HP.out.two (H := H2) (t := 72) (a := Value.int .i64 kd2) (b := Value.slice ao2 ln2 cp2) (by simp)
            have RD := Lib.hid (Below.rd HB.out HRD.out (Nat.le_refl _))
            have RD2 := Lib.hid (Below.rd HB.out HRD2.out (Nat.le_refl _))
            go_wp2_with fail
            refine (play_feedT HP.out HEK.out.dok HBL2.out RD2.out (by have := rok_short HEK.out; omega)).mono ?_
            rintro e v2 ⟨⟨u2, rfl, ho2, hk2⟩, hp2⟩
            have HB := Lib.hid (HP.out.out hk2 HB.out)
            have OV := Lib.hid (OV.out.keep hk2 (fun g hg => HP.out.fam.off (i := 5) (by decide) g (OV5.out g hg)))
            have OU := Lib.hid ho2
            have HP := Lib.hid hp2
            clear hp2 hk2 ho2 RD RD2 b0 b1 hH2
            go_wp2_with fail
            refine (same_any _ _ _ _ OV.out OU.out).mono ?_
            rintro e v3 ⟨rfl, hb⟩
            have hk := Keep.of_below hb (Nat.le_refl _) (fun _ => False)
            have HP := Lib.hid (HP.out.below hb)
            have HB := Lib.hid (Below.trans HB.out (hb.mono HB.out.size))
            have OV := Lib.hid (OV.out.keep hk (fun _ _ => id))
            clear hb hk
            go_wp2_with fail
            refine (play_frames HP.out OV.out OV5.out (by omega) (feed_told HEK.out (by rw [HBL2.out]; exact hln2))).mono ?_
            rintro e v4 ⟨rfl, P4, hp4, hk4⟩
            have HB := Lib.hid (HP.out.out hk4 HB.out)
            have HP := Lib.hid hp4
            clear hp4 hk4
            go_wp2_with fail
            go_roundw
            case rel => exact Lib.hid ⟨j + 1, by go_num, by omega, _, _, _, _, HP.out.sub (fun x hx => by cases hx), feed_rok HDK.out b, feed_rok HEK.out b2, by omega, HB.out⟩
            case measure => simp [intOf]; omega
      · have hkb1 : (kd == 1) = false := by simpa using hk1
        by_cases hk2 : kd = 2
        · have hkb2 : (kd == 2) = true := by rw [hk2]; rfl
          clear hk1 hk2
          go_wp2_with fail
          refine (play_closeD HP.out HDK.out.dok (by have := rok_short HDK.out; omega)).mono ?_
          rintro e x2 ⟨P4, ⟨u4', rfl, ho4, hu4, hk4, hj4⟩, hp4⟩
          have HB := Lib.hid (HP.out.out hk4 HB.out)
          have HP := Lib.hid hp4
          have OV := Lib.hid ho4
          have OV5 := Lib.hid hu4
          clear hp4 hk4 hj4 ho4 hu4
          go_wp2_with fail
          refine (play_closeR HP.out HDK.out.dok (by have := rok_short HDK.out; omega)).mono ?_
          rintro e x4 ⟨⟨u5, rfl, ho5, hk5⟩, hp5⟩
          have HB := Lib.hid (HP.out.out hk5 HB.out)
          have OV := Lib.hid (OV.out.keep hk5 (fun g hg => HP.out.fam.off (i := 5) (by decide) g (OV5.out g hg)))
          have OU := Lib.hid ho5
          have HP := Lib.hid hp5
          clear hp5 hk5 ho5
          go_wp2_with fail
          refine (same_any _ _ _ _ OV.out OU.out).mono ?_
          rintro e y3 ⟨rfl, hb⟩
          have hk := Keep.of_below hb (Nat.le_refl _) (fun _ => False)
          have HP := Lib.hid (HP.out.below hb)
          have HB := Lib.hid (Below.trans HB.out (hb.mono HB.out.size))
          have OV := Lib.hid (OV.out.keep hk (fun _ _ => id))
          clear hb hk
          go_wp2_with fail
          refine (play_frames HP.out OV.out OV5.out (by omega) (close_told HDK.out)).mono ?_
          rintro e x7 ⟨rfl, P7, hp7, hk7⟩
          have HB := Lib.hid (HP.out.out hk7 HB.out)
          have HP := Lib.hid hp7
          clear hp7 hk7 OV OV5
          obtain ⟨b0, b1, hH2⟩ := HP.out.two (H := H2) (t := 72) (a := Value.int .i64 kd2) (b := Value.slice ao2 ln2 cp2) (by simp)
          have RD := Lib.hid (Below.rd HB.out HRD.out (Nat.le_refl _))
          have RD2 := Lib.hid (Below.rd HB.out HRD2.out (Nat.le_refl _))
          go_wp2_with fail
          refine (play_feedE HP.out HEK.out.dok HBL2.out RD2.out (by have := rok_short HEK.out; omega)).mono ?_
          rintro e v1 ⟨P1, ⟨u1, rfl, ho1, hu1, hk1, hj1⟩, hp1⟩
          have HB := Lib.hid (HP.out.out hk1 HB.out)
          have HP := Lib.hid hp1
          have OV := Lib.hid ho1
          have OV5 := Lib.hid hu1
          clear hp1 hk1 hj1 ho1 hu1 RD RD2 b0 b1 hH2
          obtain ⟨b0, b1, hH2⟩ := HP.out.two (H := H2) (t := 72) (a := Value.int .i64 kd2) (b := Value.slice ao2 ln2 cp2) (by simp)
          have RD := Lib.hid (Below.rd HB.out HRD.out (Nat.le_refl _))
          have RD2 := Lib.hid (Below.rd HB.out HRD2.out (Nat.le_refl _))
          go_wp2_with fail
          refine (play_feedT HP.out HEK.out.dok HBL2.out RD2.out (by have := rok_short HEK.out; omega)).mono ?_
          rintro e v2 ⟨⟨u2, rfl, ho2, hk2⟩, hp2⟩
          have HB := Lib.hid (HP.out.out hk2 HB.out)
          have OV := Lib.hid (OV.out.keep hk2 (fun g hg => HP.out.fam.off (i := 5) (by decide) g (OV5.out g hg)))
          have OU := Lib.hid ho2
          have HP := Lib.hid hp2
          clear hp2 hk2 ho2 RD RD2 b0 b1 hH2
          go_wp2_with fail
          refine (same_any _ _ _ _ OV.out OU.out).mono ?_
          rintro e v3 ⟨rfl, hb⟩
          have hk := Keep.of_below hb (Nat.le_refl _) (fun _ => False)
          have HP := Lib.hid (HP.out.below hb)
          have HB := Lib.hid (Below.trans HB.out (hb.mono HB.out.size))
          have OV := Lib.hid (OV.out.keep hk (fun _ _ => id))
          clear hb hk
          go_wp2_with fail
          refine (play_frames HP.out OV.out OV5.out (by omega) (feed_told HEK.out (by rw [HBL2.out]; exact hln2))).mono ?_
          rintro e v4 ⟨rfl, P4, hp4, hk4⟩
          have HB := Lib.hid (HP.out.out hk4 HB.out)
          have HP := Lib.hid hp4
          clear hp4 hk4
          go_wp2_with fail
          go_roundw
          case rel => exact Lib.hid ⟨j + 1, by go_num, by omega, _, _, _, _, HP.out.sub (fun x hx => by cases hx), close_rok HDK.out, feed_rok HEK.out b2, by omega, HB.out⟩
          case measure => simp [intOf]; omega
        · have hkb2 : (kd == 2) = false := by simpa using hk2
          by_cases hk3 : kd = 3
          · have hkb3 : (kd == 3) = true := by rw [hk3]; rfl
            clear hk1 hk2 hk3
            go_wp2_with fail
            refine (play_seen HP.out HDK.out).mono ?_
            rintro e x2 ⟨rfl, hb⟩
            have hk := Keep.of_below hb (Nat.le_refl _) (fun _ => False)
            have HP := Lib.hid (HP.out.below hb)
            have HB := Lib.hid (Below.trans HB.out (hb.mono HB.out.size))
            clear hb hk
            obtain ⟨b0, b1, hH2⟩ := HP.out.two (H := H2) (t := 72) (a := Value.int .i64 kd2) (b := Value.slice ao2 ln2 cp2) (by simp)
            have RD := Lib.hid (Below.rd HB.out HRD.out (Nat.le_refl _))
            have RD2 := Lib.hid (Below.rd HB.out HRD2.out (Nat.le_refl _))
            go_wp2_with fail
            refine (play_feedE HP.out HEK.out.dok HBL2.out RD2.out (by have := rok_short HEK.out; omega)).mono ?_
            rintro e v1 ⟨P1, ⟨u1, rfl, ho1, hu1, hk1, hj1⟩, hp1⟩
            have HB := Lib.hid (HP.out.out hk1 HB.out)
            have HP := Lib.hid hp1
            have OV := Lib.hid ho1
            have OV5 := Lib.hid hu1
            clear hp1 hk1 hj1 ho1 hu1 RD RD2 b0 b1 hH2
            obtain ⟨b0, b1, hH2⟩ := HP.out.two (H := H2) (t := 72) (a := Value.int .i64 kd2) (b := Value.slice ao2 ln2 cp2) (by simp)
            have RD := Lib.hid (Below.rd HB.out HRD.out (Nat.le_refl _))
            have RD2 := Lib.hid (Below.rd HB.out HRD2.out (Nat.le_refl _))
            go_wp2_with fail
            refine (play_feedT HP.out HEK.out.dok HBL2.out RD2.out (by have := rok_short HEK.out; omega)).mono ?_
            rintro e v2 ⟨⟨u2, rfl, ho2, hk2⟩, hp2⟩
            have HB := Lib.hid (HP.out.out hk2 HB.out)
            have OV := Lib.hid (OV.out.keep hk2 (fun g hg => HP.out.fam.off (i := 5) (by decide) g (OV5.out g hg)))
            have OU := Lib.hid ho2
            have HP := Lib.hid hp2
            clear hp2 hk2 ho2 RD RD2 b0 b1 hH2
            go_wp2_with fail
            refine (same_any _ _ _ _ OV.out OU.out).mono ?_
            rintro e v3 ⟨rfl, hb⟩
            have hk := Keep.of_below hb (Nat.le_refl _) (fun _ => False)
            have HP := Lib.hid (HP.out.below hb)
            have HB := Lib.hid (Below.trans HB.out (hb.mono HB.out.size))
            have OV := Lib.hid (OV.out.keep hk (fun _ _ => id))
            clear hb hk
            go_wp2_with fail
            refine (play_frames HP.out OV.out OV5.out (by omega) (feed_told HEK.out (by rw [HBL2.out]; exact hln2))).mono ?_
            rintro e v4 ⟨rfl, P4, hp4, hk4⟩
            have HB := Lib.hid (HP.out.out hk4 HB.out)
            have HP := Lib.hid hp4
            clear hp4 hk4
            go_wp2_with fail
            go_roundw
            case rel => exact Lib.hid ⟨j + 1, by go_num, by omega, _, _, _, _, HP.out.sub (fun x hx => by cases hx), HDK.out, feed_rok HEK.out b2, by omega, HB.out⟩
            case measure => simp [intOf]; omega
          · have hkb3 : (kd == 3) = false := by simpa using hk3
            by_cases hk4 : kd = 4
            · have hkb4 : (kd == 4) = true := by rw [hk4]; rfl
              clear hk1 hk2 hk3 hk4
              go_wp2_with fail
              refine (play_held HP.out).mono ?_
              rintro e x2 ⟨rfl, hb⟩
              have hk := Keep.of_below hb (Nat.le_refl _) (fun _ => False)
              have HP := Lib.hid (HP.out.below hb)
              have HB := Lib.hid (Below.trans HB.out (hb.mono HB.out.size))
              clear hb hk
              obtain ⟨b0, b1, hH2⟩ := HP.out.two (H := H2) (t := 72) (a := Value.int .i64 kd2) (b := Value.slice ao2 ln2 cp2) (by simp)
              have RD := Lib.hid (Below.rd HB.out HRD.out (Nat.le_refl _))
              have RD2 := Lib.hid (Below.rd HB.out HRD2.out (Nat.le_refl _))
              go_wp2_with fail
              refine (play_feedE HP.out HEK.out.dok HBL2.out RD2.out (by have := rok_short HEK.out; omega)).mono ?_
              rintro e v1 ⟨P1, ⟨u1, rfl, ho1, hu1, hk1, hj1⟩, hp1⟩
              have HB := Lib.hid (HP.out.out hk1 HB.out)
              have HP := Lib.hid hp1
              have OV := Lib.hid ho1
              have OV5 := Lib.hid hu1
              clear hp1 hk1 hj1 ho1 hu1 RD RD2 b0 b1 hH2
              obtain ⟨b0, b1, hH2⟩ := HP.out.two (H := H2) (t := 72) (a := Value.int .i64 kd2) (b := Value.slice ao2 ln2 cp2) (by simp)
              have RD := Lib.hid (Below.rd HB.out HRD.out (Nat.le_refl _))
              have RD2 := Lib.hid (Below.rd HB.out HRD2.out (Nat.le_refl _))
              go_wp2_with fail
              refine (play_feedT HP.out HEK.out.dok HBL2.out RD2.out (by have := rok_short HEK.out; omega)).mono ?_
              rintro e v2 ⟨⟨u2, rfl, ho2, hk2⟩, hp2⟩
              have HB := Lib.hid (HP.out.out hk2 HB.out)
              have OV := Lib.hid (OV.out.keep hk2 (fun g hg => HP.out.fam.off (i := 5) (by decide) g (OV5.out g hg)))
              have OU := Lib.hid ho2
              have HP := Lib.hid hp2
              clear hp2 hk2 ho2 RD RD2 b0 b1 hH2
              go_wp2_with fail
              refine (same_any _ _ _ _ OV.out OU.out).mono ?_
              rintro e v3 ⟨rfl, hb⟩
              have hk := Keep.of_below hb (Nat.le_refl _) (fun _ => False)
              have HP := Lib.hid (HP.out.below hb)
              have HB := Lib.hid (Below.trans HB.out (hb.mono HB.out.size))
              have OV := Lib.hid (OV.out.keep hk (fun _ _ => id))
              clear hb hk
              go_wp2_with fail
              refine (play_frames HP.out OV.out OV5.out (by omega) (feed_told HEK.out (by rw [HBL2.out]; exact hln2))).mono ?_
              rintro e v4 ⟨rfl, P4, hp4, hk4⟩
              have HB := Lib.hid (HP.out.out hk4 HB.out)
              have HP := Lib.hid hp4
              clear hp4 hk4
              go_wp2_with fail
              go_roundw
              case rel => exact Lib.hid ⟨j + 1, by go_num, by omega, _, _, _, _, HP.out.sub (fun x hx => by cases hx), HDK.out, feed_rok HEK.out b2, by omega, HB.out⟩
              case measure => simp [intOf]; omega
            · have hkb4 : (kd == 4) = false := by simpa using hk4
              clear hk1 hk2 hk3 hk4
              obtain ⟨b0, b1, hH2⟩ := HP.out.two (H := H2) (t := 72) (a := Value.int .i64 kd2) (b := Value.slice ao2 ln2 cp2) (by simp)
              have RD := Lib.hid (Below.rd HB.out HRD.out (Nat.le_refl _))
              have RD2 := Lib.hid (Below.rd HB.out HRD2.out (Nat.le_refl _))
              go_wp2_with fail
              refine (play_feedE HP.out HEK.out.dok HBL2.out RD2.out (by have := rok_short HEK.out; omega)).mono ?_
              rintro e v1 ⟨P1, ⟨u1, rfl, ho1, hu1, hk1, hj1⟩, hp1⟩
              have HB := Lib.hid (HP.out.out hk1 HB.out)
              have HP := Lib.hid hp1
              have OV := Lib.hid ho1
              have OV5 := Lib.hid hu1
              clear hp1 hk1 hj1 ho1 hu1 RD RD2 b0 b1 hH2
              obtain ⟨b0, b1, hH2⟩ := HP.out.two (H := H2) (t := 72) (a := Value.int .i64 kd2) (b := Value.slice ao2 ln2 cp2) (by simp)
              have RD := Lib.hid (Below.rd HB.out HRD.out (Nat.le_refl _))
              have RD2 := Lib.hid (Below.rd HB.out HRD2.out (Nat.le_refl _))
              go_wp2_with fail
              refine (play_feedT HP.out HEK.out.dok HBL2.out RD2.out (by have := rok_short HEK.out; omega)).mono ?_
              rintro e v2 ⟨⟨u2, rfl, ho2, hk2⟩, hp2⟩
              have HB := Lib.hid (HP.out.out hk2 HB.out)
              have OV := Lib.hid (OV.out.keep hk2 (fun g hg => HP.out.fam.off (i := 5) (by decide) g (OV5.out g hg)))
              have OU := Lib.hid ho2
              have HP := Lib.hid hp2
              clear hp2 hk2 ho2 RD RD2 b0 b1 hH2
              go_wp2_with fail
              refine (same_any _ _ _ _ OV.out OU.out).mono ?_
              rintro e v3 ⟨rfl, hb⟩
              have hk := Keep.of_below hb (Nat.le_refl _) (fun _ => False)
              have HP := Lib.hid (HP.out.below hb)
              have HB := Lib.hid (Below.trans HB.out (hb.mono HB.out.size))
              have OV := Lib.hid (OV.out.keep hk (fun _ _ => id))
              clear hb hk
              go_wp2_with fail
              refine (play_frames HP.out OV.out OV5.out (by omega) (feed_told HEK.out (by rw [HBL2.out]; exact hln2))).mono ?_
              rintro e v4 ⟨rfl, P4, hp4, hk4⟩
              have HB := Lib.hid (HP.out.out hk4 HB.out)
              have HP := Lib.hid hp4
              clear hp4 hk4
              go_wp2_with fail
              go_roundw
              case rel => exact Lib.hid ⟨j + 1, by go_num, by omega, _, _, _, _, HP.out.sub (fun x hx => by cases hx), HDK.out, feed_rok HEK.out b2, by omega, HB.out⟩
              case measure => simp [intOf]; omega
    · obtain rfl : j = n := by omega
      go_wp2_with fail
      refine (play_seen HP.out HDK.out).mono ?_
      rintro e y1 ⟨rfl, hb⟩
      have hk := Keep.of_below hb (Nat.le_refl _) (fun _ => False)
      have HP := Lib.hid (HP.out.below hb)
      have HB := Lib.hid (Below.trans HB.out (hb.mono HB.out.size))
      clear hb hk
      go_wp2_with fail
      refine (play_held HP.out).mono ?_
      rintro e y2 ⟨rfl, hb⟩
      have hk := Keep.of_below hb (Nat.le_refl _) (fun _ => False)
      have HP := Lib.hid (HP.out.below hb)
      have HB := Lib.hid (Below.trans HB.out (hb.mono HB.out.size))
      clear hb hk
      go_wp2_with fail
      refine (play_heldE HP.out).mono ?_
      rintro e y3 ⟨rfl, hb⟩
      have hk := Keep.of_below hb (Nat.le_refl _) (fun _ => False)
      have HP := Lib.hid (HP.out.below hb)
      have HB := Lib.hid (Below.trans HB.out (hb.mono HB.out.size))
      clear hb hk
      go_wp2_with fail
      refine (play_apart HP.out).mono ?_
      rintro e y4 ⟨rfl, hkk⟩
      have HB := Lib.hid (HP.out.out hkk HB.out)
      have HD := Lib.hid (HP.out.d.keep hkk (HP.out.fam.off (i := 0) (by decide)))
      have HR := Lib.hid (HP.out.r.keep hkk (HP.out.fam.off (i := 1) (by decide)))
      clear hkk
      go_wp2_with fail
      refine (dec_seen HD.out HR.out HDK.out).mono ?_
      rintro e y5 ⟨rfl, hb⟩
      have HD := Lib.hid (HD.out.keep (Keep.of_below hb (Nat.le_refl _) (fun _ => False)) (fun _ _ => id))
      have HR := Lib.hid (HR.out.keep (Keep.of_below hb (Nat.le_refl _) (fun _ => False)) (fun _ _ => id))
      have HB := Lib.hid (Below.trans HB.out (hb.mono HB.out.size))
      clear hb
      go_wp2_with fail
      refine (dec_held HD.out HR.out).mono ?_
      rintro e y6 ⟨rfl, hb⟩
      have HB := Lib.hid (Below.trans HB.out (hb.mono HB.out.size))
      clear hb
      go_wp2_with fail
      refine (alive_any _).mono ?_
      rintro e y7 ⟨rfl, hb⟩
      have HB := Lib.hid (Below.trans HB.out (hb.mono HB.out.size))
      clear hb
      go_wp2_with fail
      go_ret
      exact ⟨rfl, HB.out⟩
end Go.Proofs.YtmblghdiejneoaaGreat
