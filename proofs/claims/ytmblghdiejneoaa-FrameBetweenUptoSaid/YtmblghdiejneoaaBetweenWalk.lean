/- FrameBetween: the walk. -/
import Derived.Test.YtmblghdiejneoaaPair
import Derived.Test.YtmblghdiejneoaaCutsWalk
import Derived.Lib.SlBytesConst
namespace Go.Proofs.Ytmblghdiejneoaa
open Go.RowKit

def BtwRel (w2 : World) (B N : Nat) (bs : List (List UInt8)) (p i : Value) (wr : World) : Prop :=
  ∃ (j D : Nat) (r : Value), p = .pointer (some ⟨D, 0, none⟩) ∧ i = .int .i64 j ∧ j ≤ bs.length ∧ Live B N wr D r (feedF d0 (bs.take j).flatten).2 ∧ Keep (fun k => k = B ∨ N ≤ k) w2 wr

theorem feedF_take_rok (bs : List (List UInt8)) (h : bs.flatten.length ≤ 4611686018427387903) : ∀ j, ROk (feedF d0 (bs.take j).flatten).2 := by
  intro j
  have h1 := flatten_take_len bs j
  exact feedF_rok d0_rok _ rfl (by show 0 + _ ≤ _; omega)

theorem two_block {w : World} {D : Nat} {a b : Value} {t : TypeId} (h : w.heap[D]? = some (.cells #[a, b] t (0, 0))) :
    w.cell? ⟨D, 0, none⟩ = some a ∧ w.cell? ⟨D, 1, none⟩ = some b ∧ (∀ j, w.frozen? ⟨D, j, none⟩ = false) := by
  refine ⟨?_, ?_, fun j => ?_⟩ <;> simp [World.cell?, World.frozen?, h]

set_option maxRecDepth 100000 in
set_option maxHeartbeats 8000000 in
theorem between_any (w : World) (ao ac : Option Addr) (k c n cc : Nat) (b : List UInt8) (zs : List Int) (hbk : b.length = k) (hrb : Rd w ao b) (hkc : k ≤ c) (hk : k ≤ 1048576) (hz : IsRow .i64 w ac n cc zs) (hn : n ≤ 1048576) :
    Calls Try.prog 8 #[.slice ao k c, .slice ac n cc] w fun e w' => e = .returned (.bool true) ∧ Below w.heap.size w w' := by
  have HL := Lib.hid hbk
  have HR := Lib.hid hrb
  have hB1 := (Below.refl w.heap.size w).alloc (Nat.le_refl _) (.cells #[.bool true, .bool false, .int .i64 0, .int .i64 0, .int .i64 0, .slice none 0 0] 50)
  have hr1 := Below.rd hB1 hrb (Nat.le_refl _)
  have hz1' : IsRow .i64 (w.alloc (.cells #[.bool true, .bool false, .int .i64 0, .int .i64 0, .int .i64 0, .slice none 0 0] 50)) ac n cc zs := by
    rcases hz with h | ⟨x, rfl, h1, h2, h3, h4, h5⟩
    · exact .inl h
    · exact .inr ⟨x, rfl, h1, h2, h3, fun i hi => (hB1.cell (World.block_lt_of_cell? w _ (h4 i hi))).trans (h4 i hi), h5⟩
  have HP := Lib.hid (pieces_any _ ao ac k c n cc b zs hbk hr1 hkc hk hz1' hn)
  have HB1 := Lib.hid hB1
  have HD1 := Lib.hid (dec_new w)
  clear hbk hrb hB1 hr1 hz1' hz
  have heq := eq_span'
  go_enter Try.func8, Try.ntmps8
  go_wp2_with fail
  refine (new_any w).mono ?_
  rintro e w1 ⟨rfl, hw1⟩
  rw [hw1] at HP HB1 HD1
  have hs1 : w1.heap.size = w.heap.size + 1 := by rw [← hw1]; simp
  clear hw1
  go_wp2_with fail
  refine HP.out.mono ?_
  rintro e w2 ⟨pv, bs, rfl, hbs, hfl, hpa, hb2⟩
  obtain ⟨vs, hown, hpcs, hge⟩ := hpa
  have hN := hb2.size
  have hk12 := Keep.of_below hb2 (Nat.le_refl _) (fun _ => False)
  have hD2 := HD1.out.keep hk12 id (fun _ h => (nomatch h))
  have hst := Lib.hid (show BtwRel w2 w.heap.size w2.heap.size bs (.pointer (some ⟨w.heap.size, 0, none⟩)) (.int .i64 0) w2 from ⟨0, w.heap.size, .slice none 0 0, rfl, rfl, Nat.zero_le _, by rw [List.take_zero, List.flatten_nil, feedF_nil0]; exact ⟨hD2, .inl rfl, fun _ h => (nomatch h)⟩, Keep.refl _ _⟩)
  have HD2 := Lib.hid hD2
  have HK12 := Lib.hid hk12
  have HBS := Lib.hid hbs
  have HFL := Lib.hid hfl
  have HPC := Lib.hid hpcs
  have HGE := Lib.hid hge
  have HROK := Lib.hid (feedF_take_rok bs (by rw [hfl, HL.out]; omega))
  rw [hbs] at hown
  have HO := Lib.hid hown
  obtain ⟨pa, pc, hpv, hpg⟩ := own_shape hown
  subst hpv
  have HBW := Lib.hid (show Below w.heap.size w w2 from Below.next HB1.out hb2)
  clear hb2 hfl hpcs hge hown hD2 hpg HP hk12 hbs
  go_wp2_with fail
  go_loopw [5, 7] (fun p i wr => Hid (BtwRel w2 w.heap.size w2.heap.size bs p i wr)) (fun _ i _ => n + 1 - (intOf i).toNat)
  case atStart => exact hst
  case round =>
    obtain ⟨j, D, r, rfl, rfl, hj, hlive, hkp⟩ := hrel.out
    rw [HBS.out] at hj
    have haL := flatten_take_len bs j
    rw [HFL.out, HL.out] at haL
    have hrok := HROK.out j
    obtain ⟨hcl, hfed⟩ := feedF_st d0 (bs.take j).flatten rfl (by show 0 + _ ≤ _; omega)
    rw [show d0.fed = 0 from rfl, Nat.zero_add] at hfed
    obtain ⟨hL1, hL2⟩ := feedF_len d0 (bs.take j).flatten
    rw [show d0.rest.length = 0 from rfl, Nat.zero_add] at hL1 hL2
    have HADD := Lib.hid (fun x hx => feedF_append d0 (bs.take j).flatten x rfl (Nat.le_refl _) hx)
    have HK := Lib.hid hkp
    have hwr := hkp.size
    generalize hd : (feedF d0 (bs.take j).flatten).2 = d at *
    generalize hAl : (bs.take j).flatten.length = al at *
    have HOK := Lib.hid hrok
    have HLV := Lib.hid hlive
    have HHELD := Lib.hid (held_any wr D r d hlive.dec)
    have HHD := Lib.hid hd
    have hDlt := hlive.dec.lt
    clear hlive hkp hrel hrok hL1 hd
    by_cases hlt : j < n + 1
    · obtain ⟨x, hx⟩ : ∃ x, bs[j]? = some x := ⟨bs[j]'(by rw [HBS.out]; exact hlt), List.getElem?_eq_getElem _⟩
      obtain ⟨xa, xc, hxv, hxr, hxc⟩ := HPC.out.get j x hx
      obtain ⟨g, c2, hpv, hcell⟩ := own_cell HO.out hxv
      cases hpv
      have hg1 : w1.heap.size ≤ g := HGE.out g rfl
      have hg2 : g < w2.heap.size := HO.out.lt g rfl
      have hx2 : Rd w2 xa x := HK12.out.rd hxr (fun _ _ _ => id)
      have hxw : ∀ wz, Keep (fun k => k = w.heap.size ∨ w2.heap.size ≤ k) w2 wz → Rd wz xa x ∧ wz.cell? ⟨g, j, none⟩ = some (.slice xa x.length xc) := fun wz hkz => ⟨hkz.rd' hx2 (fun hne b' o' ha => by
        have h1 := HD2.out.no_rd hx2 hne b' o' ha
        obtain ⟨b3, o3, h3, h4⟩ := hx2.lt hne
        rw [ha] at h3
        cases h3
        omega), hkz.cell hcell (by simp only; omega)⟩
      have HXW := Lib.hid hxw
      have hal2 := flatten_take_len bs (j + 1)
      have hsucc := flatten_take_succ hx
      rw [HFL.out, HL.out, hsucc, List.length_append, hAl] at hal2
      have hadx := HADD.out x (by rw [show d0.fed = 0 from rfl]; omega)
      rw [← hsucc] at hadx
      have HNEXT := Lib.hid (show (feedF d0 (bs.take (j + 1)).flatten).2 = (feedF d x).2 from by rw [hadx])
      have hrok2 := HROK.out (j + 1)
      rw [HNEXT.out] at hrok2
      have HOK2 := Lib.hid hrok2
      clear hxv hxr hcell hx2 hxw hadx hrok2 hsucc HADD
      have hst2 := feedF_st d x hcl (by omega)
      have hyl := (feedF_len d x).1
      generalize hS : (⟨d.rest.toArray⟩ : ByteArray) = S at *
      have hres := fun W => resume_any W d HOK.out (by omega)
      have hheld := HHELD.out
      rw [hfed, hcl] at hheld
      simp only [hfed, hcl, hS] at hres
      have HRES := Lib.hid hres
      have HHELD2 := Lib.hid hheld
      have HFED := Lib.hid hfed
      have HCL := Lib.hid hcl
      clear hres hheld HHELD hfed hcl hS
      generalize hy : feedF d x = y at *
      obtain ⟨ya, yd⟩ := y
      simp only at hst2 hyl HNEXT HOK2
      have HYC := Lib.hid hst2.1
      have HY := Lib.hid hy
      clear hst2 hy
      go_wp2_with fail
      refine HHELD2.out.mono ?_
      rintro e w3 ⟨rfl, hb3⟩
      have HB3 := Lib.hid hb3
      clear hb3
      go_wp2_with fail
      refine (HRES.out _).mono ?_
      rintro e w5 ⟨C, q, rfl, hdc, hC, hq, hb5⟩
      have hsz3 := HB3.out.size
      have hb35 : Below wr.heap.size wr w5 := Below.next (HB3.out.alloc hsz3 _) hb5
      have hsz5 := hb35.size
      have hC' : w3.heap.size + 1 ≤ C := by simpa using hC
      have hq' : ∀ g, q.ownBlock = some g → w3.heap.size + 1 ≤ g := fun g hg => by simpa using hq g hg
      have hpair := HLV.out.pair hwr hb35 hdc (by omega) (fun g hg => by have := hq' g hg; omega)
      have hk5 : Keep (fun k => k = w.heap.size ∨ w2.heap.size ≤ k) w2 w5 := HK.out.trans (Keep.of_below hb35 (Nat.le_refl _) (fun _ => False)) (fun _ _ h => h) (fun _ _ h => h.elim)
      have hx5 := HXW.out w5 hk5
      have HF1 := Lib.hid (feed_any w5 D r d xa x.length xc x hpair.a.dec HOK.out.dok rfl hx5.1 (hpair.a.dec.no_rd hx5.1) (by omega))
      rw [HY.out] at HF1
      have hcell5 := hx5.2
      have HPAIR := Lib.hid hpair
      have HK5 := Lib.hid hk5
      have hC5 := hdc.lt
      have hq5 := Lib.hid hdc.own
      clear hb5 hb35 hdc hC hq hq' hpair hk5 hx5
      go_wp2_with fail
      refine HF1.out.mono ?_
      rintro e w6 hp6
      obtain ⟨v6, r6, rfl, ho6, hpair6, hk6, hkr6, hv6⟩ := HPAIR.out.feed (by omega) hp6
      obtain ⟨a6, c6, rfl, _⟩ := own_shape ho6
      have hk6' := HK5.out.trans hk6 (Z := fun k => k = w.heap.size ∨ w2.heap.size ≤ k) (fun _ _ h => h) (fun _ _ h => h)
      have hx6 := HXW.out w6 hk6'
      have hcell6 := hx6.2
      have hsz6 := hk6.size
      have HF2 := Lib.hid (feed_any w6 C q d xa x.length xc x hpair6.b.dec HOK.out.dok rfl hx6.1 (hpair6.b.dec.no_rd hx6.1) (by omega))
      rw [HY.out] at HF2
      have HO6 := Lib.hid ho6
      have HV6 := Lib.hid hv6
      have HPAIR6 := Lib.hid hpair6.swap
      have HK6 := Lib.hid hk6'
      clear hp6 ho6 hpair6 hk6 hkr6 hv6 hk6' hx6 HF1
      go_wp2_with fail
      refine HF2.out.mono ?_
      rintro e w7 hp7
      obtain ⟨v7, q7, rfl, ho7, hpair7, hk7, hkr7, hv7⟩ := HPAIR6.out.feed (by omega) hp7
      obtain ⟨a7, c7, rfl, _⟩ := own_shape ho7
      have ho67 := HO6.out.keep hkr7 (fun g hg hx => by
        have h1 := HV6.out g hg
        rcases hx with rfl | hx
        · omega
        · have := hq5.out.lt g hx; omega)
      have HSAME := Lib.hid (same_any w7 _ _ ya ho67 ho7)
      have HPAIR7 := Lib.hid hpair7
      have HK7 := Lib.hid (HK6.out.trans hk7 (Z := fun k => k = w.heap.size ∨ w2.heap.size ≤ k) (fun _ _ h => h) (fun _ _ h => h))
      have hsz7 := hk7.size
      clear hp7 ho7 hpair7 hk7 hkr7 hv7 ho67 HF2
      go_wp2_with fail
      refine HSAME.out.mono ?_
      rintro e w8 ⟨rfl, hb8⟩
      have hpair8 := HPAIR7.out.below hb8
      have HH1 := Lib.hid (held_any w8 C q7 yd hpair8.a.dec)
      have hsz8 := hb8.size
      have HK8 := Lib.hid (HK7.out.trans (Keep.of_below hb8 (Nat.le_refl _) (fun _ => False)) (Z := fun k => k = w.heap.size ∨ w2.heap.size ≤ k) (fun _ _ h => h) (fun _ _ h => h.elim))
      have HPAIR8 := Lib.hid hpair8
      generalize hS2 : (⟨yd.rest.toArray⟩ : ByteArray) = S2 at *
      rw [HYC.out] at HH1
      have HS2 := Lib.hid hS2
      clear hS2
      clear hb8 hpair8 HSAME
      go_wp2_with fail
      refine HH1.out.mono ?_
      rintro e w9 ⟨rfl, hb9⟩
      have hsz9 := hb9.size
      have hba := hb9.alloc hsz9 (.cells #[.int .i64 yd.ba, .int .i64 yd.bs] 31)
      have hpair10 := HPAIR8.out.below hba
      have hh2 := held_any (w9.alloc (.cells #[.int .i64 yd.ba, .int .i64 yd.bs] 31)) D r6 yd hpair10.b.dec
      rw [HS2.out, HYC.out] at hh2
      have HH2 := Lib.hid hh2
      have HPAIR10 := Lib.hid hpair10
      have hnw := heap_alloc_new w9 (.cells #[.int .i64 yd.ba, .int .i64 yd.bs] 31)
      have HNW := Lib.hid hnw
      have HKA := Lib.hid (HK8.out.trans (Keep.of_below hba (Nat.le_refl _) (fun _ => False)) (Z := fun k => k = w.heap.size ∨ w2.heap.size ≤ k) (fun _ _ h => h) (fun _ _ h => h.elim))
      clear hb9 hba hpair10 hh2 hnw HH1
      go_wp2_with fail
      refine HH2.out.mono ?_
      rintro e w11 ⟨rfl, hb11⟩
      have hsz11 := hb11.size
      obtain ⟨c0, c1, _⟩ := two_block ((Keep.of_below hb11 (Nat.le_refl _) (fun _ => False)).old HNW.out id)
      have hd9 : w9.heap.size < w11.heap.size := World.block_lt_of_cell? w11 _ c0
      have hq1 : bqS yd.ba yd.ba yd.bs yd.bs = true := by simp [bqS]
      have hb12 := hb11.alloc hsz11 (.cells #[.int .i64 yd.ba, .int .i64 yd.bs] 31)
      have HPAIR12 := Lib.hid (HPAIR10.out.below hb12)
      have HK12' := Lib.hid (HKA.out.trans (Keep.of_below hb12 (Nat.le_refl _) (fun _ => False)) (Z := fun k => k = w.heap.size ∨ w2.heap.size ≤ k) (fun _ _ h => h) (fun _ _ h => h.elim))
      clear hb11 hb12 HH2
      have hrl : ∀ (E : Nat) (re : Value), Live w.heap.size w2.heap.size (w11.alloc (.cells #[.int .i64 yd.ba, .int .i64 yd.bs] 31)) E re yd → Hid (BtwRel w2 w.heap.size w2.heap.size bs (.pointer (some ⟨E, 0, none⟩)) (.int .i64 ((j + 1 : Nat) : Int)) (w11.alloc (.cells #[.int .i64 yd.ba, .int .i64 yd.bs] 31))) :=
        fun E re hE => Lib.hid ⟨j + 1, E, re, rfl, rfl, by rw [HBS.out]; omega, by rw [HNEXT.out]; exact hE, HK12'.out⟩
      have HRC := hrl C q7 HPAIR12.out.a
      have HRD := hrl D r6 HPAIR12.out.b
      clear hrl
      go_wp2_with fail
      · go_roundw
        case rel => exact HRC
        case measure => simp [intOf]; omega
      · go_roundw
        case rel => exact HRD
        case measure => simp [intOf]; omega
    · have hall : (bs.take j).flatten = b := by
        have : bs.take j = bs := List.take_of_length_le (by rw [HBS.out]; omega)
        rw [this, HFL.out]
      rw [hall] at hAl
      have hak : al = k := by rw [← hAl, HL.out]
      subst hak
      have hst2 := closeF_st d hcl
      rw [hfed] at hst2
      generalize hS : (⟨d.rest.toArray⟩ : ByteArray) = S at *
      have hres := fun W => resume_any W d HOK.out (by omega)
      have hheld := HHELD.out
      rw [hfed, hcl] at hheld
      simp only [hfed, hcl, hS] at hres
      have HRES := Lib.hid hres
      have HHELD2 := Lib.hid hheld
      have HFED := Lib.hid hfed
      have HCL := Lib.hid hcl
      clear hres hheld HHELD hfed hcl hS hall HADD
      generalize hz : closeF d = z at *
      obtain ⟨za, zd⟩ := z
      simp only at hst2
      subst hst2
      have HZ := Lib.hid hz
      clear hz
      go_wp2_with fail
      refine HHELD2.out.mono ?_
      rintro e w3 ⟨rfl, hb3⟩
      have HB3 := Lib.hid hb3
      clear hb3
      go_wp2_with fail
      refine (HRES.out _).mono ?_
      rintro e w5 ⟨C, q, rfl, hdc, hC, hq, hb5⟩
      have hsz3 := HB3.out.size
      have hb35 : Below wr.heap.size wr w5 := Below.next (HB3.out.alloc hsz3 _) hb5
      have hsz5 := hb35.size
      have hC' : w3.heap.size + 1 ≤ C := by simpa using hC
      have hq' : ∀ g, q.ownBlock = some g → w3.heap.size + 1 ≤ g := fun g hg => by simpa using hq g hg
      have hpair := HLV.out.pair hwr hb35 hdc (by omega) (fun g hg => by have := hq' g hg; omega)
      have hA5 := (Keep.of_below hb5 (Nat.le_refl _) (fun _ => False)).old (heap_alloc_new w3 (.cells #[.int .i64 d.ba, .int .i64 d.bs] 31)) id
      have hk5 : Keep (fun k => k = w.heap.size ∨ w2.heap.size ≤ k) w2 w5 := HK.out.trans (Keep.of_below hb35 (Nat.le_refl _) (fun _ => False)) (fun _ _ h => h) (fun _ _ h => h.elim)
      have HF1 := Lib.hid (close_any w5 C q d hpair.b.dec HOK.out.dok (by omega))
      rw [HZ.out] at HF1
      have HPAIR := Lib.hid hpair.swap
      have HK5 := Lib.hid hk5
      have HA5 := Lib.hid hA5
      have hC5 := hdc.lt
      have hrlt := Lib.hid (HLV.out.dec.own.lt)
      have HQ := Lib.hid hq'
      clear hb5 hb35 hdc hC hq hq' hpair hk5 hA5
      go_wp2_with fail
      refine HF1.out.mono ?_
      rintro e w6 hp6
      obtain ⟨v6, q6, rfl, ho6, hpair6, hk6, hkr6, hv6⟩ := HPAIR.out.feed (by omega) hp6
      obtain ⟨a6, c6, rfl, _⟩ := own_shape ho6
      have hsz6 := hk6.size
      have HF2 := Lib.hid (close_any w6 D r d hpair6.b.dec HOK.out.dok (by omega))
      rw [HZ.out] at HF2
      have HO6 := Lib.hid ho6
      have HV6 := Lib.hid hv6
      have HA6 := Lib.hid (hkr6.old HA5.out (by
        rintro (h | h)
        · omega
        · have := HQ.out _ h; omega))
      have HPAIR6 := Lib.hid hpair6.swap
      have HK6 := Lib.hid (HK5.out.trans hk6 (Z := fun k => k = w.heap.size ∨ w2.heap.size ≤ k) (fun _ _ h => h) (fun _ _ h => h))
      clear hp6 ho6 hpair6 hk6 hkr6 hv6 HF1
      go_wp2_with fail
      refine HF2.out.mono ?_
      rintro e w7 hp7
      obtain ⟨v7, r7, rfl, ho7, hpair7, hk7, hkr7, hv7⟩ := HPAIR6.out.feed (by omega) hp7
      obtain ⟨a7, c7, rfl, _⟩ := own_shape ho7
      have ho67 := HO6.out.keep hkr7 (fun g hg hx => by
        have h1 := HV6.out g hg
        rcases hx with rfl | hx
        · omega
        · have := hrlt.out g hx; omega)
      have HSAME := Lib.hid (same_any w7 _ _ za ho67 ho7)
      have HPAIR7 := Lib.hid hpair7
      have HA7 := Lib.hid (hkr7.old HA6.out (by
        rintro (h | h)
        · omega
        · have := hrlt.out _ h; omega))
      have HK7 := Lib.hid (HK6.out.trans hk7 (Z := fun k => k = w.heap.size ∨ w2.heap.size ≤ k) (fun _ _ h => h) (fun _ _ h => h))
      have hsz7 := hk7.size
      clear hp7 ho7 hpair7 hk7 hkr7 hv7 ho67 HF2
      go_wp2_with fail
      refine HSAME.out.mono ?_
      rintro e w8 ⟨rfl, hb8⟩
      have hpair8 := HPAIR7.out.below hb8
      have HH1 := Lib.hid (held_any w8 D r7 ⟨true, al, 0, 0, []⟩ hpair8.a.dec)
      have hsz8 := hb8.size
      have HK8 := Lib.hid (HK7.out.trans (Keep.of_below hb8 (Nat.le_refl _) (fun _ => False)) (Z := fun k => k = w.heap.size ∨ w2.heap.size ≤ k) (fun _ _ h => h) (fun _ _ h => h.elim))
      have HA8 := Lib.hid ((Keep.of_below hb8 (Nat.le_refl _) (fun _ => False)).old HA7.out id)
      clear hb8 hpair8 HSAME
      go_wp2_with fail
      refine HH1.out.mono ?_
      rintro e w9 ⟨rfl, hb9⟩
      have hA9 := (Keep.of_below hb9 (Nat.le_refl _) (fun _ => False)).old HA8.out id
      obtain ⟨c0, c1, cf⟩ := two_block hA9
      have HK9 := Lib.hid (HK8.out.trans (Keep.of_below hb9 (Nat.le_refl _) (fun _ => False)) (Z := fun k => k = w.heap.size ∨ w2.heap.size ≤ k) (fun _ _ h => h) (fun _ _ h => h.elim))
      have HA9 := Lib.hid hA9
      have hsz9 := hb9.size
      clear hA9 hb9 HH1
      go_wp2_with fail
      have hA10 := row_set (row_set HA9.out 0 (.int .i64 0)) 1 (.int .i64 0)
      have hk10 : Keep (fun k => k = w.heap.size ∨ w2.heap.size ≤ k) w2 ((w9.setCell ⟨w3.heap.size, 0, none⟩ (.int .i64 0)).setCell ⟨w3.heap.size, 1, none⟩ (.int .i64 0)) :=
        HK9.out.trans ((Keep.setCell w9 w3.heap.size 0 (.int .i64 0)).trans (Keep.setCell _ w3.heap.size 1 (.int .i64 0)) (Z := (· = w3.heap.size)) (fun _ _ h => h) (fun _ _ h => h)) (fun _ _ h => h) (fun k _ h => .inr (by subst h; omega))
      have HA10 := Lib.hid hA10
      have HK10 := Lib.hid hk10
      generalize (w9.setCell ⟨w3.heap.size, 0, none⟩ (.int .i64 0)).setCell ⟨w3.heap.size, 1, none⟩ (.int .i64 0) = W10 at *
      clear hA10 hk10 c0 c1 cf
      refine (resume_closed W10 al (by omega)).mono ?_
      rintro e w11 ⟨C2, q2, rfl, hdc2, hC2, hq2, hb11⟩
      have hA11 := (Keep.of_below hb11 (Nat.le_refl _) (fun _ => False)).old HA10.out id
      obtain ⟨e0, e1, ef⟩ := two_block (a := .int .i64 0) (b := .int .i64 0) (by simpa using hA11)
      have hd11 : w3.heap.size < w11.heap.size := World.block_lt_of_cell? w11 _ e0
      have hsz10 := HK10.out.size
      have hsz11 := hb11.size
      have HK11 := Lib.hid (HK10.out.trans (Keep.of_below hb11 (Nat.le_refl _) (fun _ => False)) (Z := fun k => k = w.heap.size ∨ w2.heap.size ≤ k) (fun _ _ h => h) (fun _ _ h => h.elim))
      have HDC := Lib.hid hdc2
      have HQ2 := Lib.hid hq2
      have hqz : bqS 0 0 0 0 = true := by simp [bqS]
      have hsame := fun (w : World) (C : Array Value) (n c : Nat) => Lib.run_convert_bytes_const (P := Try.prog) w 28 5 C n c Try.underlying28 Try.underlying5
      clear hA11 hb11 hdc2 hq2
      go_wp2_with fail
      refine (feed_closed _ C2 q2 ⟨true, al, 0, 0, []⟩ _ _ _ (HDC.out.keep (Keep.alloc (fun _ => False) _ _) id (fun _ _ => id)) rfl).mono ?_
      rintro e w12 ⟨v12, r12, rfl, ho12, _, hk12, _, _, _⟩
      obtain ⟨a12, c12, rfl, _⟩ := own_shape ho12
      have HK12' := Lib.hid ((HK11.out.trans (Keep.alloc (fun _ => False) _ _) (Z := fun k => k = w.heap.size ∨ w2.heap.size ≤ k) (fun _ _ h => h) (fun _ _ h => h.elim)).trans hk12 (Z := fun k => k = w.heap.size ∨ w2.heap.size ≤ k) (fun _ _ h => h) (fun k _ h => .inr (by
        rcases h with rfl | h
        · omega
        · have := HQ2.out k h; omega)))
      have HB12 := Lib.hid (HBW.out.trans (HK12'.out.below (B := w.heap.size) (by omega) (fun i hi h => by omega)))
      clear ho12 hk12
      go_wp2_with fail
      refine (alive_any _).mono ?_
      rintro e w13 ⟨rfl, hb13⟩
      have HB13 := Lib.hid (Below.next HB12.out hb13)
      clear hb13
      go_wp2_with fail
      go_ret
      exact ⟨rfl, HB13.out⟩
end Go.Proofs.Ytmblghdiejneoaa
