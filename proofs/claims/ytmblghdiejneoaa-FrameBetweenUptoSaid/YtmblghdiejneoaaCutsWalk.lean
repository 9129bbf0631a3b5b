/- FrameCuts: the walk. -/
import Derived.Test.YtmblghdiejneoaaCuts
namespace Go.Proofs.Ytmblghdiejneoaa
open Go.RowKit

def CutRel (w2 : World) (D N : Nat) (bs : List (List UInt8)) (l f i : Value) (wr : World) : Prop :=
  ∃ (j : Nat) (r : Value), i = .int .i64 j ∧ j ≤ bs.length ∧ f = .int .i64 ((bs.take j).flatten.length : Int) ∧ Told N wr D r l (feedF d0 (bs.take j).flatten).1 (feedF d0 (bs.take j).flatten).2 ∧ Keep (fun k => k = D ∨ N ≤ k) w2 wr

theorem flatten_take_len (bs : List (List UInt8)) (j : Nat) : (bs.take j).flatten.length ≤ bs.flatten.length := by
  conv => rhs; rw [← List.take_append_drop j bs]
  rw [List.flatten_append, List.length_append]
  omega
theorem flatten_take_succ {bs : List (List UInt8)} {j : Nat} {b : List UInt8} (h : bs[j]? = some b) : (bs.take (j + 1)).flatten = (bs.take j).flatten ++ b := by
  obtain ⟨hj, rfl⟩ := List.getElem?_eq_some_iff.1 h
  rw [List.take_succ_eq_append_getElem hj, List.flatten_append]
  simp
theorem own_cell {w : World} {v : Value} {n : Nat} {vs : List Value} (h : Own w 1 v n vs) {j : Nat} {u : Value} (hu : vs[j]? = some u) : ∃ g c, v = .slice (some ⟨g, 0, none⟩) n c ∧ w.cell? ⟨g, j, none⟩ = some u := by
  have hj := (List.getElem?_eq_some_iff.1 hu).1
  rw [h.1] at hj
  rcases h.2 with ⟨rfl, rfl⟩ | ⟨g, c, rfl, _, _, hr⟩
  · omega
  · exact ⟨g, c, rfl, hr.cell j u hu⟩

set_option maxRecDepth 100000 in
set_option maxHeartbeats 4000000 in
theorem cuts_any (w : World) (ao ac : Option Addr) (k c n cc : Nat) (b : List UInt8) (zs : List Int) (hbk : b.length = k) (hrb : Rd w ao b) (hkc : k ≤ c) (hk : k ≤ 1048576) (hz : IsRow .i64 w ac n cc zs) (hn : n ≤ 1048576) :
    Calls Try.prog 6 #[.slice ao k c, .slice ac n cc] w fun e w' => e = .returned (.bool true) ∧ Below w.heap.size w w' := by
  obtain ⟨i5, hi, hz0, hz1, hz2⟩ := info_parts info_frame
  have HL := Lib.hid hbk
  have HR := Lib.hid hrb
  have hB1 := (Below.refl w.heap.size w).alloc (Nat.le_refl _) (.cells #[.bool true, .bool false, .int .i64 0, .int .i64 0, .int .i64 0, .slice none 0 0] 50)
  have hr1 := Below.rd hB1 hrb (Nat.le_refl _)
  have hz1' : IsRow .i64 (w.alloc (.cells #[.bool true, .bool false, .int .i64 0, .int .i64 0, .int .i64 0, .slice none 0 0] 50)) ac n cc zs := by
    rcases hz with h | ⟨x, rfl, h1, h2, h3, h4, h5⟩
    · exact .inl h
    · exact .inr ⟨x, rfl, h1, h2, h3, fun i hi => (hB1.cell (World.block_lt_of_cell? w _ (h4 i hi))).trans (h4 i hi), h5⟩
  have HP := Lib.hid (pieces_any _ ao ac k c n cc b zs hbk hr1 hkc hk hz1' hn)
  have HB1 := Lib.hid hB1
  have HD1 := Lib.hid (dec_new w)
  clear hbk hrb hB1 hr1 hz1' hz
  go_enter Try.func6, Try.ntmps6
  go_wp2_with fail
  refine (new_any w).mono ?_
  rintro e w1 ⟨rfl, hw1⟩
  rw [hw1] at HP HB1 HD1
  have hs1 : w1.heap.size = w.heap.size + 1 := by rw [← hw1]; simp
  clear hw1
  go_wp2_with fail
  refine HP.out.mono ?_
  rintro e w2 ⟨pv, bs, rfl, hbs, hfl, hpa, hb2⟩
  obtain ⟨vs, hown, hpcs, hge⟩ := hpa
  have hN := hb2.size
  have hk12 := Keep.of_below hb2 (Nat.le_refl _) (fun _ => False)
  have hD2 := HD1.out.keep hk12 id (fun _ h => (nomatch h))
  have htold : Told w2.heap.size w2 w.heap.size (.slice none 0 0) (.slice none 0 0) [] d0 := ⟨hD2, Own.nil _ _, fun _ h => (nomatch h), fun _ h => (nomatch h), fun _ h => (nomatch h)⟩
  have hst := Lib.hid (show CutRel w2 w.heap.size w2.heap.size bs (.slice none 0 0) (.int .i64 0) (.int .i64 0) w2 from ⟨0, .slice none 0 0, rfl, Nat.zero_le _, rfl, by rw [List.take_zero, List.flatten_nil, feedF_nil0]; exact htold, Keep.refl _ _⟩)
  have HD2 := Lib.hid hD2
  have HK12 := Lib.hid hk12
  have HBS := Lib.hid hbs
  have HFL := Lib.hid hfl
  have HPC := Lib.hid hpcs
  have HGE := Lib.hid hge
  have HVL := Lib.hid hpcs.len
  rw [hbs] at hown
  have HO := Lib.hid hown
  obtain ⟨pa, pc, hpv, hpg⟩ := own_shape hown
  subst hpv
  have HPG := Lib.hid hpg
  have HBW := Lib.hid (show Below w.heap.size w w2 from Below.next HB1.out hb2)
  clear hb2 hfl hpcs hge hown hD2 htold hpg HP hk12 hbs
  go_wp2_with fail
  go_loopw [6, 8, 9] (fun l f i wr => Hid (CutRel w2 w.heap.size w2.heap.size bs l f i wr)) (fun _ _ i _ => n + 1 - (intOf i).toNat)
  case atStart => exact hst
  case round =>
    obtain ⟨j, r, rfl, hj, rfl, htold, hkp⟩ := hrel.out
    rw [HBS.out] at hj
    have haL := flatten_take_len bs j
    rw [HFL.out, HL.out] at haL
    have hdok := feedF_ok d0_ok (bs.take j).flatten
    obtain ⟨hcl, hfed⟩ := feedF_st d0 (bs.take j).flatten rfl (by show 0 + _ ≤ _; omega)
    rw [show d0.fed = 0 from rfl, Nat.zero_add] at hfed
    obtain ⟨hL1, hL2⟩ := feedF_len d0 (bs.take j).flatten
    rw [show d0.rest.length = 0 from rfl, Nat.zero_add] at hL1 hL2
    have hadd := fun x hx => feedF_append d0 (bs.take j).flatten x rfl (Nat.le_refl _) hx
    have HK := Lib.hid hkp
    have hwr := hkp.size
    have hfd := Lib.hid (show CutRel w2 w.heap.size w2.heap.size bs _ _ _ _ from hrel.out)
    have HADD := Lib.hid hadd
    generalize hd : (feedF d0 (bs.take j).flatten).2 = d at *
    generalize hLL : (feedF d0 (bs.take j).flatten).1 = L at *
    have HDOK := Lib.hid hdok
    have HT := Lib.hid htold
    have HFED := Lib.hid hfed
    clear htold hkp hrel hdok hadd hfd
    generalize hAl : (bs.take j).flatten.length = al at *
    by_cases hlt : j < n + 1
    · obtain ⟨x, hx⟩ : ∃ x, bs[j]? = some x := ⟨bs[j]'(by rw [HBS.out]; exact hlt), List.getElem?_eq_getElem _⟩
      obtain ⟨xa, xc, hxv, hxr, hxc⟩ := HPC.out.get j x hx
      obtain ⟨g, c2, hpv, hcell⟩ := own_cell HO.out hxv
      cases hpv
      have hg1 : w1.heap.size ≤ g := HGE.out g rfl
      have hg2 : g < w2.heap.size := HO.out.lt g rfl
      have hcr : wr.cell? ⟨g, j, none⟩ = some (.slice xa x.length xc) := HK.out.cell hcell (by simp only; omega)
      have hx2 : Rd w2 xa x := HK12.out.rd hxr (fun _ _ _ => id)
      have hxw : Rd wr xa x := HK.out.rd' hx2 (fun hne b' o' ha => by
        have h1 := HD2.out.no_rd hx2 hne b' o' ha
        obtain ⟨b3, o3, h3, h4⟩ := hx2.lt hne
        rw [ha] at h3
        cases h3
        omega)
      have hal2 := flatten_take_len bs (j + 1)
      have hsucc := flatten_take_succ hx
      rw [HFL.out, HL.out, hsucc, List.length_append, hAl] at hal2
      have hfeed := Lib.hid (feed_any wr w.heap.size r d xa x.length xc x HT.out.dec HDOK.out rfl hxw (HT.out.dec.no_rd hxw) (by omega))
      have hadx := HADD.out x (by rw [show d0.fed = 0 from rfl]; omega)
      have hyl := feedF_len d x
      rw [← hsucc] at hadx
      have hst2 := feedF_st d x hcl (by omega)
      generalize hy : feedF d x = y at *
      have HST2 := Lib.hid hst2
      have HAX := Lib.hid hadx
      have HSU := Lib.hid hsucc
      have hyl1 := hyl.1
      have hyl2 := hyl.2
      have HCELL := Lib.hid hcell
      clear hxv hxr hcell hx2 hxw hadx hst2 hyl
      go_wp2_with fail
      refine hfeed.out.mono ?_
      rintro e w3 hp3
      obtain ⟨v3, r3, rfl, ho3, hl3, hsz3, hstep⟩ := HT.out.more hwr (by omega) hp3
      obtain ⟨va, vc, hv3, _⟩ := own_shape ho3
      subst hv3
      have HO3 := Lib.hid ho3
      have HL3 := Lib.hid hl3
      have HSTEP := Lib.hid hstep
      clear ho3 hl3 hstep hp3
      go_wp2_with (at_builtin; refine wpList_append_slice rfl (.tmp 26) (.tmp 32) 26 26 rfl 33 i5 zeroFrame 4 40 Try.underlying26 hi hz0 hz1 hz2 rfl _ L.length (fcells L) rfl HL3.out (.slice va _ vc) _ (fcells y.1) rfl (Src.own Try.underlying26 HO3.out (fcells_oneCell _)) (by unfold maxLen; omega) (by omega) ?_)
      intro l4 c4 w4 ho4 hk4 hb4
      obtain ⟨ht4, hk34⟩ := HSTEP.out _ _ ho4 hk4 hb4
      have HK4 := Lib.hid (HK.out.trans hk34 (Z := fun k => k = w.heap.size ∨ w2.heap.size ≤ k) (fun _ _ h => h) (fun _ _ h => h))
      have hcr4 : w4.cell? ⟨g, j, none⟩ = some (.slice xa x.length xc) := HK4.out.cell HCELL.out (by simp only; omega)
      have HT4 := Lib.hid ht4
      obtain ⟨ya, yf⟩ := y
      simp only at HST2 hyl1 hyl2 HT4 HAX
      have hyfed : yf.fed = al + x.length := by rw [HST2.out.2, HFED.out]
      have hseen := seen_any w4 w.heap.size r3 yf HT4.out.dec (by omega) (by omega)
      have hq : yf.fed - yf.rest.length ≤ al + x.length := by omega
      rw [hyfed] at hseen hq
      generalize al + x.length - yf.rest.length = q at *
      have HSEEN := Lib.hid hseen
      have hrel4 : ∀ m, CutRel w2 w.heap.size w2.heap.size bs (.slice l4 (L.length + ya.length) c4) (.int .i64 ((al + x.length : Nat) : Int)) (.int .i64 ((j + 1 : Nat) : Int)) (w4.drewN m) := by
        intro m
        have hkd : Keep (fun _ => False) w4 (w4.drewN m) := Keep.of_below (below_drewN (Below.refl _ _) _) (Nat.le_refl _) _
        refine ⟨j + 1, r3, rfl, by rw [HBS.out]; omega, by rw [HSU.out, List.length_append, hAl], ?_, HK4.out.trans hkd (fun _ _ h => h) (fun _ _ h => h.elim)⟩
        rw [HAX.out]
        exact HT4.out.keep hkd id (fun _ _ _ => id)
      have HREL4 := Lib.hid hrel4
      clear ho4 hk4 hb4 ht4 hk34 hyfed hseen hrel4 hfeed HADD
      go_wp2_with fail
      refine HSEEN.out.mono ?_
      rintro e w5 ⟨rfl, m, rfl⟩
      go_wp2_with fail
      go_roundw
      case rel => exact Lib.hid (HREL4.out m)
      case measure => simp [intOf]; omega
    · have hall : (bs.take j).flatten = b := by
        have : bs.take j = bs := List.take_of_length_le (by rw [HBS.out]; omega)
        rw [this, HFL.out]
      rw [hall] at hd hLL hAl
      have hak : al = k := by rw [← hAl, HL.out]
      subst hak
      have hspl : splitF b = L ++ (closeF d).1 := by unfold splitF; rw [hd, hLL]
      have hst2 := closeF_st d hcl
      rw [hfed] at hst2
      have hzl := (closeF_len d).1
      have hclose := Lib.hid (close_any wr w.heap.size r d HT.out.dec HDOK.out (by omega))
      generalize closeF d = z at *
      obtain ⟨za, zd⟩ := z
      simp only at hst2 hspl hzl
      have HST2 := Lib.hid hst2
      have HSPL := Lib.hid hspl
      clear hall hd hLL hst2 hspl HADD
      go_wp2_with fail
      refine hclose.out.mono ?_
      rintro e w3 hp3
      obtain ⟨v3, r3, rfl, ho3, hl3, hsz3, hstep⟩ := HT.out.more hwr (by omega) hp3
      obtain ⟨va, vc, hv3, _⟩ := own_shape ho3
      subst hv3
      have HO3 := Lib.hid ho3
      have HL3 := Lib.hid hl3
      have HSTEP := Lib.hid hstep
      clear ho3 hl3 hstep hp3
      go_wp2_with (at_builtin; refine wpList_append_slice rfl (.tmp 54) (.tmp 56) 26 26 rfl 33 i5 zeroFrame 4 40 Try.underlying26 hi hz0 hz1 hz2 rfl _ L.length (fcells L) rfl HL3.out (.slice va _ vc) _ (fcells za) rfl (Src.own Try.underlying26 HO3.out (fcells_oneCell _)) (by unfold maxLen; omega) (by omega) ?_)
      intro l4 c4 w4 ho4 hk4 hb4
      obtain ⟨ht4, hk34⟩ := HSTEP.out _ _ ho4 hk4 hb4
      have HK4 := Lib.hid (HK.out.trans hk34 (Z := fun k => k = w.heap.size ∨ w2.heap.size ≤ k) (fun _ _ h => h) (fun _ _ h => h))
      rw [HST2.out, ← HSPL.out] at ht4
      have hsz4 : w3.heap.size ≤ w4.heap.size := hk4.size
      have HT4 := Lib.hid ht4
      have HSEEN := Lib.hid (seen_any w4 w.heap.size r3 ⟨true, al, 0, 0, []⟩ HT4.out.dec (by simp only; omega) (Nat.zero_le _))
      simp only [List.length_nil, Nat.sub_zero] at HSEEN
      clear ho4 hk4 hb4 ht4 hk34 hclose
      go_wp2_with fail
      refine HSEEN.out.mono ?_
      rintro e w5 ⟨rfl, m, hw5⟩
      have hk45 : Keep (fun _ => False) w4 w5 := by rw [hw5]; exact Keep.of_below (below_drewN (Below.refl _ _) _) (Nat.le_refl _) _
      have hka := Keep.alloc (fun _ => False) w5 (.cells #[.int .u8 1] 5)
      have hk46 := hk45.trans hka (fun _ _ h => h) (fun _ _ h => h)
      have HK6 := Lib.hid (HK4.out.trans hk46 (Z := fun k => k = w.heap.size ∨ w2.heap.size ≤ k) (fun _ _ h => h) (fun _ _ h => h.elim))
      have HT6 := Lib.hid (HT4.out.keep hk46 id (fun _ _ _ => id))
      have hsz6 : w2.heap.size ≤ (w5.alloc (.cells #[.int .u8 1] 5)).heap.size := HK6.out.size
      clear hw5 hk45 hka hk46 HT4
      go_wp2_with fail
      refine (feed_closed _ w.heap.size r3 ⟨true, al, 0, 0, []⟩ _ _ _ HT6.out.dec rfl).mono ?_
      rintro e w7 hp7
      obtain ⟨v7, r7, rfl, ho7, hl7, hsz7, hstep7⟩ := HT6.out.more hsz6 (by omega) hp7
      obtain ⟨va7, vc7, hv7, _⟩ := own_shape ho7
      subst hv7
      have hs7 := hstep7 _ w7 (by simpa [fcells_nil] using hl7) (Keep.refl _ _) (.inl rfl)
      have HK7 := Lib.hid (HK6.out.trans hs7.2 (Z := fun k => k = w.heap.size ∨ w2.heap.size ≤ k) (fun _ _ h => h) (fun _ _ h => h))
      have HT7 := Lib.hid hs7.1
      clear ho7 hl7 hstep7 hp7 hs7
      go_wp2_with fail
      rw [List.append_nil] at HT7
      have hsz7' : w2.heap.size ≤ w7.heap.size := HK7.out.size
      refine (close_closed w7 w.heap.size r7 ⟨true, al, 0, 0, []⟩ HT7.out.dec rfl).mono ?_
      rintro e w8 hp8
      obtain ⟨v8, r8, rfl, ho8, hl8, hsz8, hstep8⟩ := HT7.out.more hsz7' (by omega) hp8
      obtain ⟨va8, vc8, hv8, _⟩ := own_shape ho8
      subst hv8
      have hs8 := hstep8 _ w8 (by simpa [fcells_nil] using hl8) (Keep.refl _ _) (.inl rfl)
      have hk8 := HK7.out.trans hs8.2 (Z := fun k => k = w.heap.size ∨ w2.heap.size ≤ k) (fun _ _ h => h) (fun _ _ h => h)
      have hb8 : Below w.heap.size w w8 := HBW.out.trans (hk8.below (by omega) (fun i hi h => by omega))
      have hr8 : Rd w8 ao b := hk8.rd' (Below.rd HBW.out HR.out (Nat.le_refl _)) (fun hne b' o' ha h => by
        have h1 := HD2.out.no_rd (Below.rd HBW.out HR.out (Nat.le_refl _)) hne b' o' ha
        obtain ⟨b3, o3, h3, h4⟩ := HR.out.lt hne
        rw [ha] at h3
        cases h3
        omega)
      have HT8 := Lib.hid hs8.1
      rw [List.append_nil] at HT8
      have HB8 := Lib.hid hb8
      have HSP := Lib.hid (split_any w8 ao al c b HL.out hr8 (by omega))
      clear ho8 hl8 hstep8 hp8 hs8 hk8 hb8 hr8
      go_wp2_with fail
      refine HSP.out.mono ?_
      rintro e w9 ⟨v9, rfl, ho9, hb9, hv9⟩
      have hs9 := same_any w9 _ _ _ (HT8.out.own.keep (Keep.of_below hb9 (Nat.le_refl _) (fun _ => False)) (fun _ _ => id)) ho9
      have HS9 := Lib.hid hs9
      have HB9 := Lib.hid (Below.next HB8.out hb9)
      obtain ⟨va9, vc9, hv9', _⟩ := own_shape ho9
      subst hv9'
      clear ho9 hb9 hv9 hs9
      go_wp2_with fail
      refine HS9.out.mono ?_
      rintro e w10 ⟨rfl, hb10⟩
      have HB10 := Lib.hid (Below.next HB9.out hb10)
      clear hb10
      go_wp2_with fail
      refine (alive_any _).mono ?_
      rintro e w11 ⟨rfl, hb11⟩
      have HB11 := Lib.hid (Below.next HB10.out hb11)
      clear hb11
      go_wp2_with fail
      go_ret
      exact ⟨rfl, HB11.out⟩
end Go.Proofs.Ytmblghdiejneoaa
