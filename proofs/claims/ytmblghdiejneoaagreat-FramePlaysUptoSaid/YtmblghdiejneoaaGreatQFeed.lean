/- Feed and Close. -/
import Derived.Test.YtmblghdiejneoaaGreatQGo1
namespace Go.Proofs.YtmblghdiejneoaaGreat
set_option maxRecDepth 100000
open Go.RowKit

/-- What a call leaves that may tell something. -/
def FeedPost (w : World) (D : Nat) (r : Value) (x : List Fr × DSt) (e : Ending) (w' : World) : Prop :=
  ∃ v' r', e = .returned v' ∧ Own w' 4 v' x.1.length (fcells x.1) ∧ DecAt w' D r' x.2 ∧ Keep (fun k => k = D ∨ r.ownBlock = some k) w w' ∧
    (∀ g, v'.ownBlock = some g → w.heap.size ≤ g) ∧ (r' = r ∨ ∀ g, r'.ownBlock = some g → w.heap.size ≤ g) ∧ (∀ g, v'.ownBlock = some g → r'.ownBlock ≠ some g)

theorem feed_same {w : World} {D : Nat} {r : Value} {d : DSt} (h : DecAt w D r d) : FeedPost w D r ([], d) (.returned (.slice none 0 0)) w :=
  ⟨_, r, rfl, Own.nil w 4, h, Keep.refl _ w, fun _ hg => (nomatch hg), .inl rfl, fun _ hg => (nomatch hg)⟩

set_option maxHeartbeats 1000000 in
theorem feed_closed (w : World) (D : Nat) (r : Value) (d : DSt) (ao : Option Addr) (k c : Nat) (h : DecAt w D r d) (hc : d.closed = true) :
    Calls Tryz.prog 18 #[.pointer (some ⟨D, 0, none⟩), .slice ao k c] w (FeedPost w D r ([], d)) := by
  obtain ⟨c0, c1, c2, c3, c4, c5, hfr⟩ := six_cells h.block
  have hp := Lib.hid (feed_same h)
  rw [hc] at c1
  clear h hc
  go_enter Tryz.func18, Tryz.ntmps18
  go_wp2_with (go_at_call 108; refine (there_made D _ c0).mono ?_; rintro e w1 ⟨rfl, rfl⟩)
  go_ret
  exact hp.out

set_option maxHeartbeats 1000000 in
theorem feed_over (w : World) (D : Nat) (r : Value) (d : DSt) (ao : Option Addr) (k c : Nat) (h : DecAt w D r d) (hc : d.closed = false) (hk : k ≤ 100000000000) (_hf : d.fed ≤ 4611686018427387903) (ho : 4611686018427387903 < d.fed + k) :
    Calls Tryz.prog 18 #[.pointer (some ⟨D, 0, none⟩), .slice ao k c] w (FeedPost w D r ([], d)) := by
  obtain ⟨c0, c1, c2, c3, c4, c5, hfr⟩ := six_cells h.block
  have hp := Lib.hid (feed_same h)
  rw [hc] at c1
  clear h hc
  go_enter Tryz.func18, Tryz.ntmps18
  go_wp2_with (go_at_call 108; refine (there_made D _ c0).mono ?_; rintro e w1 ⟨rfl, rfl⟩)
  go_ret
  exact hp.out

set_option maxRecDepth 100000 in
set_option maxHeartbeats 2000000 in
theorem feed_goes (w : World) (D : Nat) (r : Value) (d : DSt) (ao : Option Addr) (k c : Nat) (b : List UInt8) (h : DecAt w D r d) (hc : d.closed = false) (hbk : b.length = k) (hrb : Rd w ao b) (hbD : b ≠ [] → ∀ b' o', ao = some ⟨b', o', none⟩ → ¬ b' = D) (hk : d.rest.length + k ≤ 100000000000) (hf : d.fed + k ≤ 4611686018427387903)
    (hr : d.rest.length ≤ d.fed) (h0 : d.bs = 0 → d.ba = 0) (hbs : d.bs ≤ d.fed - d.rest.length) :
    Calls Tryz.prog 18 #[.pointer (some ⟨D, 0, none⟩), .slice ao k c] w (FeedPost w D r (feedF d b)) := by
  obtain ⟨c0, c1, c2, c3, c4, c5, hfr⟩ := six_cells h.block
  obtain ⟨i5, hi, hz0, hz1, hz2⟩ := info_parts info_u8
  have HH := Lib.hid h
  rw [hc] at c1
  have hs1 := Lib.hid (row_set h.block 2 (.int .i64 ((d.fed : Int) + (k : Int))))
  have hk1 := Lib.hid (Keep.setCell w D 2 (.int .i64 ((d.fed : Int) + (k : Int))))
  have hown1 := Lib.hid (h.own.keep hk1.out (fun g hg e => h.apart (by rw [hg]; exact congrArg some e)))
  have hD := h.lt
  have hrb1 : Rd (w.setCell ⟨D, 2, none⟩ (.int .i64 ((d.fed : Int) + (k : Int)))) ao b := hk1.out.rd' hrb hbD
  have HR := Lib.hid hrb1
  have HAP := Lib.hid h.apart
  have h0' := Lib.hid h0
  have hbk' := Lib.hid hbk
  have hc' := Lib.hid hc
  clear h hc hrb h0 hbk hrb1 hbD
  go_enter Tryz.func18, Tryz.ntmps18
  go_wp2_with (first | (go_at_call 108; refine (there_made D _ c0).mono ?_; rintro e w1 ⟨rfl, rfl⟩) | (at_builtin; refine wpList_append_slice rfl (.tmp 37) (.tmp 38) 22 22 rfl 5 i5 (.int .u8 0) 1 1 Tryz.underlying22 hi hz0 hz1 hz2 rfl r d.rest.length (bcells d.rest) rfl hown1.out (.slice ao k c) k (bcells b) rfl (Src.bytes Tryz.underlying22 _ _ _ b hbk'.out HR.out) (by unfold maxLen; omega) (by omega) ?_))
  intro ao2 q2 w2 ho2 hk2 hb2
  have hs2 := Lib.hid (hk2.old hs1.out HAP.out)
  have hap2 : (Value.slice ao2 (d.rest.length + k) q2).ownBlock ≠ some D := by
    rcases hb2 with h | ⟨g, h, hle⟩
    · rw [h]; exact HAP.out
    · rw [h]; intro e; cases e; have := hk1.out.size; omega
  have hs3 := Lib.hid (row_set hs2.out 5 (.slice ao2 (d.rest.length + k) q2))
  have hk3 := Lib.hid (Keep.setCell w2 D 5 (.slice ao2 (d.rest.length + k) q2))
  rw [← bcells_append] at ho2
  have hdec := Lib.hid (show DecAt (w2.setCell ⟨D, 5, none⟩ (.slice ao2 (d.rest.length + k) q2)) D (.slice ao2 (d.rest.length + k) q2) ⟨false, d.fed + k, d.ba, d.bs, d.rest ++ b⟩ from by
    refine ⟨?_, ?_, hap2⟩
    · have := hs3.out
      rw [hc'.out] at this
      simpa using this
    · have := ho2.keep hk3.out (fun g hg e => hap2 (by rw [hg]; exact congrArg some e))
      simpa [hbk'.out] using this)
  have hkk := Lib.hid (show Keep (fun i => i = D ∨ r.ownBlock = some i) w (w2.setCell ⟨D, 5, none⟩ (.slice ao2 (d.rest.length + k) q2)) from (hk1.out.trans hk2 (Z := fun i => i = D ∨ r.ownBlock = some i) (fun _ _ h => .inl h) (fun _ _ h => .inr h)).trans hk3.out (fun _ _ h => h) (fun _ _ h => .inl h))
  obtain ⟨f0, f1, f2, f3, f4, f5, ffr⟩ := six_cells hs2.out
  clear ho2 hk2 hb2 hap2 c0 c1 c2 c3 c4 c5 hfr
  go_wp2_with fail
  have hgo := go1_any _ D _ ⟨false, d.fed + k, d.ba, d.bs, d.rest ++ b⟩ false hdec.out hf (by simp [hbk'.out]; omega) (by simp [hbk'.out]; omega) h0'.out (by simp [hbk'.out]; omega)
  refine hgo.mono ?_
  rintro e w4 ⟨v4, r4, rfl, ho4, hd4, hk4, hv4, hr4⟩
  have hsz := hkk.out.size
  have hpost := Lib.hid (show FeedPost w D r (feedF d b) (.returned v4) w4 from by
    have e1 : d.fed + k - (d.rest ++ b).length = d.fed - d.rest.length := by simp [hbk'.out]; omega
    simp only [e1] at ho4 hd4
    have hno : ¬ (d.closed = true ∨ 4611686018427387903 < d.fed + b.length) := by rw [hc'.out, hbk'.out]; simp; omega
    unfold feedF
    rw [if_neg hno]
    refine ⟨v4, r4, rfl, ho4, ?_, hkk.out.trans hk4 (fun _ _ h => h) (fun _ _ h => .inl h), fun g hg => Nat.le_trans hsz (hv4 g hg), .inr fun g hg => Nat.le_trans hsz (hr4 g hg).1, fun g hg h => (hr4 g h).2 hg⟩
    rw [hbk'.out]
    exact hd4)
  clear hgo ho4 hd4 hk4 hv4 hr4
  go_wp2
  go_ret
  exact hpost.out

/-- Feed, at any decoder that was made. -/
theorem feed_any (w : World) (D : Nat) (r : Value) (d : DSt) (ao : Option Addr) (k c : Nat) (b : List UInt8) (h : DecAt w D r d) (hok : DOk d) (hbk : b.length = k) (hrb : Rd w ao b) (hbD : b ≠ [] → ∀ b' o', ao = some ⟨b', o', none⟩ → ¬ b' = D) (hk : d.rest.length + k ≤ 100000000000) :
    Calls Tryz.prog 18 #[.pointer (some ⟨D, 0, none⟩), .slice ao k c] w (FeedPost w D r (feedF d b)) := by
  by_cases hc : d.closed = true
  · have := feed_closed w D r d ao k c h hc
    unfold feedF
    rw [if_pos (.inl hc)]
    exact this
  · have hc' : d.closed = false := by simpa using hc
    by_cases ho : 4611686018427387903 < d.fed + k
    · have := feed_over w D r d ao k c h hc' (by omega) hok.most ho
      unfold feedF
      rw [if_pos (.inr (by rw [hbk]; exact ho))]
      exact this
    · exact feed_goes w D r d ao k c b h hc' hbk hrb hbD hk (by omega) hok.len hok.zero hok.bad

set_option maxHeartbeats 1000000 in
theorem close_closed (w : World) (D : Nat) (r : Value) (d : DSt) (h : DecAt w D r d) (hc : d.closed = true) :
    Calls Tryz.prog 20 #[.pointer (some ⟨D, 0, none⟩)] w (FeedPost w D r ([], d)) := by
  obtain ⟨c0, c1, c2, c3, c4, c5, hfr⟩ := six_cells h.block
  have hp := Lib.hid (feed_same h)
  rw [hc] at c1
  clear h hc
  go_enter Tryz.func20, Tryz.ntmps20
  go_wp2_with (go_at_call 108; refine (there_made D _ c0).mono ?_; rintro e w1 ⟨rfl, rfl⟩)
  go_ret
  exact hp.out

set_option maxRecDepth 100000 in
set_option maxHeartbeats 2000000 in
theorem close_goes (w : World) (D : Nat) (r : Value) (d : DSt) (h : DecAt w D r d) (hc : d.closed = false) (hok : DOk d) (hlen : d.rest.length ≤ 100000000000) :
    Calls Tryz.prog 20 #[.pointer (some ⟨D, 0, none⟩)] w (FeedPost w D r (closeF d)) := by
  obtain ⟨c0, c1, c2, c3, c4, c5, hfr⟩ := six_cells h.block
  have hs1 := Lib.hid (row_set h.block 1 (.bool true))
  have hk1 := Lib.hid (Keep.setCell w D 1 (.bool true))
  have hdec := Lib.hid (show DecAt (w.setCell ⟨D, 1, none⟩ (.bool true)) D r ⟨true, d.fed, d.ba, d.bs, d.rest⟩ from ⟨by simpa using hs1.out, h.own.keep hk1.out (fun g hg e => h.apart (by rw [hg]; exact congrArg some e)), h.apart⟩)
  have hc' := Lib.hid hc
  have hok' := Lib.hid hok
  rw [hc] at c1
  have hlen' := Lib.hid hlen
  clear h hc hok hs1 hlen
  go_enter Tryz.func20, Tryz.ntmps20
  go_wp2_with (go_at_call 108; refine (there_made D _ c0).mono ?_; rintro e w1 ⟨rfl, rfl⟩)
  refine (go1_any _ D _ ⟨true, d.fed, d.ba, d.bs, d.rest⟩ true hdec.out hok'.out.most hok'.out.len hlen'.out hok'.out.zero hok'.out.bad).mono ?_
  rintro e w2 ⟨v2, r2, rfl, ho2, hd2, hk2, hv2, hr2⟩
  have hinv := goN_inv true (d.fed - d.rest.length) d.rest d.rest.length 0 [] d.ba d.bs (Nat.zero_le _) hok'.out.zero (by have := hok'.out.bad; omega)
  have HX := Lib.hid (show closeF d = (let x := goN true (d.fed - d.rest.length) d.rest d.rest.length 0 [] d.ba d.bs; (tellL x.2.2.1 x.2.2.2 x.2.1, ⟨true, d.fed, 0, 0, d.rest.drop x.1⟩)) from by
    unfold closeF; rw [if_neg (by rw [hc'.out]; simp)])
  have hlenx := goN_len true (d.fed - d.rest.length) d.rest d.rest.length 0 [] d.ba d.bs
  simp only at ho2 hd2 hv2 hr2
  generalize goN true (d.fed - d.rest.length) d.rest d.rest.length 0 [] d.ba d.bs = x at *
  have HO2 := Lib.hid ho2
  have HD2 := Lib.hid hd2
  have HI := Lib.hid hinv
  have HL := Lib.hid (show x.2.1.length ≤ 1000000000000 from by have := hlen'.out; simp at hlenx; omega)
  have HK2 := Lib.hid (hk1.out.trans hk2 (fun _ _ h => h) (fun _ _ h => h))
  have HV2 := Lib.hid hv2
  have HR2 := Lib.hid hr2
  have hsz := Lib.hid hk1.out.size
  have hDlt := Lib.hid hdec.out.lt
  clear ho2 hd2 hinv hlenx hk2 hv2 hr2
  go_wp2_with fail
  refine (tell_any w2 D r2 v2 ⟨true, d.fed, x.2.2.1, x.2.2.2, d.rest.drop x.1⟩ x.2.1 HD2.out.block HI.out.2.2.1 HO2.out (fun e => by have := HV2.out D e; have := hDlt.out; omega) HL.out).mono ?_
  rintro e w3 ⟨v3, rfl, ho3, hb3, hk3, hv3⟩
  have hpost := Lib.hid (show FeedPost w D r (closeF d) (.returned v3) w3 from by
    rw [HX.out]
    have hv3' : ∀ g, v3.ownBlock = some g → w.heap.size ≤ g ∧ r2.ownBlock ≠ some g := by
      intro g hg
      rcases hv3 with h | ⟨g', h, hle⟩
      · rw [hg] at h
        exact ⟨Nat.le_trans hsz.out (HV2.out g h.symm), fun h2 => (HR2.out g h2).2 h.symm⟩
      · rw [hg] at h
        cases h
        have h1 := HK2.out.size
        refine ⟨by omega, fun h2 => ?_⟩
        have := HD2.out.own.lt g h2
        omega
    refine ⟨v3, r2, rfl, ho3, ⟨hb3, ?_, HD2.out.apart⟩, ?_, fun g hg => (hv3' g hg).1, .inr fun g hg => Nat.le_trans hsz.out (HR2.out g hg).1, fun g hg => (hv3' g hg).2⟩
    · exact HD2.out.own.keep hk3 (fun g hg e => by
        rcases e with e | e
        · exact HD2.out.apart (by rw [hg, e])
        · exact (HR2.out g hg).2 e)
    · refine HK2.out.trans hk3 (fun _ _ h => .inl h) (fun i hi h => ?_)
      rcases h with h | h
      · exact .inl h
      · have := HV2.out i h
        have := hsz.out
        omega)
  clear ho3 hb3 hk3 hv3
  go_wp2
  go_ret
  exact hpost.out

/-- Close, at any decoder that was made. -/
theorem close_any (w : World) (D : Nat) (r : Value) (d : DSt) (h : DecAt w D r d) (hok : DOk d) (hlen : d.rest.length ≤ 100000000000) :
    Calls Tryz.prog 20 #[.pointer (some ⟨D, 0, none⟩)] w (FeedPost w D r (closeF d)) := by
  by_cases hc : d.closed = true
  · have := close_closed w D r d h hc
    unfold closeF
    rw [if_pos hc]
    exact this
  · exact close_goes w D r d h (by simpa using hc) hok hlen
end Go.Proofs.YtmblghdiejneoaaGreat
