/- The reference's Feed and Close. -/
import Derived.Test.YtmblghdiejneoaaGreatQRMore
namespace Go.Proofs.YtmblghdiejneoaaGreat
set_option maxRecDepth 100000
open Go.RowKit

theorem rfeed_same {w : World} {R : Nat} {d : DSt} (h : RDecAt w R d) : RFeedPost w R ([], d) (.returned (.slice none 0 0)) w :=
  ⟨_, rfl, Own.nil w 4, h, Keep.refl _ w, fun _ hg => (nomatch hg)⟩

set_option maxHeartbeats 2000000 in
theorem rfeed_any (w : World) (R : Nat) (d : DSt) (ao : Option Addr) (k c : Nat) (b : List UInt8) (hb : RDecAt w R d) (hok : DOk d) (hbk : b.length = k) (hrb : Rd w ao b) (hk : d.rest.length + k ≤ 10000000000) :
    Calls Tryz.prog 19 #[.pointer (some ⟨R, 0, none⟩), .slice ao k c] w (RFeedPost w R (feedF d b)) := by
  obtain ⟨c0, c1, c2, c3, c4, hfr⟩ := five_cells hb
  have hmost := hok.most
  by_cases hc : d.closed = true
  · have he : feedF d b = ([], d) := by unfold feedF; rw [if_pos (.inl hc)]
    rw [he]
    have HP := Lib.hid (rfeed_same hb)
    rw [hc] at c4
    clear hb hc he
    go_enter Tryz.func19, Tryz.ntmps19
    go_wp2_with fail
    go_ret
    exact HP.out
  · have hc' : d.closed = false := by simpa using hc
    by_cases hm : 4611686018427387903 < d.fed + b.length
    · have he : feedF d b = ([], d) := by unfold feedF; rw [if_pos (.inr hm)]
      rw [he]
      have HP := Lib.hid (rfeed_same hb)
      have hd : decide ((4611686018427387903 : Int) - (k : Int) < (d.fed : Int)) = true := by simp; omega
      rw [hc'] at c4
      clear hb hc he hc'
      go_enter Tryz.func19, Tryz.ntmps19
      go_wp2_with fail
      go_ret
      exact HP.out
    · have hn : ¬ (d.closed = true ∨ 4611686018427387903 < d.fed + b.length) := by rw [hc']; simp; omega
      have hmr := rmore_any w R d ⟨b.toArray⟩ false hb hok (by simp [ByteArray.size, hbk]; omega) (by simp [ByteArray.size]; omega)
      rw [show (⟨b.toArray⟩ : ByteArray).data.toList = b by simp, more_feed d b hn] at hmr
      have hcv := conv_str (P := Tryz.prog) w 22 9 5 Tryz.underlying22 Tryz.underlying5 Tryz.underlying9 ao k c b hbk hrb
      have HM := Lib.hid hmr
      have hd : decide ((4611686018427387903 : Int) - (k : Int) < (d.fed : Int)) = false := by simp; omega
      rw [hc'] at c4
      clear hb hc hc' hn hmr hrb
      generalize (⟨b.toArray⟩ : ByteArray) = S at *
      go_enter Tryz.func19, Tryz.ntmps19
      go_wp2_with fail
      refine HM.out.mono ?_
      rintro e w1 ⟨v, rfl, h1, h2, h3, h4⟩
      have HP := Lib.hid (show RFeedPost w R (feedF d b) (.returned v) w1 from ⟨v, rfl, h1, h2, h3, h4⟩)
      clear h1 h2 h3 h4
      go_wp2_with fail
      go_ret
      exact HP.out

set_option maxHeartbeats 2000000 in
theorem rclose_any (w : World) (R : Nat) (d : DSt) (hb : RDecAt w R d) (hok : DOk d) (hk : d.rest.length ≤ 10000000000) :
    Calls Tryz.prog 21 #[.pointer (some ⟨R, 0, none⟩)] w (RFeedPost w R (closeF d)) := by
  obtain ⟨c0, c1, c2, c3, c4, hfr⟩ := five_cells hb
  have hmost := hok.most
  by_cases hc : d.closed = true
  · have he : closeF d = ([], d) := by unfold closeF; rw [if_pos hc]
    rw [he]
    have HP := Lib.hid (rfeed_same hb)
    rw [hc] at c4
    clear hb hc he
    go_enter Tryz.func21, Tryz.ntmps21
    go_wp2_with fail
    go_ret
    exact HP.out
  · have hc' : d.closed = false := by simpa using hc
    have hmr := rmore_any w R d ⟨#[]⟩ true hb hok (by simp [ByteArray.size]; omega) (by simp [ByteArray.size]; omega)
    rw [show (⟨#[]⟩ : ByteArray).data.toList = [] from rfl, more_close d hc] at hmr
    have HM := Lib.hid hmr
    rw [hc'] at c4
    clear hb hc hc' hmr
    go_enter Tryz.func21, Tryz.ntmps21
    go_wp2_with fail
    refine HM.out.mono ?_
    rintro e w1 ⟨v, rfl, h1, h2, h3, h4⟩
    have HP := Lib.hid (show RFeedPost w R (closeF d) (.returned v) w1 from ⟨v, rfl, h1, h2, h3, h4⟩)
    clear h1 h2 h3 h4
    go_wp2_with fail
    go_ret
    exact HP.out
end Go.Proofs.YtmblghdiejneoaaGreat
