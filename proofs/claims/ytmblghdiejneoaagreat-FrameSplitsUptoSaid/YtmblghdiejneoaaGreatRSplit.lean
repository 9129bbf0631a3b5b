/- The reference's Split. -/
import Derived.Test.YtmblghdiejneoaaGreatRGone2
namespace Go.Proofs.YtmblghdiejneoaaGreat
set_option maxRecDepth 100000
open Go.RowKit

set_option maxHeartbeats 2000000 in
theorem rsplit_any (w : World) (ao : Option Addr) (k c : Nat) (b : List UInt8) (hbk : b.length = k) (hrb : Rd w ao b) (hk : k ≤ 10000000000) :
    Calls Tryz.prog 6 #[.slice ao k c] w (SplitPost w (splitF b)) := by
  have hcv := conv_str (P := Tryz.prog) w 22 9 5 Tryz.underlying22 Tryz.underlying5 Tryz.underlying9 ao k c b hbk hrb
  have hg := gone_any ⟨b.toArray⟩ true w (by simp [ByteArray.size, hbk]; omega)
  have hsz : (⟨b.toArray⟩ : ByteArray).size = b.length := by simp [ByteArray.size]
  have hdd : (⟨b.toArray⟩ : ByteArray).data.toList = b := by simp
  rw [hsz, hdd, gone_total, ← split_total b (by omega)] at hg
  have HG := Lib.hid hg
  generalize (⟨b.toArray⟩ : ByteArray) = S at *
  clear hg hsz hdd
  go_enter Tryz.func6, Tryz.ntmps6
  go_wp2_with fail
  refine HG.out.mono ?_
  rintro e w1 ⟨v, rfl, ho, hge, hb⟩
  obtain ⟨va, vc, rfl, _⟩ := own_shape ho
  have HP := Lib.hid (show SplitPost w (splitF b) (.returned (.slice va (splitF b).length vc)) w1 from ⟨_, rfl, ho, hb, hge⟩)
  clear ho hge hb
  go_wp2_with fail
  go_ret
  exact HP.out
end Go.Proofs.YtmblghdiejneoaaGreat
