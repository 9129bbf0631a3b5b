/- The Book's marks of frames. -/
import Derived.Test.YtmblghdiejneoaaGreatTwin
import Derived.Test.YtmblghdiejneoaaGreatSame
namespace Go.Proofs.YtmblghdiejneoaaGreat
set_option maxRecDepth 100000
open Go.RowKit

theorem markFrame_any (n : Nat) (w : World) : Calls Tryz.prog 134 #[.int .i64 n] w fun e w' => e = .returned (.agg #[.int .u8 99, .int .i64 n, .int .i64 0, .string ⟨#[]⟩]) ∧ Below w.heap.size w w' := by
  have HB := Lib.hid ((Below.refl w.heap.size w).alloc (Nat.le_refl _) (.cells #[.int .u8 99, .int .i64 n, .int .i64 0, .string ⟨#[]⟩] 82))
  go_enter Tryz.func134, Tryz.ntmps134
  go_wp2_with fail
  refine bodyPost_ret (v := .agg #[.int .u8 99, .int .i64 n, .int .i64 0, .string ⟨#[]⟩]) (by simp [results, Tryz.results134, go_sem]) rfl ⟨rfl, HB.out⟩

theorem isFrame_any (n : Nat) (w : World) : Calls Tryz.prog 158 #[.agg #[.int .u8 99, .int .i64 n, .int .i64 0, .string ⟨#[]⟩], .int .i64 n] w fun e w' => e = .returned (.bool true) ∧ Below w.heap.size w w' := by
  have HB := Lib.hid ((Below.refl w.heap.size w).alloc (Nat.le_refl _) (.cells #[.int .u8 99, .int .i64 n, .int .i64 0, .string ⟨#[]⟩] 82))
  have heq := eq_frame'
  have hq := bqF_refl 99 (n : Int) 0 ⟨#[]⟩
  go_enter Tryz.func158, Tryz.ntmps158
  go_wp2_with fail
  go_ret
  exact ⟨rfl, HB.out⟩
end Go.Proofs.YtmblghdiejneoaaGreat
