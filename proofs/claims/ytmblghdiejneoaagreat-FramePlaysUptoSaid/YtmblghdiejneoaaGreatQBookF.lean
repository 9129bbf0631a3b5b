/- SameFrames: two lists that hold the same. -/
import Derived.Test.YtmblghdiejneoaaGreatQRowSet
import Derived.Test.YtmblghdiejneoaaGreatQTwin
namespace Go.Proofs.YtmblghdiejneoaaGreat
set_option maxRecDepth 100000
open Go.RowKit

theorem bqF_refl (a b c : Int) (s : ByteArray) : bqF a a b b c c s s = true := by simp [bqF]

theorem own_shape {w : World} {size : Nat} {v : Value} {n : Nat} {xs : List Value} (h : Own w size v n xs) : ∃ ao cap, v = .slice ao n cap ∧ (0 < n → ∃ g, ao = some ⟨g, 0, none⟩) := by
  rcases h.2 with ⟨h, h0⟩ | ⟨g, cap, h, _⟩
  · exact ⟨none, 0, by rw [h, h0], fun h => by omega⟩
  · exact ⟨_, cap, h, fun _ => ⟨g, rfl⟩⟩

set_option maxRecDepth 100000 in
set_option maxHeartbeats 1000000 in
theorem same_any (w : World) (v1 v2 : Value) (L : List Fr) (h1 : Own w 4 v1 L.length (fcells L)) (h2 : Own w 4 v2 L.length (fcells L)) :
    Calls Tryz.prog 9 #[v1, v2] w fun e w' => e = .returned (.bool true) ∧ Below w.heap.size w w' := by
  obtain ⟨a1, c1, rfl, hs1⟩ := own_shape h1
  obtain ⟨a2, c2, rfl, hs2⟩ := own_shape h2
  have H1 := Lib.hid h1
  have H2 := Lib.hid h2
  have S1 := Lib.hid hs1
  have S2 := Lib.hid hs2
  clear h1 h2 hs1 hs2
  have hlen1 : (L.length : Int) ≤ 9223372036854775807 := by
    rcases H1.out.2 with ⟨_, h⟩ | ⟨g, cap, h, h', h'', _⟩
    · omega
    · unfold maxLen at h''; omega
  have heq := eq_frame'
  go_enter Tryz.func9, Tryz.ntmps9
  go_wp2_with fail
  go_loopw [5] (fun i wr => Hid (∃ j : Nat, i = .int .i64 j ∧ j ≤ L.length ∧ Below w.heap.size w wr)) (fun i _ => L.length - (intOf i).toNat)
  case atStart => exact Lib.hid ⟨0, rfl, Nat.zero_le _, Below.refl _ _⟩
  case round =>
    obtain ⟨j, rfl, hj, hb⟩ := hrel.out
    have HB := Lib.hid hb
    clear hrel hb
    by_cases hlt : j < L.length
    · obtain ⟨g1, rfl⟩ := S1.out (by omega)
      obtain ⟨g2, rfl⟩ := S2.out (by omega)
      obtain ⟨x, hx⟩ : ∃ x, L[j]? = some x := ⟨L[j], List.getElem?_eq_getElem hlt⟩
      obtain ⟨a0, a1, a2, a3⟩ := (H1.out.keep (Keep.of_below HB.out (Nat.le_refl _) (fun _ => False)) (fun _ _ => id)).frame j x hx
      obtain ⟨b0, b1, b2, b3⟩ := (H2.out.keep (Keep.of_below HB.out (Nat.le_refl _) (fun _ => False)) (fun _ _ => id)).frame j x hx
      have hq := bqF_refl (x.kind : Int) (x.pos : Int) (x.size : Int) ⟨x.content.toArray⟩
      generalize (⟨x.content.toArray⟩ : ByteArray) = C at *
      clear hx
      go_wp2_with fail
      go_quiet (fail)
      go_wp2_with fail
      go_roundw
      case rel => exact Lib.hid ⟨j + 1, by go_num, by omega, below_drewN HB.out _⟩
      case measure => simp [intOf]; omega
    · have hjn : j = L.length := by omega
      subst hjn
      go_wp2_with fail
      go_ret
      exact ⟨rfl, HB.out⟩
end Go.Proofs.YtmblghdiejneoaaGreat

/- The Book's marks of frames. -/
namespace Go.Proofs.YtmblghdiejneoaaGreat
set_option maxRecDepth 100000
open Go.RowKit

theorem markFrame_any (n : Nat) (w : World) : Calls Tryz.prog 134 #[.int .i64 n] w fun e w' => e = .returned (.agg #[.int .u8 99, .int .i64 n, .int .i64 0, .string ⟨#[]⟩]) ∧ Below w.heap.size w w' := by
  have HB := Lib.hid ((Below.refl w.heap.size w).alloc (Nat.le_refl _) (.cells #[.int .u8 99, .int .i64 n, .int .i64 0, .string ⟨#[]⟩] 82))
  go_enter Tryz.func134, Tryz.ntmps134
  go_wp2_with fail
  refine bodyPost_ret (v := .agg #[.int .u8 99, .int .i64 n, .int .i64 0, .string ⟨#[]⟩]) (by simp [results, Tryz.results134, go_sem]) rfl ⟨rfl, HB.out⟩

theorem isFrame_any (n : Nat) (w : World) : Calls Tryz.prog 158 #[.agg #[.int .u8 99, .int .i64 n, .int .i64 0, .string ⟨#[]⟩], .int .i64 n] w fun e w' => e = .returned (.bool true) ∧ Below w.heap.size w w' := by
  have HB := Lib.hid ((Below.refl w.heap.size w).alloc (Nat.le_refl _) (.cells #[.int .u8 99, .int .i64 n, .int .i64 0, .string ⟨#[]⟩] 82))
  have heq := eq_frame'
  have hq := bqF_refl 99 (n : Int) 0 ⟨#[]⟩
  go_enter Tryz.func158, Tryz.ntmps158
  go_wp2_with fail
  go_ret
  exact ⟨rfl, HB.out⟩
end Go.Proofs.YtmblghdiejneoaaGreat
