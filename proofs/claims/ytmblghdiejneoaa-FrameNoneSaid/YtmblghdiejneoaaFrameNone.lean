/- FrameNone: a nil decoder, and one that no call made, tell nothing and stand as a new one; for every slice of bytes, no condition. -/
import Derived.Test.YtmblghdiejneoaaRow
import Derived.Test.YtmblghdiejneoaaRows
import Derived.ProofKit
import Derived.OpenShut
import Derived.ShutString
import Derived.ChangeOld
namespace Go.Proofs.Ytmblghdiejneoaa.frameNone
open Go.ChangeShapes Go.WideShapes Go.ChangeAt Go.RowKit
open Go.ChangeMaps (open_string shut_string)
set_option linter.unusedVariables false

theorem own : ownKnob Try.prog.godebug = none := by kernel_rfl
theorem laidOut : laidOutB Try.prog = true := by kernel_rfl

set_option maxRecDepth 100000 in
set_option maxHeartbeats 2000000 in
theorem walk (a0 : Option Addr) (len0 cap0 : Nat) (w : World) :
    Calls Try.prog 7 #[.slice a0 len0 cap0] w fun e w' => e = .returned (.bool true) ∧ Below w.heap.size w w' := by
  have hW1 := Lib.hid ((Below.refl w.heap.size w).alloc (Nat.le_refl _) (.cells #[.bool false, .bool false, .int .i64 0, .int .i64 0, .int .i64 0, .slice none 0 0] 50))
  have hz1 : NoDec (w.alloc (.cells #[.bool false, .bool false, .int .i64 0, .int .i64 0, .int .i64 0, .slice none 0 0] 50)) (some ⟨w.heap.size, 0, none⟩) := .inr ⟨_, rfl, by rw [World.cell?_alloc_mark]; rfl⟩
  have hn : ∀ w, NoDec w none := fun _ => .inl rfl
  have HZ1 := Lib.hid hz1
  have HN := Lib.hid hn
  clear hz1 hn
  go_enter Try.func7, Try.ntmps7
  go_wp2_with fail
  refine (feed_no (HN.out _) _ _ _).mono ?_
  rintro e w1 ⟨rfl, rfl⟩
  go_wp2_with fail
  refine (feed_no HZ1.out _ _ _).mono ?_
  rintro e w1 ⟨rfl, rfl⟩
  go_wp2_with fail
  refine (close_no (HN.out _)).mono ?_
  rintro e w1 ⟨rfl, rfl⟩
  go_wp2_with fail
  refine (close_no HZ1.out).mono ?_
  rintro e w1 ⟨rfl, rfl⟩
  go_wp2_with fail
  refine (rnew_any _).mono ?_
  rintro e w2 ⟨rfl, hw2⟩
  have hR2 : RDecAt w2 (w.heap.size + 1) d0 := by
    have := rdec_new (w.alloc (.cells #[.bool false, .bool false, .int .i64 0, .int .i64 0, .int .i64 0, .slice none 0 0] 50))
    rw [hw2] at this
    simpa using this
  have HB2 := Lib.hid (show Below w.heap.size w w2 from by rw [← hw2]; exact hW1.out.alloc hW1.out.size _)
  have HZ2 := Lib.hid (show NoDec w2 (some ⟨w.heap.size, 0, none⟩) from by rw [← hw2]; exact HZ1.out.keep (Keep.alloc (fun _ => False) _ _) (fun _ _ => id))
  have HR2 := Lib.hid hR2
  clear hW1 HZ1 hw2 hR2
  go_wp2_with fail
  refine (lseen_of _ none _ d0 (fun n => seen_no (HN.out _)) HR2.out (by decide) (Nat.le_refl _)).mono ?_
  rintro e w3 ⟨rfl, n3, rfl⟩
  go_wp2_with fail
  refine (lseen_of _ (some ⟨w.heap.size, 0, none⟩) _ d0 (fun n => seen_no ?_) ?_ (by decide) (Nat.le_refl _)).mono ?_
  · exact HZ2.out
  · exact HR2.out
  rintro e w3 ⟨rfl, n4, rfl⟩
  go_wp2_with fail
  refine (lheld_of _ none _ d0 (held_no (HN.out _)) ?_).mono ?_
  · exact HR2.out
  rintro e w5 ⟨rfl, hb5⟩
  have HB5 := Lib.hid (show Below w.heap.size w w5 from Below.next (below_drewN HB2.out _) hb5)
  have hk5 := Keep.of_below hb5 (Nat.le_refl _) (fun _ => False)
  have HZ5 := Lib.hid (show NoDec w5 (some ⟨w.heap.size, 0, none⟩) from NoDec.keep (w := w2.drewN _) HZ2.out hk5 (fun _ _ => id))
  have HR5 := Lib.hid (show RDecAt w5 (w.heap.size + 1) d0 from hk5.old HR2.out id)
  clear hb5 hk5
  go_wp2_with fail
  refine (lheld_of _ (some ⟨w.heap.size, 0, none⟩) _ d0 (held_no HZ5.out) HR5.out).mono ?_
  rintro e w6 ⟨rfl, hb6⟩
  have HB6 := Lib.hid (Below.next HB5.out hb6)
  clear hb6
  go_wp2_with fail
  refine (alive_any _).mono ?_
  rintro e w7 ⟨rfl, hb7⟩
  have HB7 := Lib.hid (Below.next HB6.out hb7)
  clear hb7
  go_wp2_with fail
  go_ret
  exact ⟨rfl, HB7.out⟩

set_option maxRecDepth 100000 in
theorem lifted (os : Os) (started : os.Started) (H : Type) (enc : TypeId × Value → H) :
    ReturnsInHanded {} Try.checked os 7 .any (Rows.frameNoneSpec.pre6 enc Try.prog Try.f7 Rows.frameNoneRow.domain false) (Rows.frameNoneSpec.post enc Try.prog Try.f7 false true false false) := by
  refine returnsInHanded_of_change (C := Try.checked) own started (by kernel_rfl) Try.func7
    (ChangeSpec.witness6 (enc := enc) (C := Try.checked) false ⟨#[], #[.slice none 0 0], []⟩ 8 (by kernel_rfl) (by kernel_rfl) (by kernel_rfl) (by kernel_rfl)) ?_
  intro W base args ds gs before hval0 hW hcnd _
  have hval : ∀ (j : Nat) t v, Try.f7.params[j]? = some t → args[j]? = some v → Value.okWide Try.prog W .any base t v := hval0
  have hW' := hW
  obtain ⟨p, q, hA0, hV, rfl, hfz, hnd⟩ := hW
  have hA : DataW.TrodAll enc Try.prog W 0 (fun _ => true) true Try.f7.params.toList args.toList ds p := hA0
  rw [Try.params7] at hA hval
  obtain ⟨v0, vs0, dd0, ds0, p0, q0, hargs, rfl, rfl, h0, r0⟩ := trodAll_cons hA
  obtain ⟨rfl, rfl, rfl⟩ := trodAll_nil r0
  obtain rfl : args = #[v0] := by cases args; simp_all
  obtain ⟨rfl, rfl⟩ := trodVars_none hV
  obtain ⟨a0, len0, cap0, rfl⟩ := okWide_slice Try.underlying28 (hval 0 28 v0 rfl rfl)
  have k0 := h0
  have lt0 : ∀ x ∈ p0, x.block < W.heap.size := by obtain ⟨m, hm⟩ := k0; exact DataW.trod_lt m _ _ _ hm
  obtain ⟨z0, w0⟩ : ∃ zs, IsRow .u8 W a0 len0 cap0 zs := by
    obtain ⟨fuel, hf⟩ := h0
    rcases open_ints Try.underlying28 Try.underlying5 (by kernel_rfl) hf with ⟨hcs, _⟩ | ⟨x, l, c, zs, hcs, _, hl, hm, hz, _, hcell, hwz⟩
    · simp [Value.cells] at hcs
      obtain ⟨rfl, rfl, rfl⟩ := hcs
      exact ⟨[], .inl ⟨rfl, rfl, rfl, rfl⟩⟩
    · simp [Value.cells] at hcs
      obtain ⟨rfl, rfl, rfl⟩ := hcs
      exact ⟨zs, .inr ⟨_, rfl, hl, hm, by simpa using hz, hcell, hwz⟩⟩
  clear hA0 hval0
  refine (walk a0 len0 cap0 W).mono fun e W' ⟨he, bel⟩ => ?_
  subst he
  exact ⟨_, rfl, _, _, _, [], _, [], hW', trodAll_mk1 (shut_bool Try.underlying4 _), (trodAll_cons_mk (Below.trod laidOut (by kernel_rfl) (of_decide_eq_true (by kernel_rfl)) k0 bel lt0) trodAll_mk0), rfl, bel.frame _, fun h => by cases h⟩

theorem over : Rows.frameNoneRow.holds Try.pinned (OpenSpec.ofChange Rows.frameNoneSpec) :=
  OpenClaim.holds_of_wide 7 Try.f7 rfl rfl rfl rfl rfl rfl rfl ⟨rfl, rfl, rfl, rfl, rfl⟩ rfl rfl rfl rfl rfl (by kernel_rfl) Try.func7 (by kernel_rfl)
    (of_decide_eq_true (by kernel_rfl)) (by unfold Func.isWrapper; first | (rw [if_pos (by decide +kernel)]; kernel_rfl) | (rw [if_neg (by decide +kernel)]; exact ⟨rfl, rfl⟩))
    (fun os started H enc _ => lifted os started H enc)

/-- The statement. -/
theorem proved : Rows.FrameNoneSaid := over
#print axioms proved
end Go.Proofs.Ytmblghdiejneoaa.frameNone
