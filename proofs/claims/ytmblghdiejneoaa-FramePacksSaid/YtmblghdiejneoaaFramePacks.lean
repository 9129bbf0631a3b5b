/- FramePacks: for every content, frame.Pack answers what the document's reference answers, and Split finds that content alone in the frame; no condition. -/
import Derived.Test.YtmblghdiejneoaaAlive
import Derived.Test.YtmblghdiejneoaaRows
import Derived.ProofKit
import Derived.OpenShut
import Derived.ShutString
namespace Go.Proofs.Ytmblghdiejneoaa.framePacks
open Go.ChangeShapes Go.WideShapes Go.ChangeAt Go.RowKit
open Go.ChangeMaps (open_string shut_string)
set_option linter.unusedVariables false

theorem own : ownKnob Try.prog.godebug = none := by kernel_rfl

set_option maxRecDepth 100000 in
set_option maxHeartbeats 2000000 in
theorem walk_great (s : ByteArray) (w : World) (h : 4096 < s.size) :
    Calls Try.prog 3 #[.string s] w fun e w' => e = .returned (.bool true) ∧ Below w.heap.size w w' := by
  have h1 := Lib.hid (rpack_great s w h)
  have h2 := Lib.hid (fun w => pack_great s w h)
  clear h
  have hs : (⟨#[]⟩ : ByteArray).toList = [] := by simp
  go_enter Try.func3, Try.ntmps3
  go_wp2_with fail
  refine h1.out.mono ?_
  rintro e w1 ⟨rfl, hb1⟩
  have HB1 := Lib.hid hb1
  clear hb1
  go_wp2_with fail
  refine (h2.out _).mono ?_
  rintro e w2 ⟨rfl, hb2⟩
  have HB2 := Lib.hid (Below.next HB1.out hb2)
  clear hb2
  go_wp2_with fail
  refine (alive_any _).mono ?_
  rintro e w3 ⟨rfl, hb3⟩
  have HB3 := Lib.hid (Below.next HB2.out hb3)
  clear hb3
  go_wp2_with fail
  go_ret
  exact ⟨rfl, HB3.out⟩

set_option maxRecDepth 100000 in
set_option maxHeartbeats 2000000 in
theorem walk_fits (s : ByteArray) (w : World) (h : s.size ≤ 4096) :
    Calls Try.prog 3 #[.string s] w fun e w' => e = .returned (.bool true) ∧ Below w.heap.size w w' := by
  have h1 := rpack_fits s w h
  have h2 := fun w => pack_fits s w h
  have hl : s.data.toList.length = s.size := by simp
  obtain ⟨S, hS⟩ : ∃ S : ByteArray, S = ⟨(frameL s.data.toList).toArray⟩ := ⟨_, rfl⟩
  have hSd : S.data.toList = frameL s.data.toList := by rw [hS]
  have hSz : S.size = s.size + 8 := by
    have := frameL_length s.data.toList
    rw [← hSd, hl] at this
    simpa using this
  rw [← hS] at h1 h2
  have H1 := Lib.hid h1
  have H2 := Lib.hid h2
  have HD := Lib.hid hSd
  have HZ := Lib.hid hSz
  have HL := Lib.hid hl
  clear h1 h2 hSd hl hS
  have hcv := fun (w : World) (s : ByteArray) => run_bytes_of_string (P := Try.prog) w 9 28 5 s Try.underlying9 Try.underlying28 Try.underlying5
  have heq := eq_frame'
  go_enter Try.func3, Try.ntmps3
  go_wp2_with fail
  refine H1.out.mono ?_
  rintro e w1 ⟨rfl, hb1⟩
  have HB1 := Lib.hid hb1
  clear hb1
  go_wp2_with fail
  refine (H2.out _).mono ?_
  rintro e w2 ⟨rfl, hb2⟩
  have HB2 := Lib.hid (Below.next HB1.out hb2)
  clear hb2
  go_wp2_with fail
  refine (split_any _ _ _ _ (frameL s.data.toList) (by rw [frameL_length, HL.out]) (by
    have := rd_conv w2 S (grownCap w2 (s.size + 8) 0 5) 5 ((bytesRow S (grownCap w2 (s.size + 8) 0 5)).size, (bytesRow S (grownCap w2 (s.size + 8) 0 5)).size + 1)
    rw [HD.out] at this
    exact this) (fun b' o' e => by cases e; simp) (by omega)).mono ?_
  rintro e w3 ⟨v3, rfl, ho3, hb3, hv3⟩
  have HB3 := Lib.hid (show Below w.heap.size w w3 from by
    refine (HB2.out.alloc HB2.out.size (.cells (bytesRow S (grownCap w2 (s.size + 8) 0 5)) 5 ((bytesRow S (grownCap w2 (s.size + 8) 0 5)).size, (bytesRow S (grownCap w2 (s.size + 8) 0 5)).size + 1))).drew.trans (hb3.mono ?_)
    have := HB2.out.size
    simp; omega)
  rw [split_frame _ (by rw [HL.out]; exact h)] at ho3
  have h1' : ([⟨1, 0, s.data.toList.length + 8, s.data.toList⟩] : List Fr).length = 1 := rfl
  rw [h1'] at ho3
  obtain ⟨g, cap, hv⟩ : ∃ g cap, v3 = .slice (some ⟨g, 0, none⟩) 1 cap := by
    rcases ho3.2 with ⟨_, h⟩ | ⟨g, cap, h, _⟩
    · omega
    · exact ⟨g, cap, h⟩
  subst hv
  obtain ⟨a0, a1, a2, a3⟩ := ho3.frame 0 ⟨1, 0, s.data.toList.length + 8, s.data.toList⟩ rfl
  simp only [Nat.zero_mul, Nat.zero_add] at a0 a1 a2 a3
  have hq : bqF 1 1 0 0 ((s.size : Int) + 8) ((s.size : Int) + 8) s s = true := by simp [bqF]
  have e2 : ((s.data.toList.length + 8 : Nat) : Int) = (s.size : Int) + 8 := by rw [HL.out]; rfl
  have e3 : (⟨s.data.toList.toArray⟩ : ByteArray) = s := by simp
  rw [e2] at a2
  rw [e3] at a3
  clear ho3 hb3 hv3 h1' e2 e3
  go_wp2_with fail
  refine (alive_any _).mono ?_
  rintro e w4 ⟨rfl, hb4⟩
  have HB4 := Lib.hid (Below.next HB3.out hb4)
  clear hb4
  go_wp2_with fail
  go_ret
  exact ⟨rfl, HB4.out⟩

/-- The walk, at every content. -/
theorem walk (s : ByteArray) (w : World) :
    Calls Try.prog 3 #[.string s] w fun e w' => e = .returned (.bool true) ∧ Below w.heap.size w w' := by
  by_cases h : s.size ≤ 4096
  · exact walk_fits s w h
  · exact walk_great s w (by omega)

set_option maxRecDepth 100000 in
theorem lifted (os : Os) (started : os.Started) (H : Type) (enc : TypeId × Value → H) :
    ReturnsInHanded {} Try.checked os 3 .any (Rows.framePacksSpec.pre6 enc Try.prog Try.f3 Rows.framePacksRow.domain false) (Rows.framePacksSpec.post enc Try.prog Try.f3 false true false false) := by
  refine returnsInHanded_of_change (C := Try.checked) own started (by kernel_rfl) Try.func3
    (ChangeSpec.witness6 (enc := enc) (C := Try.checked) false ⟨#[], #[.string ByteArray.empty], []⟩ 8 (by kernel_rfl) (by kernel_rfl) (by kernel_rfl) (by kernel_rfl)) ?_
  intro W base args ds gs before hval0 hW hcnd _
  have hval : ∀ (j : Nat) t v, Try.f3.params[j]? = some t → args[j]? = some v → Value.okWide Try.prog W .any base t v := hval0
  have hW' := hW
  obtain ⟨p, q, hA0, hV, rfl, hfz, hnd⟩ := hW
  have hA : DataW.TrodAll enc Try.prog W 0 (fun _ => true) true Try.f3.params.toList args.toList ds p := hA0
  rw [Try.params3] at hA hval
  obtain ⟨v0, vs0, d0, ds0, p0, q0, hargs, rfl, rfl, h0, r0⟩ := trodAll_cons hA
  obtain ⟨rfl, rfl, rfl⟩ := trodAll_nil r0
  obtain rfl : args = #[v0] := by cases args; simp_all
  obtain ⟨rfl, rfl⟩ := trodVars_none hV
  obtain ⟨a0, rfl, rfl, rfl, w0⟩ := open_string Try.underlying9 (hval 0 9 v0 rfl rfl) h0
  clear hA0 hval0
  simp only [List.append_nil] at hW'
  refine (walk a0 W).mono fun e W' ⟨he, bel⟩ => ?_
  subst he
  exact ⟨_, rfl, _, _, _, [], _, [], hW', trodAll_mk1 (shut_bool Try.underlying4 _), (trodAll_cons_mk (shut_string Try.underlying9 w0) trodAll_mk0), rfl, bel.frame _, fun h => by cases h⟩

theorem over : Rows.framePacksRow.holds Try.pinned (OpenSpec.ofChange Rows.framePacksSpec) :=
  OpenClaim.holds_of_wide 3 Try.f3 rfl rfl rfl rfl rfl rfl rfl ⟨rfl, rfl, rfl, rfl, rfl⟩ rfl rfl rfl rfl rfl (by kernel_rfl) Try.func3 (by kernel_rfl)
    (of_decide_eq_true (by kernel_rfl)) (by unfold Func.isWrapper; first | (rw [if_pos (by decide +kernel)]; kernel_rfl) | (rw [if_neg (by decide +kernel)]; exact ⟨rfl, rfl⟩))
    (fun os started H enc _ => lifted os started H enc)

/-- The statement. -/
theorem proved : Rows.FramePacksSaid := over
#print axioms proved
end Go.Proofs.Ytmblghdiejneoaa.framePacks
