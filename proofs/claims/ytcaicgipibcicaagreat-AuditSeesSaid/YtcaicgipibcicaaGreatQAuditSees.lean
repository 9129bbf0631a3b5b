/- AuditSees: of every two configurations and every list of records, seen in whatever turns, the auditors say what the document's reference says; one that is not there and one that nobody made say ErrNil; each record stays; no condition. -/
import Derived.Test.YtcaicgipibcicaaGreatQSees
import Derived.Test.YtcaicgipibcicaaGreatQOpenRecs
import Derived.Deep.Grids
import Derived.Test.YtcaicgipibcicaaGreatRows
import Derived.ProofKit
import Derived.OpenShut
import Derived.ShutString
import Derived.ChangeOld
import Derived.JoinedCond
import Derived.SizedLaws
namespace Go.Proofs.YtcaicgipibcicaaGreat.auditSees
set_option maxRecDepth 100000
open Go.ChangeShapes Go.WideShapes Go.ChangeAt Go.RowKit
open Go.ChangeMaps (open_string shut_string)
set_option linter.unusedVariables false

theorem own : ownKnob Tryz.prog.godebug = none := by kernel_rfl
theorem laidOut : laidOutB Tryz.prog = true := by kernel_rfl

set_option maxRecDepth 100000 in
theorem lifted (os : Os) (started : os.Started) (H : Type) (enc : TypeId × Value → H) :
    ReturnsInHanded {} Tryz.checked os 4 .any (Rows.auditSeesSpec.pre6 enc Tryz.prog Tryz.f4 Rows.auditSeesRow.domain false) (Rows.auditSeesSpec.post enc Tryz.prog Tryz.f4 false true false false) := by
  refine returnsInHanded_of_change_sized (C := Tryz.checked) own started (by kernel_rfl) Tryz.func4
    (ChangeSpec.witness6 (enc := enc) (C := Tryz.checked) false ⟨#[], #[.agg #[.int .i64 0, .int .i64 0, .int .i64 0, .int .i64 0, .int .i64 0], .agg #[.int .i64 0, .int .i64 0, .int .i64 0, .int .i64 0, .int .i64 0], .slice none 0 0, .slice none 0 0], []⟩ 8 (by kernel_rfl) (by kernel_rfl) (by kernel_rfl) (by kernel_rfl)) ?_
  intro W base args ds gs before hval0 hW _ hsz0 _
  have hval : ∀ (j : Nat) t v, Tryz.f4.params[j]? = some t → args[j]? = some v → Value.okWide Tryz.prog W .any base t v := hval0
  have hW' := hW
  obtain ⟨p, q, hA0, hV, rfl, hfz, hnd⟩ := hW
  have hA : DataW.TrodAll enc Tryz.prog W 0 (fun _ => true) true Tryz.f4.params.toList args.toList ds p := hA0
  have hsz : (DataW.weightsEach Tryz.prog (Tryz.f4.params.toList ++ Rows.auditSeesSpec.plain.varTypes Tryz.prog) (ds ++ gs)).all (· ≤ reachBytes) = true := hsz0
  rw [Tryz.params4] at hA hval hsz
  obtain ⟨v0, vs0, dd0, ds0, p0, q0, hargs, rfl, rfl, h0, r0⟩ := trodAll_cons hA
  obtain ⟨v1, vs1, dd1, ds1, p1, q1, hargs1, rfl, rfl, h1, r1⟩ := trodAll_cons r0
  obtain ⟨v2, vs2, dd2, ds2, p2, q2, hargs2, rfl, rfl, h2, r2⟩ := trodAll_cons r1
  obtain ⟨v3, vs3, dd3, ds3, p3, q3, hargs3, rfl, rfl, h3, r3⟩ := trodAll_cons r2
  obtain ⟨rfl, rfl, rfl⟩ := trodAll_nil r3
  obtain rfl : args = #[v0, v1, v2, v3] := by cases args; simp_all
  obtain ⟨rfl, rfl⟩ := trodVars_none hV
  obtain ⟨a0, rfl, _⟩ := okWide_struct Tryz.underlying23 (hval 0 23 v0 rfl rfl)
  obtain ⟨a1, rfl, _⟩ := okWide_struct Tryz.underlying23 (hval 1 23 v1 rfl rfl)
  obtain ⟨lo, n, cp, rfl⟩ := okWide_slice Tryz.underlying43 (hval 2 43 v2 rfl rfl)
  obtain ⟨so, sn, sc, rfl⟩ := okWide_slice Tryz.underlying44 (hval 3 44 v3 rfl rfl)
  have k0 := h0
  have k1 := h1
  have k2 := h2
  have k3 := h3
  have lt0 : ∀ x ∈ p0, x.block < W.heap.size := by obtain ⟨m, hm⟩ := k0; exact DataW.trod_lt m _ _ _ hm
  have lt1 : ∀ x ∈ p1, x.block < W.heap.size := by obtain ⟨m, hm⟩ := k1; exact DataW.trod_lt m _ _ _ hm
  have lt2 : ∀ x ∈ p2, x.block < W.heap.size := by obtain ⟨m, hm⟩ := k2; exact DataW.trod_lt m _ _ _ hm
  have lt3 : ∀ x ∈ p3, x.block < W.heap.size := by obtain ⟨m, hm⟩ := k3; exact DataW.trod_lt m _ _ _ hm
  obtain ⟨n0, g0⟩ := h0
  obtain ⟨c, hc, _⟩ := open_conf g0
  obtain rfl : a0 = #[.int .i64 c.q, .int .i64 c.d, .int .i64 c.w, .int .i64 c.ttl, .int .i64 c.b] := by
    have hc' : a0.toList = c.cells := by simpa [Value.cells] using hc
    have : a0.toList = [.int .i64 c.q, .int .i64 c.d, .int .i64 c.w, .int .i64 c.ttl, .int .i64 c.b] := hc'
    rw [← Array.toArray_toList (xs := a0), this]
  obtain ⟨n1, g1⟩ := h1
  obtain ⟨d, hd, _⟩ := open_conf g1
  obtain rfl : a1 = #[.int .i64 d.q, .int .i64 d.d, .int .i64 d.w, .int .i64 d.ttl, .int .i64 d.b] := by
    have hd' : a1.toList = d.cells := by simpa [Value.cells] using hd
    have : a1.toList = [.int .i64 d.q, .int .i64 d.d, .int .i64 d.w, .int .i64 d.ttl, .int .i64 d.b] := hd'
    rw [← Array.toArray_toList (xs := a1), this]
  obtain ⟨n2, g2⟩ := h2
  have g2' : DataW.trod enc Tryz.prog W 0 (fun _ => true) true n2 43 [.slice lo n cp] = some (dd2, p2) := g2
  obtain ⟨vs, hvl, hvr, hvs, hvn⟩ := open_recs g2' (B := reachBytes) (fun m hm => by
    have := List.all_eq_true.1 hsz m (DataW.weights_mem_each (j := 2) rfl rfl m hm)
    simpa using this)
  obtain ⟨n3, g3⟩ := h3
  have g3' : DataW.trod enc Tryz.prog W 0 (fun _ => true) true n3 44 [.slice so sn sc] = some (dd3, p3) := g3
  obtain ⟨bs, hbl, hbr⟩ := open_bits g3'
  have hsn := slice_weight Tryz.underlying44 g3' (B := reachBytes) (fun m hm => by
    have := List.all_eq_true.1 hsz m (DataW.weights_mem_each (j := 3) rfl rfl m hm)
    simpa using this)
  rw [bytes_bool] at hsn
  have hr : reachBytes = 140737488351232 := rfl
  rw [hr] at hvn hsn
  rw [hr] at hvs
  clear hA0 hval0 hsz0 hsz
  refine (sees_any W c d lo n cp vs so sn sc bs hvl hvr (by omega) (fun v hv => ?_) (fun v hv hs => ?_) hbl hbr (by omega)).mono fun e W' ⟨he, bel⟩ => ?_
  · obtain ⟨_, w1, w2, w3, w4, w5, w6⟩ := hvs v hv
    exact ⟨by omega, by omega, by omega, by omega, by omega, by omega⟩
  · exact (hvs v hv).1.in (by unfold sizeN at hs; omega) (by unfold sizeN at hs; omega) (by unfold sizeN at hs; omega) (by unfold sizeN at hs; omega) (by unfold sizeN at hs; omega) (by unfold sizeN at hs; omega)
  subst he
  exact ⟨_, rfl, _, _, _, [], _, [], hW', trodAll_mk1 (shut_bool Tryz.underlying4 _), (trodAll_cons_mk (Below.trod laidOut (by kernel_rfl) (of_decide_eq_true (by kernel_rfl)) k0 bel lt0) (trodAll_cons_mk (Below.trod laidOut (by kernel_rfl) (of_decide_eq_true (by kernel_rfl)) k1 bel lt1) (trodAll_cons_mk (Below.trod laidOut (by kernel_rfl) (of_decide_eq_true (by kernel_rfl)) k2 bel lt2) (trodAll_cons_mk (Below.trod laidOut (by kernel_rfl) (of_decide_eq_true (by kernel_rfl)) k3 bel lt3) trodAll_mk0)))), rfl, bel.frame _, fun h => by cases h⟩

theorem over : Rows.auditSeesRow.holds Tryz.pinned (OpenSpec.ofChange Rows.auditSeesSpec) :=
  OpenClaim.holds_of_wide 4 Tryz.f4 rfl rfl rfl rfl rfl rfl rfl ⟨rfl, rfl, rfl, rfl, rfl⟩ rfl rfl rfl rfl rfl (by kernel_rfl) Tryz.func4 (by kernel_rfl)
    (of_decide_eq_true (by kernel_rfl)) (by unfold Func.isWrapper; first | (rw [if_pos (by decide +kernel)]; kernel_rfl) | (rw [if_neg (by decide +kernel)]; exact ⟨rfl, rfl⟩))
    (fun os started H enc _ => lifted os started H enc)

/-- The statement. -/
theorem proved : Rows.AuditSeesSaid := over
#print axioms proved
end Go.Proofs.YtcaicgipibcicaaGreat.auditSees
