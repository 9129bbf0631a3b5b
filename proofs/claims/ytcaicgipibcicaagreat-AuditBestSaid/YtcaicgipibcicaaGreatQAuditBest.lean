/- AuditBest: of every configuration, every record and every list of pairs: of a record that audit.Record takes each pair fits, stands once, all could wait so long, and no other matching of its graph is worth more; no condition. -/
import Derived.Test.YtcaicgipibcicaaGreatQBestW
import Derived.Test.YtcaicgipibcicaaGreatQOpenRecs
import Derived.Deep.Grids
import Derived.Test.YtcaicgipibcicaaGreatRows
import Derived.ProofKit
import Derived.OpenShut
import Derived.ShutString
import Derived.ChangeOld
import Derived.JoinedCond
import Derived.SizedLaws
namespace Go.Proofs.YtcaicgipibcicaaGreat.auditBest
set_option maxRecDepth 100000
open Go.ChangeShapes Go.WideShapes Go.ChangeAt Go.RowKit
open Go.ChangeMaps (open_string shut_string)
set_option linter.unusedVariables false

theorem own : ownKnob Tryz.prog.godebug = none := by kernel_rfl
theorem laidOut : laidOutB Tryz.prog = true := by kernel_rfl

set_option maxRecDepth 100000 in
theorem lifted (os : Os) (started : os.Started) (H : Type) (enc : TypeId × Value → H) :
    ReturnsInHanded {} Tryz.checked os 7 .any (Rows.auditBestSpec.pre6 enc Tryz.prog Tryz.f7 Rows.auditBestRow.domain false) (Rows.auditBestSpec.post enc Tryz.prog Tryz.f7 false true false false) := by
  refine returnsInHanded_of_change_sized (C := Tryz.checked) own started (by kernel_rfl) Tryz.func7
    (ChangeSpec.witness6 (enc := enc) (C := Tryz.checked) false ⟨#[], #[.agg #[.int .i64 0, .int .i64 0, .int .i64 0, .int .i64 0, .int .i64 0], .agg #[.int .i64 0, .slice none 0 0, .slice none 0 0, .int .i64 0, .int .i64 0, .slice none 0 0, .slice none 0 0, .slice none 0 0, .slice none 0 0], .slice none 0 0], []⟩ 8 (by kernel_rfl) (by kernel_rfl) (by kernel_rfl) (by kernel_rfl)) ?_
  intro W base args ds gs before hval0 hW _ hsz0 _
  have hval : ∀ (j : Nat) t v, Tryz.f7.params[j]? = some t → args[j]? = some v → Value.okWide Tryz.prog W .any base t v := hval0
  have hW' := hW
  obtain ⟨p, q, hA0, hV, rfl, hfz, hnd⟩ := hW
  have hA : DataW.TrodAll enc Tryz.prog W 0 (fun _ => true) true Tryz.f7.params.toList args.toList ds p := hA0
  have hsz : (DataW.weightsEach Tryz.prog (Tryz.f7.params.toList ++ Rows.auditBestSpec.plain.varTypes Tryz.prog) (ds ++ gs)).all (· ≤ reachBytes) = true := hsz0
  rw [Tryz.params7] at hA hval hsz
  obtain ⟨v0, vs0, dd0, ds0, p0, q0, hargs, rfl, rfl, h0, r0⟩ := trodAll_cons hA
  obtain ⟨v1, vs1, dd1, ds1, p1, q1, hargs1, rfl, rfl, h1, r1⟩ := trodAll_cons r0
  obtain ⟨v2, vs2, dd2, ds2, p2, q2, hargs2, rfl, rfl, h2, r2⟩ := trodAll_cons r1
  obtain ⟨rfl, rfl, rfl⟩ := trodAll_nil r2
  obtain rfl : args = #[v0, v1, v2] := by cases args; simp_all
  obtain ⟨rfl, rfl⟩ := trodVars_none hV
  obtain ⟨a0, rfl, _⟩ := okWide_struct Tryz.underlying23 (hval 0 23 v0 rfl rfl)
  obtain ⟨a1, rfl, _⟩ := okWide_struct Tryz.underlying34 (hval 1 34 v1 rfl rfl)
  obtain ⟨po, pn, pc, rfl⟩ := okWide_slice Tryz.underlying29 (hval 2 29 v2 rfl rfl)
  have k0 := h0
  have k1 := h1
  have k2 := h2
  have lt0 : ∀ x ∈ p0, x.block < W.heap.size := by obtain ⟨m, hm⟩ := k0; exact DataW.trod_lt m _ _ _ hm
  have lt1 : ∀ x ∈ p1, x.block < W.heap.size := by obtain ⟨m, hm⟩ := k1; exact DataW.trod_lt m _ _ _ hm
  have lt2 : ∀ x ∈ p2, x.block < W.heap.size := by obtain ⟨m, hm⟩ := k2; exact DataW.trod_lt m _ _ _ hm
  obtain ⟨n0, g0⟩ := h0
  obtain ⟨c, hc, _⟩ := open_conf g0
  obtain rfl : a0 = #[.int .i64 c.q, .int .i64 c.d, .int .i64 c.w, .int .i64 c.ttl, .int .i64 c.b] := by
    have hc' : a0.toList = c.cells := by simpa [Value.cells] using hc
    have : a0.toList = [.int .i64 c.q, .int .i64 c.d, .int .i64 c.w, .int .i64 c.ttl, .int .i64 c.b] := hc'
    rw [← Array.toArray_toList (xs := a0), this]
  obtain ⟨n1, g1⟩ := h1
  obtain ⟨v, hv, hrd, _, hwt⟩ := open_rec g1
  obtain rfl : a1 = #[.int .i64 v.x.tick, .slice v.wo v.wn v.wc, .slice v.ko v.kn v.kc, .int .i64 v.x.rows, .int .i64 v.x.cols, .slice v.eo v.en v.ec, .slice v.po v.pn v.pc, .slice v.yo v.yn v.yc, .slice v.zo v.zn v.zc] := by
    have : a1.toList = [.int .i64 v.x.tick, .slice v.wo v.wn v.wc, .slice v.ko v.kn v.kc, .int .i64 v.x.rows, .int .i64 v.x.cols, .slice v.eo v.en v.ec, .slice v.po v.pn v.pc, .slice v.yo v.yn v.yc, .slice v.zo v.zn v.zc] := by simpa [Value.cells] using hv
    rw [← Array.toArray_toList (xs := a1), this]
  obtain ⟨b1, b2, b3, b4, b5, b6⟩ := hwt reachBytes (fun n hn => by
    have := List.all_eq_true.1 hsz n (DataW.weights_mem_each (j := 1) rfl rfl n hn)
    simpa using this)
  obtain ⟨n2, g2⟩ := h2
  have g2' : DataW.trod enc Tryz.prog W 0 (fun _ => true) true n2 29 [.slice po pn pc] = some (dd2, p2) := g2
  obtain ⟨other, ho1, ho2, _, _, _⟩ := flat_slice Tryz.underlying29 flat_pair (by decide) PPair.cells decPair (fun _ => rfl) g2'
  have hpn := slice_weight Tryz.underlying29 g2' (B := reachBytes) (fun m hm => by
    have := List.all_eq_true.1 hsz m (DataW.weights_mem_each (j := 2) rfl rfl m hm)
    simpa using this)
  rw [bytes_pair] at hpn
  have hr : reachBytes = 140737488351232 := rfl
  rw [hr] at b1 b2 b3 b4 b5 b6 hpn
  clear hA0 hval0 hsz0 hsz hwt
  refine (bestW_any W c v po pn pc other ⟨by omega, by omega, by omega, by omega, by omega, by omega⟩ (fun hs => hrd.in (by unfold sizeN at hs; omega) (by unfold sizeN at hs; omega) (by unfold sizeN at hs; omega) (by unfold sizeN at hs; omega) (by unfold sizeN at hs; omega) (by unfold sizeN at hs; omega)) (by omega) ho1 ho2).mono fun e W' ⟨he, bel⟩ => ?_
  subst he
  exact ⟨_, rfl, _, _, _, [], _, [], hW', trodAll_mk1 (shut_bool Tryz.underlying4 _), (trodAll_cons_mk (Below.trod laidOut (by kernel_rfl) (of_decide_eq_true (by kernel_rfl)) k0 bel lt0) (trodAll_cons_mk (Below.trod laidOut (by kernel_rfl) (of_decide_eq_true (by kernel_rfl)) k1 bel lt1) (trodAll_cons_mk (Below.trod laidOut (by kernel_rfl) (of_decide_eq_true (by kernel_rfl)) k2 bel lt2) trodAll_mk0))), rfl, bel.frame _, fun h => by cases h⟩

theorem over : Rows.auditBestRow.holds Tryz.pinned (OpenSpec.ofChange Rows.auditBestSpec) :=
  OpenClaim.holds_of_wide 7 Tryz.f7 rfl rfl rfl rfl rfl rfl rfl ⟨rfl, rfl, rfl, rfl, rfl⟩ rfl rfl rfl rfl rfl (by kernel_rfl) Tryz.func7 (by kernel_rfl)
    (of_decide_eq_true (by kernel_rfl)) (by unfold Func.isWrapper; first | (rw [if_pos (by decide +kernel)]; kernel_rfl) | (rw [if_neg (by decide +kernel)]; exact ⟨rfl, rfl⟩))
    (fun os started H enc _ => lifted os started H enc)

/-- The statement. -/
theorem proved : Rows.AuditBestSaid := over
#print axioms proved
end Go.Proofs.YtcaicgipibcicaaGreat.auditBest
