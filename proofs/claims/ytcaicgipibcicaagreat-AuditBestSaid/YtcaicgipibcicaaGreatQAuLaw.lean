/- A new auditor of the reference's. -/
import Derived.Test.YtcaicgipibcicaaGreatQAuRef6
namespace Go.Proofs.YtcaicgipibcicaaGreat
set_option maxRecDepth 100000
set_option linter.unusedVariables false
set_option linter.unusedSimpArgs false
open Go.RowKit Go.Sort

/-- What the reference's New answers. -/
def rnewV (c : PConf) : Value := if configF c then .agg #[.int .i64 c.q, .int .i64 c.d, .int .i64 c.w, .int .i64 c.ttl, .int .i64 c.b, .slice none 0 0] else .agg #[.int .i64 0, .int .i64 0, .int .i64 0, .int .i64 0, .int .i64 0, .slice none 0 0]

set_option maxHeartbeats 4000000 in
theorem rnewAu_any (w : World) (c : PConf) : Calls Tryz.prog 19 #[.agg #[.int .i64 c.q, .int .i64 c.d, .int .i64 c.w, .int .i64 c.ttl, .int .i64 c.b]] w fun e w' => e = .returned (.tuple #[rnewV c, .int .i64 (configE c)]) ∧ Below w.heap.size w w' := by
  have HE0 := Lib.hid (configE_or c)
  have HB := Lib.hid (((Below.refl w.heap.size w).alloc (Nat.le_refl _) (.cells #[.int .i64 c.q, .int .i64 c.d, .int .i64 c.w, .int .i64 c.ttl, .int .i64 c.b] 23)).alloc (by simp) (.cells #[.int .i64 0, .int .i64 0, .int .i64 0, .int .i64 0, .int .i64 0, .slice none 0 0] 50))
  have HH := Lib.hid ((Keep.alloc (fun _ => False) _ (.cells #[.int .i64 0, .int .i64 0, .int .i64 0, .int .i64 0, .int .i64 0, .slice none 0 0] 50)).old (heap_alloc_new w (.cells #[.int .i64 c.q, .int .i64 c.d, .int .i64 c.w, .int .i64 c.ttl, .int .i64 c.b] 23)) id)
  have HZ := Lib.hid (show ((w.alloc (.cells #[.int .i64 c.q, .int .i64 c.d, .int .i64 c.w, .int .i64 c.ttl, .int .i64 c.b] 23)).alloc (.cells #[.int .i64 0, .int .i64 0, .int .i64 0, .int .i64 0, .int .i64 0, .slice none 0 0] 50)).heap[w.heap.size + 1]? = some (.cells #[.int .i64 0, .int .i64 0, .int .i64 0, .int .i64 0, .int .i64 0, .slice none 0 0] 50 (0, 0)) from by
    have := heap_alloc_new (w.alloc (.cells #[.int .i64 c.q, .int .i64 c.d, .int .i64 c.w, .int .i64 c.ttl, .int .i64 c.b] 23)) (.cells #[.int .i64 0, .int .i64 0, .int .i64 0, .int .i64 0, .int .i64 0, .slice none 0 0] 50)
    rw [show (w.alloc (.cells #[.int .i64 c.q, .int .i64 c.d, .int .i64 c.w, .int .i64 c.ttl, .int .i64 c.b] 23)).heap.size = w.heap.size + 1 by simp] at this
    exact this)
  go_enter Tryz.func19, Tryz.ntmps19
  go_upto_region 1 with fail
  generalize (w.alloc (.cells #[.int .i64 c.q, .int .i64 c.d, .int .i64 c.w, .int .i64 c.ttl, .int .i64 c.b] 23)).alloc (.cells #[.int .i64 0, .int .i64 0, .int .i64 0, .int .i64 0, .int .i64 0, .slice none 0 0] 50) = W at *
  obtain ⟨H, hH⟩ : ∃ H, w.heap.size = H := ⟨_, rfl⟩
  have HHE := Lib.hid hH
  rw [hH] at HH HZ ⊢
  clear hH
  obtain ⟨g0, g1, g2, g3, g4⟩ := conf_cells HH.out
  have HHL := Lib.hid (show w.heap.size ≤ H + 1 by rw [HHE.out]; omega)
  go_wp2_with fail
  refine (rconfig_any W c).mono ?_
  rintro e w2 ⟨rfl, hb2⟩
  have HB2 := Lib.hid (Below.next HB.out hb2)
  have HH2 := Lib.hid ((Keep.of_below hb2 (Nat.le_refl _) (fun _ => False)).old HH.out id)
  have HZ2 := Lib.hid ((Keep.of_below hb2 (Nat.le_refl _) (fun _ => False)).old HZ.out id)
  clear hb2 g0 g1 g2 g3 g4
  obtain ⟨g0, g1, g2, g3, g4⟩ := conf_cells HH2.out
  obtain ⟨z0, z1, z2, z3, z4, z5⟩ := cells6 HZ2.out
  have zf := fun j => frozen_of_row w2 (H + 1) j _ _ HZ2.out
  rcases HE0.out with ⟨h0, hc⟩ | ⟨h0, hc⟩
  · have HF := Lib.hid (show rnewV c = .agg #[.int .i64 c.q, .int .i64 c.d, .int .i64 c.w, .int .i64 c.ttl, .int .i64 c.b, .slice none 0 0] by simp [rnewV, hc])
    have HE := Lib.hid h0
    rw [h0]
    clear h0 hc
    go_wp2_with fail
    have hHl := HHL.out
    exact bodyPost_ret (v := .tuple #[.agg #[.int .i64 c.q, .int .i64 c.d, .int .i64 c.w, .int .i64 c.ttl, .int .i64 c.b, .slice none 0 0], .int .i64 0]) (by simp [results, Tryz.results19, go_sem, *]) rfl ⟨by rw [HF.out, HE.out], ((((((HB2.out.setCell hHl _).setCell hHl _).setCell hHl _).setCell hHl _).setCell hHl _).setCell hHl _)⟩
  · have HF := Lib.hid (show rnewV c = .agg #[.int .i64 0, .int .i64 0, .int .i64 0, .int .i64 0, .int .i64 0, .slice none 0 0] by simp [rnewV, hc])
    have HE := Lib.hid h0
    rw [h0]
    clear h0 hc
    go_wp2_with fail
    have hHl := HHL.out
    exact bodyPost_ret (v := .tuple #[.agg #[.int .i64 0, .int .i64 0, .int .i64 0, .int .i64 0, .int .i64 0, .slice none 0 0], .int .i64 160]) (by simp [results, Tryz.results19, go_sem, *]) rfl ⟨by rw [HF.out, HE.out], ((((((HB2.out.setCell hHl _).setCell hHl _).setCell hHl _).setCell hHl _).setCell hHl _).setCell hHl _)⟩
end Go.Proofs.YtcaicgipibcicaaGreat

/- Two auditors answer alike: the program's, who keeps where each request stood last, and the reference's, who keeps all records. No program in sight. -/
namespace Go.Proofs.YtcaicgipibcicaaGreat
set_option linter.unusedVariables false
set_option linter.unusedSimpArgs false
open Go.RowKit

theorem once_inj {ids : List (List Int)} (h : onceF ids = true) {i j : Nat} {a : List Int} (hi : ids[i]? = some a) (hj : ids[j]? = some a) : i = j := by
  have key : ∀ i j : Nat, i < j → ids[i]? = some a → ids[j]? = some a → False := by
    intro i j hlt hi hj
    have h1 := allF_at h (List.getElem?_eq_some_iff.1 hj).1
    simp only [newAt, hj] at h1
    have h2 := allF_at h1 hlt
    simp [hi] at h2
  rcases Nat.lt_trichotomy i j with h | h | h
  · exact (key i j h hi hj).elim
  · exact h
  · exact (key j i h hj hi).elim
theorem audit_lists {c : PConf} {x : PRec} (hc : configF c = true) (h : auditE c x = 0) : listsF c x = true := by
  unfold auditE at h
  have hc0 : ¬ configE c ≠ 0 := by simp [configE, hc]
  rw [if_neg hc0] at h
  split at h
  · omega
  · split at h
    · rename_i h1; exact absurd h h1
    · split at h
      · omega
      · rename_i h1; simpa using h1
/-- What is used of a record that may be. -/
structure RecOk (x : PRec) : Prop where
  inj : ∀ (i j : Nat) (y z : PWait), x.ws[i]? = some y → x.ws[j]? = some z → idR y.r = idR z.r → i = j
  pos : ∀ p ∈ x.ps, 0 ≤ p.r
  since : ∀ y ∈ x.ws, 0 ≤ y.since
theorem recOk_of {c : PConf} {x : PRec} (hc : configF c = true) (h : auditE c x = 0) : RecOk x := by
  have hr := auditE_rec hc h
  have hl := audit_lists hc h
  obtain ⟨h1, h2, h3, h4, h5, h6⟩ := recE_good hr
  refine ⟨fun i j y z hi hj he => ?_, fun p hp => ?_, fun y hy => ?_⟩
  · unfold listsF at hl
    simp only [Bool.and_eq_true] at hl
    exact once_inj hl.1.2 (a := idR y.r) (by rw [List.getElem?_map, hi]; rfl) (by rw [List.getElem?_map, hj, he]; rfl)
  · obtain ⟨j, hj⟩ := List.getElem?_of_mem hp
    have := match_rows (shape_of hr).1 h5 j p hj
    omega
  · obtain ⟨j, hj⟩ := List.getElem?_of_mem hy
    have := allF_at h2 (List.getElem?_eq_some_iff.1 hj).1
    rw [waitAt_eq hj] at this
    exact (of_decide_eq_true this).2.1

theorem lookP_cons (k : List Int) (s : PStand) (m : List (List Int × PStand)) (id : List Int) : lookP ((k, s) :: m) id = if k = id then some s else lookP m id := by
  unfold lookP
  by_cases h : k = id
  · simp [List.find?_cons, h]
  · simp [List.find?_cons, h]
theorem putW_cons (t : Int) (y : PWait) (ws : List PWait) (m : List (List Int × PStand)) : putW t (y :: ws) m = putW t ws ((idR y.r, ⟨y, t, true⟩) :: m) := rfl
theorem look_putW_no (t : Int) (id : List Int) : ∀ (ws : List PWait) (m : List (List Int × PStand)), (∀ y ∈ ws, idR y.r ≠ id) → lookP (putW t ws m) id = lookP m id := by
  intro ws
  induction ws with
  | nil => intro m _; rfl
  | cons y ws ih =>
    intro m h
    rw [putW_cons, ih _ (fun z hz => h z (List.mem_cons_of_mem _ hz)), lookP_cons, if_neg (h y List.mem_cons_self)]
theorem look_putW_yes (t : Int) (id : List Int) (y : PWait) (hid : idR y.r = id) : ∀ (ws : List PWait) (m : List (List Int × PStand)), y ∈ ws → (∀ z ∈ ws, idR z.r = id → z = y) → lookP (putW t ws m) id = some ⟨y, t, true⟩ := by
  intro ws
  induction ws with
  | nil => intro m h; cases h
  | cons z ws ih =>
    intro m hm hu
    rw [putW_cons]
    by_cases hin : ∃ z ∈ ws, idR z.r = id
    · obtain ⟨q, hq, he⟩ := hin
      exact ih _ (by rw [← hu q (List.mem_cons_of_mem _ hq) he]; exact hq) (fun z hz => hu z (List.mem_cons_of_mem _ hz))
    · rw [look_putW_no t id ws _ (fun q hq e => hin ⟨q, hq, e⟩), lookP_cons]
      rcases List.mem_cons.1 hm with rfl | h
      · rw [if_pos hid]
      · exact (hin ⟨y, h, hid⟩).elim
def putOne (t : Int) (ws : List PWait) (m : List (List Int × PStand)) (p : PPair) : List (List Int × PStand) := match ws[p.r.toNat]? with | none => m | some y => (idR y.r, ⟨y, t, false⟩) :: m
theorem putP_cons (t : Int) (ws : List PWait) (p : PPair) (ps : List PPair) (m : List (List Int × PStand)) : putP t ws (p :: ps) m = putP t ws ps (putOne t ws m p) := rfl
theorem look_putP_no (t : Int) (id : List Int) (ws : List PWait) : ∀ (ps : List PPair) (m : List (List Int × PStand)), (∀ p ∈ ps, ∀ y, ws[p.r.toNat]? = some y → idR y.r ≠ id) → lookP (putP t ws ps m) id = lookP m id := by
  intro ps
  induction ps with
  | nil => intro m _; rfl
  | cons p ps ih =>
    intro m h
    rw [putP_cons, ih _ (fun z hz => h z (List.mem_cons_of_mem _ hz))]
    unfold putOne
    split
    · rfl
    · rename_i y hy
      rw [lookP_cons, if_neg (h p List.mem_cons_self y hy)]
theorem look_putP_yes (t : Int) (id : List Int) (ws : List PWait) (y : PWait) (hid : idR y.r = id) (hu : ∀ z ∈ ws, idR z.r = id → z = y) : ∀ (ps : List PPair) (m : List (List Int × PStand)), (∃ p ∈ ps, ws[p.r.toNat]? = some y) → lookP (putP t ws ps m) id = some ⟨y, t, false⟩ := by
  intro ps
  induction ps with
  | nil => rintro m ⟨p, h, _⟩; cases h
  | cons p ps ih =>
    rintro m ⟨q, hq, hy⟩
    rw [putP_cons]
    by_cases hin : ∃ q ∈ ps, ∃ z, ws[q.r.toNat]? = some z ∧ idR z.r = id
    · obtain ⟨q, hq, z, hz, he⟩ := hin
      exact ih _ ⟨q, hq, by rw [hz, hu z (List.mem_of_getElem? hz) he]⟩
    · rw [look_putP_no t id ws ps _ (fun q hq z hz e => hin ⟨q, hq, z, hz, e⟩)]
      rcases List.mem_cons.1 hq with rfl | h
      · unfold putOne
        rw [hy]
        simp only [lookP_cons, if_pos hid]
      · exact (hin ⟨q, h, y, hy, hid⟩).elim
/-- What is known of an id behind a record. -/
theorem look_put {x : PRec} (hx : RecOk x) (t : Int) (m : List (List Int × PStand)) {i : Nat} {y : PWait} (hy : x.ws[i]? = some y) : lookP (putP t x.ws x.ps (putW t x.ws m)) (idR y.r) = some ⟨y, t, freeR x.ps i⟩ := by
  have hu : ∀ z ∈ x.ws, idR z.r = idR y.r → z = y := by
    intro z hz he
    obtain ⟨j, hj⟩ := List.getElem?_of_mem hz
    have := hx.inj j i z y hj hy he
    subst this
    rw [hy] at hj
    exact (Option.some.inj hj).symm
  cases hf : freeR x.ps i with
  | true =>
    rw [look_putP_no, look_putW_yes t _ y rfl x.ws m (List.mem_of_getElem? hy) hu]
    intro p hp z hz he
    have h1 := hx.inj _ _ z y hz hy he
    unfold freeR at hf
    rw [List.all_eq_true] at hf
    have h2 := hf p hp
    have h3 := hx.pos p hp
    simp at h2
    omega
  | false =>
    refine look_putP_yes t _ x.ws y rfl hu x.ps _ ?_
    unfold freeR at hf
    rw [List.all_eq_false] at hf
    obtain ⟨p, hp, h⟩ := hf
    simp at h
    exact ⟨p, hp, by rw [h]; simpa using hy⟩
theorem look_put_no {x : PRec} (t : Int) (m : List (List Int × PStand)) {id : List Int} (h : stoodF x id = false) : lookP (putP t x.ws x.ps (putW t x.ws m)) id = lookP m id := by
  have hn : ∀ y ∈ x.ws, idR y.r ≠ id := by
    intro y hy he
    unfold stoodF at h
    rw [List.any_eq_false] at h
    exact h y hy (by simpa using he)
  rw [look_putP_no _ _ _ _ _ (fun p hp y hy => hn y (List.mem_of_getElem? hy)), look_putW_no _ _ _ _ hn]
theorem stoodF_at {x : PRec} {id : List Int} (h : stoodF x id = true) : ∃ (i : Nat) (y : PWait), x.ws[i]? = some y ∧ idR y.r = id := by
  unfold stoodF at h
  rw [List.any_eq_true] at h
  obtain ⟨y, hy, he⟩ := h
  obtain ⟨i, hi⟩ := List.getElem?_of_mem hy
  exact ⟨i, y, hi, by simpa using he⟩

/-- Both auditors know the same. -/
structure Alike (a : PAu) (ts : List RV) : Prop where
  cf : configF a.c = true
  tick : a.tick = lastT ts
  range : 0 ≤ a.tick ∧ a.tick ≤ 1099511627776
  good : ∀ u ∈ ts, auditE a.c u.x = 0
  known : ∀ id, (lookP a.m id).isSome = ts.any (fun u => stoodF u.x id)
  look : ∀ id s, lookP a.m id = some s → s.tick ≤ a.tick ∧ ∀ u, ts.getLast? = some u →
    (stoodF u.x id = true → s.tick = a.tick ∧ ∃ (i : Nat) (y : PWait), u.x.ws[i]? = some y ∧ idR y.r = id ∧ s.w = y ∧ s.left = freeR u.x.ps i) ∧ (stoodF u.x id = false → s.tick < a.tick)
theorem Alike.new {c : PConf} (hc : configF c = true) : Alike ⟨c, 0, []⟩ [] :=
  ⟨hc, rfl, ⟨Int.le_refl 0, (by show (0 : Int) ≤ 1099511627776; decide)⟩, (fun _ h => by cases h), (fun id => rfl), (fun id s h => by simp [lookP] at h)⟩
theorem leftF_eq {x : PRec} (hx : RecOk x) {i : Nat} {y z : PWait} (hy : x.ws[i]? = some y) (hid : idR y.r = idR z.r) : leftF x z = (freeR x.ps i && bqW y z) := by
  cases hb : (freeR x.ps i && bqW y z) with
  | true => exact leftF_yes (List.getElem?_eq_some_iff.1 hy).1 (by rw [leftAt_eq hy]; exact hb)
  | false =>
    refine leftF_no fun k hk => ?_
    obtain ⟨q, hq⟩ : ∃ q, x.ws[k]? = some q := ⟨_, List.getElem?_eq_getElem hk⟩
    rw [leftAt_eq hq]
    cases hbq : bqW q z with
    | false => simp
    | true =>
      have he := (bqW_iff q z).1 hbq
      subst he
      have := hx.inj k i q y hq hy hid.symm
      subst this
      rw [hy] at hq
      cases hq
      rw [← hb, hbq]
theorem leftF_none {x : PRec} {z : PWait} (h : stoodF x (idR z.r) = false) : leftF x z = false := by
  refine leftF_no fun k hk => ?_
  obtain ⟨q, hq⟩ : ∃ q, x.ws[k]? = some q := ⟨_, List.getElem?_eq_getElem hk⟩
  rw [leftAt_eq hq]
  cases hbq : bqW q z with
  | false => simp
  | true =>
    have he := (bqW_iff q z).1 hbq
    subst he
    rw [stoodF_yes hq rfl] at h
    cases h
theorem Alike.could {a : PAu} {ts : List RV} (h : Alike a ts) {x : PRec} {y : PWait} (hy : 0 ≤ y.since) : couldF a y x.tick = !againF ts x y := by
  by_cases h1 : x.tick ≤ y.since
  · rw [could_late h1, again_late h1]; rfl
  · have hk := h.known (idR y.r)
    cases hl : lookP a.m (idR y.r) with
    | none =>
      rw [hl] at hk
      rw [could_new h1 hl]
      cases hg : ts.getLast? with
      | none =>
        rw [List.getLast?_eq_none_iff] at hg
        subst hg
        rw [again_first h1]
        have := h.tick
        rw [lastT_nil] at this
        rw [this]
        simp [hy]
      | some u =>
        rw [again_new h1 hg hk.symm]
        have ht : a.tick = u.x.tick := by rw [h.tick]; unfold lastT; rw [hg]
        rw [ht, ← decide_not]
        simp
    | some s =>
      rw [hl] at hk
      rw [could_old h1 hl]
      obtain ⟨hs, hu⟩ := h.look _ _ hl
      cases hg : ts.getLast? with
      | none =>
        rw [List.getLast?_eq_none_iff] at hg
        subst hg
        simp at hk
      | some u =>
        rw [again_old h1 hg hk.symm]
        obtain ⟨hu1, hu2⟩ := hu u hg
        have hgood := recOk_of h.cf (h.good u (List.mem_of_getLast? hg))
        cases hst : stoodF u.x (idR y.r) with
        | true =>
          obtain ⟨e1, i, z, hz, hid, hw, hleft⟩ := hu1 hst
          rw [leftF_eq hgood hz hid, e1, hleft, hw]
          simp
        | false =>
          have := hu2 hst
          rw [leftF_none hst]
          have : ¬ s.tick = a.tick := by omega
          simp [this]
theorem Alike.see {a : PAu} {ts : List RV} (h : Alike a ts) (v : RV) : (seeF a v.x).1 = (rseeF a.c ts v).1 ∧ Alike (seeF a v.x).2 (rseeF a.c ts v).2 ∧ (seeF a v.x).2.c = a.c ∧ (rseeF a.c ts v).2.length ≤ ts.length + 1 := by
  by_cases h0 : auditE a.c v.x = 0
  · have hx := recOk_of h.cf h0
    by_cases h1 : v.x.tick = a.tick + a.c.w
    · have h1' : v.x.tick - lastT ts = a.c.w := by rw [← h.tick]; omega
      have hall : couldAll a v.x = allF v.x.ws.length (againAt ts v.x) := by
        unfold couldAll
        refine allF_congr fun j hj => ?_
        obtain ⟨y, hy⟩ : ∃ y, v.x.ws[j]? = some y := ⟨_, List.getElem?_eq_getElem hj⟩
        rw [couldAt_eq hy, againAt_eq hy, h.could (hx.since y (List.mem_of_getElem? hy))]
      cases h2 : couldAll a v.x with
      | false =>
        rw [seeF_3 h0 h1 h2, rsee_3 h0 h1' (by rw [← hall]; exact h2)]
        exact ⟨rfl, h, rfl, Nat.le_succ _⟩
      | true =>
        rw [seeF_4 h0 h1 h2, rsee_4 h0 h1' (by rw [← hall]; exact h2)]
        have hcw : 1 ≤ a.c.w ∧ a.c.w ≤ 1048576 := by
          have := h.cf
          unfold configF at this
          simp only [Bool.and_eq_true] at this
          exact of_decide_eq_true this.1.1.2
        have hlast : (ts ++ [v]).getLast? = some v := by simp
        have htk := rec_tick (auditE_rec h.cf h0)
        have hr := h.range
        refine ⟨rfl, ⟨h.cf, ?_, ⟨by simp only; omega, by simp only; omega⟩, ?_, ?_, ?_⟩, rfl, by simp⟩
        · unfold lastT; rw [hlast]
        · intro u hu
          rcases List.mem_append.1 hu with hu | hu
          · exact h.good u hu
          · cases List.mem_singleton.1 hu; exact h0
        · intro id
          rw [List.any_append]
          cases hst : stoodF v.x id with
          | true =>
            obtain ⟨i, y, hy, rfl⟩ := stoodF_at hst
            simp only
            rw [look_put hx _ _ hy]
            simp [hst]
          | false =>
            simp only
            rw [look_put_no _ _ hst, h.known id]
            simp [hst]
        · intro id s hs
          simp only at hs
          cases hst : stoodF v.x id with
          | true =>
            obtain ⟨i, y, hy, rfl⟩ := stoodF_at hst
            rw [look_put hx _ _ hy] at hs
            cases hs
            refine ⟨by simp, fun u hu => ?_⟩
            rw [hlast] at hu
            cases hu
            exact ⟨(fun _ => ⟨rfl, i, y, hy, rfl, rfl, rfl⟩), (fun e => by rw [hst] at e; cases e)⟩
          | false =>
            rw [look_put_no _ _ hst] at hs
            have hle := (h.look id s hs).1
            refine ⟨by simp only; omega, fun u hu => ?_⟩
            rw [hlast] at hu
            cases hu
            exact ⟨(fun e => by rw [hst] at e; cases e), (fun _ => by simp only; omega)⟩
    · have h1' : v.x.tick - lastT ts ≠ a.c.w := by rw [← h.tick]; omega
      rw [seeF_2 h0 h1, rsee_2 h0 h1']
      exact ⟨rfl, h, rfl, Nat.le_succ _⟩
  · rw [seeF_1 h0, rsee_1 h0]
    exact ⟨rfl, h, rfl, Nat.le_succ _⟩
end Go.Proofs.YtcaicgipibcicaaGreat
