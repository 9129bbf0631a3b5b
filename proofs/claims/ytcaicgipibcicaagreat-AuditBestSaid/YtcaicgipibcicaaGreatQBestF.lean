/- No other matching is worth more than one that has a certificate; what else is known of a record that is taken. No program in sight. -/
import Derived.Test.YtcaicgipibcicaaGreatQAuLaw
import Derived.Test.YtcaicgipibcicaaGreatQWorth
namespace Go.Proofs.YtcaicgipibcicaaGreat
set_option linter.unusedVariables false
set_option linter.unusedSimpArgs false
open Go.RowKit

theorem sumF_sum : ∀ (l : List Int) (n k : Int), sumF n l = some k → k = n + l.sum := by
  intro l
  induction l with
  | nil => intro n k h; simp [sumF] at h; simp [h]
  | cons p l ih =>
    intro n k h
    unfold sumF at h
    split at h
    · cases h
    · have := ih _ _ h
      rw [List.sum_cons]
      omega
theorem sum_set : ∀ (l : List Int) (a : Nat) (x : Int), l[a]? = some x → l.sum = x + (l.set a 0).sum := by
  intro l
  induction l with
  | nil => intro a x h; simp at h
  | cons y l ih =>
    intro a x h
    cases a with
    | zero => simp at h; subst h; simp
    | succ a =>
      have := ih a x (by simpa using h)
      simp only [List.set_cons_succ, List.sum_cons]
      omega
theorem sum_nn {l : List Int} (h : ∀ x ∈ l, 0 ≤ x) : 0 ≤ l.sum := by
  induction l with
  | nil => simp
  | cons y l ih =>
    have h1 := ih (fun x hx => h x (List.mem_cons_of_mem _ hx))
    have h2 := h y List.mem_cons_self
    rw [List.sum_cons]
    omega
/-- Some of the numbers, each taken once, are no more than all. -/
theorem sum_some : ∀ (idx : List Nat) (l : List Int), idx.Nodup → (∀ x ∈ l, 0 ≤ x) → (idx.map fun i => l.getD i 0).sum ≤ l.sum := by
  intro idx
  induction idx with
  | nil => intro l _ h; simpa using sum_nn h
  | cons a idx ih =>
    intro l hn h
    rw [List.nodup_cons] at hn
    cases ha : l[a]? with
    | none =>
      have := ih l hn.2 h
      rw [List.map_cons, List.sum_cons]
      have h0 : l.getD a 0 = 0 := by simp [List.getD, ha]
      omega
    | some x =>
      have h1 := sum_set l a x ha
      have h2 := ih (l.set a 0) hn.2 (fun y hy => by
        rcases List.mem_or_eq_of_mem_set hy with h3 | h3
        · exact h y h3
        · omega)
      have h3 : (idx.map fun i => (l.set a 0).getD i 0) = idx.map fun i => l.getD i 0 := by
        refine List.map_congr_left fun i hi => ?_
        have hne : a ≠ i := fun e => hn.1 (e ▸ hi)
        simp [List.getD, List.getElem?_set, hne]
      rw [h3] at h2
      rw [List.map_cons, List.sum_cons]
      have h0 : l.getD a 0 = x := by simp [List.getD, ha]
      omega
theorem match_lt {es : List PEdge} {ps : List PPair} (h : matchF es ps = true) : ∀ (d i : Nat) (x y : PPair), ps[i]? = some x → ps[i + d + 1]? = some y → x.r < y.r := by
  intro d
  induction d with
  | zero =>
    intro i x y hx hy
    have := (matchF_at h hy).1
    rwa [prevR_succ hx] at this
  | succ d ih =>
    intro i x y hx hy
    have hl := (List.getElem?_eq_some_iff.1 hy).1
    have hm : ps[i + d + 1]? = some (ps[i + d + 1]'(by omega)) := List.getElem?_eq_getElem _
    have h1 := ih i x _ hx hm
    have h2 := (matchF_at h hy).1
    rw [show i + (d + 1) + 1 = (i + d + 1) + 1 by omega] at h2
    rw [prevR_succ hm] at h2
    omega
theorem match_apart {es : List PEdge} {ps : List PPair} (h : matchF es ps = true) {i j : Nat} (hij : i < j) {x y : PPair} (hx : ps[i]? = some x) (hy : ps[j]? = some y) : x.r < y.r ∧ x.c ≠ y.c := by
  refine ⟨match_lt h (j - i - 1) i x y hx (by rw [show i + (j - i - 1) + 1 = j by omega]; exact hy), fun e => ?_⟩
  have h1 := allF_at (matchF_at h hy).2.2 hij
  simp only [hx] at h1
  exact (of_decide_eq_true h1) e
/-- What is known of each pair. -/
theorem match_in {rows cols : Int} {es : List PEdge} {ps : List PPair} (hg : graphF rows cols es = true) (h : matchF es ps = true) {p : PPair} (hp : p ∈ ps) : 0 ≤ p.r ∧ p.r < rows ∧ 0 ≤ p.c ∧ p.c < cols ∧ ∃ y ∈ es, y.r = p.r ∧ y.c = p.c ∧ worthAt es p.r p.c = y.w := by
  obtain ⟨i, hi⟩ := List.getElem?_of_mem hp
  have h1 := (matchF_at h hi).2.1
  rcases worthAt_in hg p.r p.c with ⟨h0, _⟩ | ⟨_, _, a, b, c, d, j, y, hy, e⟩
  · exact absurd h0 h1
  · exact ⟨a, b, c, d, y, List.mem_of_getElem? hy, e⟩
theorem nodup_map {α : Type} {l : List α} {f : α → Nat} (h : ∀ (i j : Nat) (x y : α), i < j → l[i]? = some x → l[j]? = some y → f x ≠ f y) : (l.map f).Nodup := by
  unfold List.Nodup
  rw [List.pairwise_map, List.pairwise_iff_getElem]
  intro i j hi hj hij
  exact h i j _ _ hij (List.getElem?_eq_getElem hi) (List.getElem?_eq_getElem hj)
/-- Weak duality. -/
theorem weak {rows cols : Int} {es : List PEdge} {ys zs : List Int} (hg : graphF rows cols es = true) (hh : holdF es ys zs = true) {ps : List PPair} (h : matchF es ps = true) : worthF es ps ≤ ys.sum + zs.sum := by
  unfold holdF at hh
  simp only [Bool.and_eq_true] at hh
  obtain ⟨⟨h1, h2⟩, h3⟩ := hh
  have hy : ∀ x ∈ ys, 0 ≤ x := fun x hx => of_decide_eq_true (List.all_eq_true.1 h1 x hx)
  have hz : ∀ x ∈ zs, 0 ≤ x := fun x hx => of_decide_eq_true (List.all_eq_true.1 h2 x hx)
  have hle : ∀ l : List PPair, (∀ p ∈ l, p ∈ ps) → (l.map fun p => worthAt es p.r p.c).sum ≤ (l.map fun p => ys.getD p.r.toNat 0).sum + (l.map fun p => zs.getD p.c.toNat 0).sum := by
    intro l
    induction l with
    | nil => intro _; simp
    | cons p l ih =>
      intro hl
      have h4 := ih (fun q hq => hl q (List.mem_cons_of_mem _ hq))
      obtain ⟨_, _, _, _, y, hym, hr, hc, hw⟩ := match_in hg h (hl p List.mem_cons_self)
      obtain ⟨j, hj⟩ := List.getElem?_of_mem hym
      have h5 := allF_at h3 (List.getElem?_eq_some_iff.1 hj).1
      simp only [priceAt, hj] at h5
      have h5 := of_decide_eq_true h5
      rw [hr, hc] at h5
      simp only [List.map_cons, List.sum_cons]
      rw [hw]
      omega
  have h6 := hle ps (fun _ hp => hp)
  have h7 : (ps.map fun p => ys.getD p.r.toNat 0).sum ≤ ys.sum := by
    have := sum_some (ps.map fun p => p.r.toNat) ys (nodup_map fun i j x y hij hx hy => by
      have a := match_apart h hij hx hy
      have b := match_in hg h (List.mem_of_getElem? hx)
      have c := match_in hg h (List.mem_of_getElem? hy)
      have := a.1
      have := b.1
      have := c.1
      omega) hy
    rwa [List.map_map] at this
  have h8 : (ps.map fun p => zs.getD p.c.toNat 0).sum ≤ zs.sum := by
    have := sum_some (ps.map fun p => p.c.toNat) zs (nodup_map fun i j x y hij hx hy => by
      have a := (match_apart h hij hx hy).2
      have b := (match_in hg h (List.mem_of_getElem? hx)).2.2.1
      have c := (match_in hg h (List.mem_of_getElem? hy)).2.2.1
      omega) hz
    rwa [List.map_map] at this
  unfold worthF
  omega

theorem fit_of {ws : List PWait} {ds : List PIdle} {p : PPair} (h : p ∈ pairsF ws ds) : ∃ i k : Nat, p.r = i ∧ p.c = k ∧ fitAt ws ds i k = true := by
  unfold pairsF pairsRow at h
  rw [List.mem_flatMap] at h
  obtain ⟨i, _, h⟩ := h
  unfold pairsCol at h
  rw [List.mem_map] at h
  obtain ⟨k, hk, rfl⟩ := h
  rw [List.mem_filter] at hk
  exact ⟨i, k, rfl, rfl, hk.2⟩
theorem fitAt_in {ws : List PWait} {ds : List PIdle} {i k : Nat} (h : fitAt ws ds i k = true) : ∃ w d, ws[i]? = some w ∧ ds[k]? = some d ∧ fitsF w.r d.d = true := by
  unfold fitAt at h
  split at h
  · rename_i w d hw hd
    exact ⟨w, d, hw, hd, h⟩
  · cases h
/-- What AuditBest asks of a record that is taken. -/
structure Best (c : PConf) (x : PRec) : Prop where
  tick : 1 ≤ x.tick
  tw : 1 ≤ c.w
  rem : x.tick % c.w = 0
  wq : (x.ws.length : Int) ≤ c.q
  dd : (x.ds.length : Int) ≤ c.d
  pair : ∀ (i : Nat) (p : PPair), x.ps[i]? = some p → ∃ r q : Nat, p = ⟨r, q⟩ ∧ ∃ w d, x.ws[r]? = some w ∧ x.ds[q]? = some d ∧ fitsF w.r d.d = true
  apart : ∀ (k i : Nat) (p q : PPair), k < i → x.ps[k]? = some p → x.ps[i]? = some q → p.r ≠ q.r ∧ p.c ≠ q.c
  wait : ∀ (i : Nat) (w : PWait), x.ws[i]? = some w → checkE c w.r = 0 ∧ 0 ≤ w.since ∧ w.since ≤ x.tick ∧ x.tick ≤ w.since + w.r.ttl
  graph : graphF x.rows x.cols x.es = true
  good : matchF x.es x.ps = true
  most : ∀ other : List PPair, (worthE x.rows x.cols x.es other).1 ≤ worthF x.es x.ps
theorem best_of {c : PConf} {x : PRec} (h : auditE c x = 0) : configF c = true ∧ Best c x := by
  have hc : configF c = true := by
    cases hc : configF c with
    | true => rfl
    | false =>
      unfold auditE at h
      rw [if_pos (by simp [configE, hc])] at h
      cases h
  refine ⟨hc, ?_⟩
  have hrec := auditE_rec hc h
  have hlist := audit_lists hc h
  obtain ⟨r1, r2, r3, r4, r5, r6⟩ := recE_good hrec
  obtain ⟨s1, s2, s3⟩ := shape_of hrec
  unfold auditE at h
  rw [if_neg (by simp [configE, hc])] at h
  split at h
  · cases h
  · rename_i hcl
    rw [if_neg (by simp [hrec]), if_neg (by simp [hlist])] at h
    split at h
    · cases h
    · rename_i hgr
      simp only [Bool.not_eq_true, Bool.not_eq_false'] at hcl hgr
      have hcl : closesB c x.tick = true := by simpa using hcl
      have hgr : graftB c x = true := by simpa using hgr
      unfold closesB at hcl
      rw [Bool.and_eq_true] at hcl
      have t1 := of_decide_eq_true hcl.1
      have t2 := of_decide_eq_true hcl.2
      unfold listsF at hlist
      simp only [Bool.and_eq_true] at hlist
      obtain ⟨⟨⟨⟨l1, l2⟩, l3⟩, l4⟩, l5⟩ := hlist
      have l1 := of_decide_eq_true l1
      unfold graftB at hgr
      simp only [Bool.and_eq_true] at hgr
      have he := of_decide_eq_true hgr.2
      unfold certE pairsE at h
      rw [if_pos s1, if_pos r5] at h
      rw [if_neg (by simp)] at h
      have hb : boundE x.rows x.cols x.es x.ys x.zs = 0 := by
        cases Decidable.em (boundE x.rows x.cols x.es x.ys x.zs = 0) with
        | inl h0 => exact h0
        | inr h0 => rw [if_pos h0] at h; exact absurd h h0
      rw [if_neg (by simp [hb])] at h
      have hgap : gapB x.es x.ps x.ys x.zs = true := by
        cases hgp : gapB x.es x.ps x.ys x.zs with
        | true => rfl
        | false => rw [hgp] at h; cases h
      have hhold : holdF x.es x.ys x.zs = true := by
        unfold boundE at hb
        rw [if_pos r6] at hb
        cases hh : holdF x.es x.ys x.zs with
        | true => rfl
        | false => simp [hh] at hb
      have hsum : worthF x.es x.ps = x.ys.sum + x.zs.sum := by
        have := sumF_sum _ _ _ (of_decide_eq_true hgap)
        rw [List.sum_append] at this
        omega
      have hcw : 1 ≤ c.w := by
        unfold configF at hc
        simp only [Bool.and_eq_true] at hc
        exact (of_decide_eq_true hc.1.1.2).1
      refine ⟨t1.1, hcw, t2, l1.1, l1.2, fun i p hp => ?_, fun k i p q hki hp hq => ?_, fun i w hw => ?_, s1, r5, fun other => ?_⟩
      · obtain ⟨a1, a2, a3, a4, y, hy, hr, hcc, _⟩ := match_in s1 r5 (List.mem_of_getElem? hp)
        rw [← he] at hy
        unfold edgesF at hy
        rw [List.mem_map] at hy
        obtain ⟨p', hp', rfl⟩ := hy
        obtain ⟨r, q, h1, h2, h3⟩ := fit_of hp'
        obtain ⟨w, d, h4, h5, h6⟩ := fitAt_in h3
        refine ⟨r, q, ?_, w, d, h4, h5, h6⟩
        obtain ⟨pr, pc⟩ := p
        simp only at hr hcc
        rw [← hr, ← hcc, h1, h2]
      · have := match_apart r5 hki hp hq
        exact ⟨by omega, this.2⟩
      · have h1 := allF_at l2 (List.getElem?_eq_some_iff.1 hw).1
        simp only [askAt, hw, Bool.and_eq_true] at h1
        have h2 := allF_at r2 (List.getElem?_eq_some_iff.1 hw).1
        rw [waitAt_eq hw] at h2
        have h3 := of_decide_eq_true h1.1
        have h4 := of_decide_eq_true h1.2
        have h5 := of_decide_eq_true h2
        exact ⟨h3, h5.2.1, h5.2.2, h4⟩
      · unfold worthE
        rw [if_pos s1]
        split
        · rename_i hm
          rw [hsum]
          exact weak s1 hhold hm
        · exact (worthF_bd s1 x.ps).1
end Go.Proofs.YtcaicgipibcicaaGreat
