/- What the bound of an 'Upto' statement gives for slices. -/
import Derived.Test.YtcaicgipibcicaaGreatRows
import Derived.ChangeSlices
import Derived.Test.YtcaicgipibcicaaGreatQCells
import Derived.OpenShut
import Derived.Deep.Slices
import Derived.SizedLaws
namespace Go.Proofs.YtcaicgipibcicaaGreat

theorem bulk_len {H : Type} (l : List (DataW H)) : l.length ≤ Rows.uptoBulkAll l := by
  induction l with
  | nil => simp [Rows.uptoBulkAll]
  | cons x r ih =>
    have : 1 ≤ Rows.uptoBulk x := by
      cases x with
      | lit l => cases l <;> simp [Rows.uptoBulk]
      | _ => simp [Rows.uptoBulk]
    simp only [Rows.uptoBulkAll, List.length_cons]
    omega

theorem upto_part {H : Type} {d : DataW H} : ∀ {l : List (DataW H)}, d ∈ l → Rows.uptoBulk d ≤ Rows.uptoBulkAll l
  | x :: r, h => by
    simp only [Rows.uptoBulkAll]
    rcases List.mem_cons.1 h with e | e
    · subst e; omega
    · have := upto_part e; omega

theorem upto_elems {H : Type} {e s : List (DataW H)} {l : List (DataW H)} (hk : Rows.uptoSmall H l = true) (hm : DataW.slice e s ∈ l) : Rows.uptoBulkAll e + Rows.uptoBulkAll s ≤ 1048576 := by
  have h : Rows.uptoBulkAll l ≤ 1048576 := of_decide_eq_true hk
  have h1 := upto_part hm
  simp only [Rows.uptoBulk] at h1
  omega
theorem upto_in {H : Type} {e s : List (DataW H)} {l : List (DataW H)} (hk : Rows.uptoSmall H l = true) (hm : DataW.slice e s ∈ l) : e.length + s.length ≤ 1048576 := by
  have h := upto_elems hk hm
  have h1 := bulk_len e
  have h2 := bulk_len s
  omega
theorem upto_slice {H : Type} {e s : List (DataW H)} (hk : Rows.uptoSmall H [.slice e s] = true) : e.length + s.length ≤ 1048576 := upto_in hk (List.mem_singleton.2 rfl)
end Go.Proofs.YtcaicgipibcicaaGreat

/- How plain numbers lie in memory: structs and arrays of integers, opened at one stroke; slices of them. No program in sight. -/
namespace Go.Proofs.YtcaicgipibcicaaGreat
set_option linter.unusedVariables false
open Go.RowKit Go.ChangeShapes Go.WideShapes Go.Deep

/-- The kinds of the integers that a type is made of, one a cell; none: it is made of something else too. -/
def flatFs (r : TypeId → Option (List IntKind)) : List Field → Nat → Option (List IntKind)
  | [], _ => some []
  | f :: fs, o => if f.offset = o then (r f.type).bind fun ks => (flatFs r fs (o + ks.length)).map (ks ++ ·) else none
def flatK (P : Program) : Nat → TypeId → Option (List IntKind)
  | 0, _ => none
  | n + 1, t => (match P.underlying t with
    | some (.int k) => some [k]
    | some (.array m e) => (flatK P n e).map fun ks => (List.range m).flatMap fun _ => ks
    | some (.struct fs) => flatFs (flatK P n) fs.toList 0
    | _ => none).bind fun ks => if P.cellsOf t = ks.length then some ks else none

theorem flat_len {P : Program} {n : Nat} {t : TypeId} {ks : List IntKind} (h : flatK P n t = some ks) : P.cellsOf t = ks.length := by
  cases n with
  | zero => simp [flatK] at h
  | succ n =>
    rw [flatK, Option.bind_eq_some_iff] at h
    obtain ⟨ks', _, h⟩ := h
    split at h
    · cases h; assumption
    · cases h

theorem rep_length {α : Type} (ks : List α) (m : Nat) : ((List.range m).flatMap fun _ => ks).length = m * ks.length := by
  induction m with
  | zero => simp
  | succ m ih => rw [List.range_succ, List.flatMap_append, List.length_append, ih, Nat.add_mul]; simp
theorem flat_rep {α : Type} (ks : List α) : ∀ (m i : Nat) (k : α), ((List.range m).flatMap fun _ => ks)[i]? = some k → ∃ q r, q < m ∧ i = q * ks.length + r ∧ ks[r]? = some k := by
  intro m
  induction m with
  | zero => intro i k h; simp at h
  | succ m ih =>
    intro i k h
    rw [List.range_succ, List.flatMap_append, List.getElem?_append] at h
    split at h
    · obtain ⟨q, r, hq, hi, hr⟩ := ih i k h
      exact ⟨q, r, by omega, hi, hr⟩
    · rename_i hlt
      have hl : ((List.range m).flatMap fun _ => ks).length = m * ks.length := by
        exact rep_length ks m
      rw [hl] at h hlt
      refine ⟨m, i - m * ks.length, by omega, by omega, ?_⟩
      simpa using h

section
variable {H : Type} {enc : TypeId × Value → H} {P : Program} {w : World} {base : Nat} {spare : Nat → Bool} {held : Bool}

/-- Each cell is a number of its kind. -/
def FlatIs (ks : List IntKind) (cs : List Value) : Prop := ∀ (i : Nat) (k : IntKind), ks[i]? = some k → ∃ m, cs[i]? = some (.int k m) ∧ (Lit.int k m).wf = true

theorem flat_fields {n fuel : Nat} {cs : List Value} (ih : ∀ t ks, flatK P n t = some ks → ∀ fuel cs (x : DataW H × List MemPlace), DataW.trod enc P w base spare held fuel t cs = some x → cs.length = ks.length ∧ FlatIs ks cs) :
    ∀ (fs : List Field) (o : Nat) (ks : List IntKind), flatFs (flatK P n) fs o = some ks → (∀ f ∈ fs, ∃ y, DataW.trod enc P w base spare held fuel f.type ((cs.drop f.offset).take (P.cellsOf f.type)) = some y) →
      ∀ (i : Nat) (k : IntKind), ks[i]? = some k → ∃ m, cs[o + i]? = some (.int k m) ∧ (Lit.int k m).wf = true := by
  intro fs
  induction fs with
  | nil => intro o ks h _ i k hk; simp [flatFs] at h; subst h; simp at hk
  | cons f fs ihf =>
    intro o ks h hall i k hk
    rw [flatFs] at h
    split at h
    · rename_i ho
      rw [Option.bind_eq_some_iff] at h
      obtain ⟨k1, h1, h⟩ := h
      rw [Option.map_eq_some_iff] at h
      obtain ⟨k2, h2, rfl⟩ := h
      rw [List.getElem?_append] at hk
      split at hk
      · rename_i hi
        obtain ⟨y, hy⟩ := hall f List.mem_cons_self
        obtain ⟨_, hf⟩ := ih f.type k1 h1 fuel _ y hy
        obtain ⟨m, hm, hw⟩ := hf i k hk
        refine ⟨m, ?_, hw⟩
        rw [List.getElem?_take] at hm
        split at hm
        · rw [List.getElem?_drop, ho] at hm; exact hm
        · cases hm
      · rename_i hi
        obtain ⟨m, hm, hw⟩ := ihf (o + k1.length) k2 h2 (fun g hg => hall g (List.mem_cons_of_mem _ hg)) (i - k1.length) k hk
        refine ⟨m, ?_, hw⟩
        rw [← hm]
        congr 1
        omega
    · cases h

theorem flat_open : ∀ (n : Nat) (t : TypeId) (ks : List IntKind), flatK P n t = some ks → ∀ (fuel : Nat) (cs : List Value) (x : DataW H × List MemPlace), DataW.trod enc P w base spare held fuel t cs = some x → cs.length = ks.length ∧ FlatIs ks cs := by
  intro n
  induction n with
  | zero => intro t ks h; simp [flatK] at h
  | succ n ih =>
    intro t ks h fuel cs x hx
    have hlen := flat_len h
    rw [flatK, Option.bind_eq_some_iff] at h
    obtain ⟨ks', h, h'⟩ := h
    split at h'
    · cases h'
      cases hu : P.underlying t with
      | none => simp [hu] at h
      | some d =>
        cases d with
        | int k =>
          simp [hu] at h
          subst h
          obtain ⟨m, rfl, _, hw⟩ := DataW.trod_int hu hx
          refine ⟨rfl, fun i k' hk => ?_⟩
          cases i with
          | zero => simp at hk; subst hk; exact ⟨m, rfl, hw⟩
          | succ i => simp at hk
        | array m e =>
          rw [hu] at h
          simp only [Option.map_eq_some_iff] at h
          obtain ⟨k1, h1, rfl⟩ := h
          obtain ⟨xs, f, _, _, hl, hxl, hall⟩ := DataW.trod_array hu hx
          refine ⟨by rw [hl, hlen], fun i k hk => ?_⟩
          obtain ⟨q, r, hq, rfl, hr⟩ := flat_rep k1 m i k hk
          have hy := hall q hq
          rw [List.getElem?_eq_getElem (by omega)] at hy
          obtain ⟨_, hf⟩ := ih e k1 h1 f _ _ hy
          obtain ⟨z, hz, hw⟩ := hf r k hr
          refine ⟨z, ?_, hw⟩
          rw [List.getElem?_take] at hz
          split at hz
          · rw [List.getElem?_drop, flat_len h1] at hz; exact hz
          · cases hz
        | struct fs =>
          rw [hu] at h
          obtain ⟨xs, f, _, _, hl, hxl, hall⟩ := DataW.trod_struct hu hx
          refine ⟨by rw [hl, hlen], fun i k hk => ?_⟩
          have := flat_fields (enc := enc) (w := w) (base := base) (spare := spare) (held := held) (fuel := f) (cs := cs) ih fs.toList 0 ks h (fun g hg => by
            obtain ⟨j, hj, rfl⟩ := List.mem_iff_getElem.1 hg
            have hj' : j < fs.size := by simpa using hj
            have := hall j _ (by rw [Array.getElem?_eq_getElem hj'])
            refine ⟨xs[j]'(by omega), ?_⟩
            rw [List.getElem?_eq_getElem (by omega)] at this
            simpa using this) i k hk
          simpa using this
        | _ => simp [hu] at h
    · cases h'

/-- Numbers of given kinds, from place o on. -/
def flatV : List IntKind → (Nat → Int) → Nat → List Value
  | [], _, _ => []
  | k :: ks, g, o => .int k (g o) :: flatV ks g (o + 1)
theorem flatV_length (ks : List IntKind) (g : Nat → Int) : ∀ o, (flatV ks g o).length = ks.length := by
  induction ks with
  | nil => intro o; rfl
  | cons k ks ih => intro o; simp [flatV, ih]
theorem flatV_get (g : Nat → Int) : ∀ (ks : List IntKind) (o i : Nat) (k : IntKind), ks[i]? = some k → (flatV ks g o)[i]? = some (.int k (g (o + i))) := by
  intro ks
  induction ks with
  | nil => intro o i k h; simp at h
  | cons k' ks ih =>
    intro o i k h
    cases i with
    | zero => simp at h; subst h; rfl
    | succ i =>
      have := ih (o + 1) i k (by simpa using h)
      simp only [flatV, List.getElem?_cons_succ]
      rw [this]
      congr 3
      omega
/-- Numbers that fit. -/
def FlatOk (ks : List IntKind) (g : Nat → Int) : Prop := ∀ (i : Nat) (k : IntKind), ks[i]? = some k → (Lit.int k (g i)).wf = true

theorem flat_fn {ks : List IntKind} {cs : List Value} (hl : cs.length = ks.length) (h : FlatIs ks cs) : ∃ g : Nat → Int, cs = flatV ks g 0 ∧ FlatOk ks g := by
  classical
  refine ⟨fun i => match cs[i]? with | some (.int _ m) => m | _ => 0, ?_, fun i k hk => ?_⟩
  · apply List.ext_getElem?
    intro i
    by_cases hi : i < ks.length
    · obtain ⟨k, hk⟩ : ∃ k, ks[i]? = some k := ⟨ks[i], List.getElem?_eq_getElem hi⟩
      obtain ⟨m, hm, _⟩ := h i k hk
      rw [flatV_get _ ks 0 i k hk, Nat.zero_add, hm]
    · rw [List.getElem?_eq_none (by omega), List.getElem?_eq_none (by rw [flatV_length]; omega)]
  · obtain ⟨m, hm, hw⟩ := h i k hk
    simp only [hm]
    exact hw

/-- A struct of numbers. -/
theorem flat_struct {n fuel : Nat} {t : TypeId} {ks : List IntKind} (hk : flatK P n t = some ks) {cs : List Value} {x : DataW H × List MemPlace} (h : DataW.trod enc P w base spare held fuel t cs = some x) : ∃ g : Nat → Int, cs = flatV ks g 0 ∧ FlatOk ks g := by
  obtain ⟨hl, hf⟩ := flat_open n t ks hk fuel cs x h
  exact flat_fn hl hf

/-- A slice of structs of numbers. -/
theorem flat_slice {α : Type} {n fuel : Nat} {t e : TypeId} {ks : List IntKind} (ht : P.underlying t = some (.slice e)) (hk : flatK P n e = some ks) (hpos : 0 < ks.length) (f : α → List Value) (dec : (Nat → Int) → α) (hd : ∀ g, f (dec g) = flatV ks g 0)
    {ao : Option Addr} {len cap : Nat} {x : DataW H × List MemPlace} (h : DataW.trod enc P w base (fun _ => true) held fuel t [.slice ao len cap] = some x) :
    ∃ xs : List α, xs.length = len ∧ RdC w ao (cellsOf f xs) ∧ (∀ a ∈ xs, ∃ g, a = dec g ∧ FlatOk ks g) ∧ len ≤ cap ∧ len ≤ Rows.uptoBulk x.1 := by
  rcases open_slice ht h with ⟨hc, _⟩ | ⟨a, len', cap', m, n', D, Pl, hc, hb, hl, hm, hmm, rfl, hall⟩
  · simp at hc
    obtain ⟨rfl, rfl, rfl⟩ := hc
    exact ⟨[], rfl, .inl rfl, fun a ha => by simp at ha, Nat.le_refl _, Nat.zero_le _⟩
  · simp at hc
    obtain ⟨rfl, rfl, rfl⟩ := hc
    simp only [if_true] at hmm
    subst hmm
    have hcell := flat_len hk
    have each : ∀ i, i < len → ∃ g : Nat → Int, FlatOk ks g ∧ ∀ j u, (flatV ks g 0)[j]? = some u → w.cell? (a.add (i * ks.length + j)) = some u := by
      intro i hi
      obtain ⟨cs', h1, h2⟩ := hall i (by omega)
      obtain ⟨g, rfl, hg⟩ := flat_struct hk h2
      obtain ⟨_, hlen, hcs⟩ := World.cells?_some h1
      refine ⟨g, hg, fun j u hu => ?_⟩
      have hj := (List.getElem?_eq_some_iff.1 hu).1
      have := hcs j (by rw [hlen] at hj; exact hj)
      rw [add_add, hcell, hu] at this
      exact this
    obtain ⟨G, hG⟩ := choose_lt each
    refine ⟨(List.range len).map fun i => dec (G i), by simp, ?_, ?_, hl, ?_⟩
    · by_cases h0 : len = 0
      · subst h0; exact .inl (by simp [cellsOf])
      · obtain ⟨bk, off, spot⟩ := a
        have hf0 : ∃ u, (flatV ks (G 0) 0)[0]? = some u := ⟨_, List.getElem?_eq_getElem (by rw [flatV_length]; exact hpos)⟩
        obtain ⟨u0, hu0⟩ := hf0
        have hc0 := (hG 0 (by omega)).2 0 u0 hu0
        have hspot : spot = none := by simpa [Addr.add] using World.cell?_spot hc0
        subst hspot
        refine .inr ⟨bk, off, rfl, fun j u hu => ?_⟩
        have hfl : ∀ a, (f (dec a)).length = ks.length := fun a => by rw [hd, flatV_length]
        have hlen : (cellsOf f ((List.range len).map fun i => dec (G i))).length = len * ks.length := by
          rw [show (cellsOf f ((List.range len).map fun i => dec (G i))).length = ((List.range len).map fun i => dec (G i)).length * ks.length from ?_]
          · simp
          · generalize hL : (List.range len).map (fun i => dec (G i)) = L
            have hLm : ∀ a ∈ L, ∃ g, a = dec g := fun a ha => by
              rw [← hL] at ha
              obtain ⟨i, _, rfl⟩ := List.mem_map.1 ha
              exact ⟨_, rfl⟩
            clear hL
            induction L with
            | nil => simp [cellsOf]
            | cons a L ih =>
              obtain ⟨g, rfl⟩ := hLm a List.mem_cons_self
              have := ih (fun b hb => hLm b (List.mem_cons_of_mem _ hb))
              unfold cellsOf at this ⊢
              rw [List.flatMap_cons, List.length_append, this, hfl, List.length_cons, Nat.add_mul]
              omega
        have hj := (List.getElem?_eq_some_iff.1 hu).1
        rw [hlen] at hj
        have hq : j / ks.length < len := Nat.div_lt_of_lt_mul (by rw [Nat.mul_comm]; exact hj)
        have hr : j % ks.length < ks.length := Nat.mod_lt _ hpos
        have hjj : j / ks.length * ks.length + j % ks.length = j := by rw [Nat.mul_comm]; exact Nat.div_add_mod _ _
        have hget : (cellsOf f ((List.range len).map fun i => dec (G i)))[j / ks.length * ks.length + j % ks.length]? = (flatV ks (G (j / ks.length)) 0)[j % ks.length]? := by
          rw [← hd]
          unfold cellsOf
          rw [List.flatMap_map]
          have := cellsOf_get (fun i => f (dec (G i))) ks.length (fun i => hfl _) (List.range len) (j / ks.length) (j / ks.length) (by simp [hq]) (j % ks.length) hr
          exact this
        rw [hjj] at hget
        rw [hget] at hu
        have := (hG _ hq).2 _ u hu
        rw [hjj] at this
        have hadd : (⟨bk, off, none⟩ : Addr).add j = ⟨bk, off + j, none⟩ := by unfold Addr.add; split <;> simp_all
        rwa [hadd] at this
    · intro y hy
      obtain ⟨i, hi, rfl⟩ := List.mem_map.1 hy
      exact ⟨G i, rfl, (hG i (List.mem_range.1 hi)).1⟩
    · have hn := bulk_len ((List.range len).map D)
      rw [List.length_map, List.length_range] at hn
      simp only [Rows.uptoBulk]
      omega
/-- What a slice weighs. -/
theorem slice_weight {fuel : Nat} {t e : TypeId} (ht : P.underlying t = some (.slice e)) {ao : Option Addr} {len cap : Nat} {x : DataW H × List MemPlace} (h : DataW.trod enc P w base spare held fuel t [.slice ao len cap] = some x) {B : Nat} (hB : ∀ n ∈ DataW.weights P t x.1, n ≤ B) :
    len * P.bytesOf e ≤ B := by
  rcases open_slice ht h with ⟨hc, _⟩ | ⟨a, len', cap', m, n', D, Pl, hc, hb, hl, hm, hmm, rfl, hall⟩
  · simp at hc
    obtain ⟨rfl, rfl, rfl⟩ := hc
    simp
  · simp at hc
    obtain ⟨rfl, rfl, rfl⟩ := hc
    have := hB ((((List.range len).map D).length + ((List.range (m - len)).map fun j => D (len + j)).length) * P.bytesOf e) (by simp only [DataW.weights, ht]; exact List.mem_cons_self)
    refine Nat.le_trans (Nat.mul_le_mul_right _ ?_) this
    simp
end
end Go.Proofs.YtcaicgipibcicaaGreat
