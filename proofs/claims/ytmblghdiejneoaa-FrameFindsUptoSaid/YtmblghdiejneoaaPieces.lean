/- pieces: a slice of bytes, cut. -/
import Derived.Test.YtmblghdiejneoaaSame
namespace Go.Proofs.Ytmblghdiejneoaa
open Go.RowKit

/-- The bytes lo .. hi of a slice. -/
theorem slice_any (ao : Option Addr) (k c lo hi : Nat) (h1 : lo ≤ hi) (h2 : hi ≤ k) (h3 : k ≤ c) (_h4 : k ≤ 100000000000) :
    ∃ ao' c', (∀ w : World, (Instr.slice 28 (.slice ao k c) (some (.int .i64 (lo : Int))) (some (.int .i64 (hi : Int))) none).run Try.prog w = .ok (.slice ao' (hi - lo) c') w) ∧ hi - lo ≤ c' ∧
      ∀ (w : World) (b : List UInt8), b.length = k → Rd w ao b → Rd w ao' ((b.drop lo).take (hi - lo)) := by
  by_cases hc : c = lo
  · subst hc
    have : hi = c := by omega
    subst this
    refine ⟨ao, 0, fun w => by go_simp, by omega, fun w b hb hr => ?_⟩
    left
    simp
  · have h5 : ¬ c < hi := by omega
    refine ⟨ao.map (·.add lo), c - lo, fun w => by go_simp, by omega, fun w b hb hr => ?_⟩
    rcases hr with rfl | ⟨b', o, rfl, hcell⟩
    · left; simp
    · have : Rd w (some ⟨b', o, none⟩) b := .inr ⟨b', o, rfl, hcell⟩
      have hadd : (⟨b', o, none⟩ : Addr).add lo = ⟨b', o + lo, none⟩ := by unfold Addr.add; split <;> simp_all
      simp only [Option.map_some, hadd]
      exact (this.drop lo).take _

/-- .. and from lo on. -/
theorem slice_from (ao : Option Addr) (k c lo : Nat) (h1 : lo ≤ k) (h3 : k ≤ c) (_h4 : k ≤ 100000000000) :
    ∃ ao' c', (∀ w : World, (Instr.slice 28 (.slice ao k c) (some (.int .i64 (lo : Int))) none none).run Try.prog w = .ok (.slice ao' (k - lo) c') w) ∧ k - lo ≤ c' ∧
      ∀ (w : World) (b : List UInt8), b.length = k → Rd w ao b → Rd w ao' (b.drop lo) := by
  by_cases hc : c = lo
  · subst hc
    have : k = c := by omega
    subst this
    refine ⟨ao, 0, fun w => by go_simp, by omega, fun w b hb hr => ?_⟩
    left
    rw [← hb, List.drop_length]
  · refine ⟨ao.map (·.add lo), c - lo, fun w => by go_simp, by omega, fun w b hb hr => ?_⟩
    rcases hr with rfl | ⟨b', o, rfl, hcell⟩
    · left; simp
    · have : Rd w (some ⟨b', o, none⟩) b := .inr ⟨b', o, rfl, hcell⟩
      have hadd : (⟨b', o, none⟩ : Addr).add lo = ⟨b', o + lo, none⟩ := by unfold Addr.add; split <;> simp_all
      simp only [Option.map_some, hadd]
      exact this.drop lo

/-- The values are slices that hold the lists. -/
def Pcs (w : World) : List Value → List (List UInt8) → Prop
  | [], [] => True
  | v :: vs, b :: bs => (∃ ao c, v = .slice ao b.length c ∧ Rd w ao b ∧ b.length ≤ c) ∧ Pcs w vs bs
  | _, _ => False

theorem Pcs.snoc {w : World} {v : Value} {b : List UInt8} (h : ∃ ao c, v = .slice ao b.length c ∧ Rd w ao b ∧ b.length ≤ c) : ∀ {vs : List Value} {bs : List (List UInt8)}, Pcs w vs bs → Pcs w (vs ++ [v]) (bs ++ [b])
  | [], [], _ => ⟨h, trivial⟩
  | _ :: _, _ :: _, hp => ⟨hp.1, Pcs.snoc h hp.2⟩
  | [], _ :: _, hp => hp.elim
  | _ :: _, [], hp => hp.elim
theorem Pcs.len {w : World} : ∀ {vs : List Value} {bs : List (List UInt8)}, Pcs w vs bs → vs.length = bs.length
  | [], [], _ => rfl
  | _ :: _, _ :: _, hp => by simp [Pcs.len hp.2]
  | [], _ :: _, hp => hp.elim
  | _ :: _, [], hp => hp.elim
theorem Pcs.get {w : World} : ∀ {vs : List Value} {bs : List (List UInt8)}, Pcs w vs bs → ∀ (i : Nat) (b : List UInt8), bs[i]? = some b → ∃ ao c, vs[i]? = some (.slice ao b.length c) ∧ Rd w ao b ∧ b.length ≤ c
  | v :: vs, b :: bs, hp, 0, x, hx => by
    simp at hx
    subst hx
    obtain ⟨ao, c, rfl, h⟩ := hp.1
    exact ⟨ao, c, rfl, h⟩
  | v :: vs, b :: bs, hp, i + 1, x, hx => by
    simp at hx
    simpa using Pcs.get hp.2 i x hx
  | [], [], _, i, x, hx => by simp at hx
  | [], _ :: _, hp, _, _, _ => hp.elim
  | _ :: _, [], hp, _, _, _ => hp.elim
theorem Pcs.one {w : World} : ∀ {vs : List Value} {bs : List (List UInt8)}, Pcs w vs bs → ∀ u ∈ vs, u.oneCell' = true
  | v :: vs, b :: bs, hp, u, hu => by
    rcases List.mem_cons.1 hu with rfl | hu
    · obtain ⟨ao, c, rfl, h⟩ := hp.1
      rfl
    · exact Pcs.one hp.2 u hu
  | [], [], _, u, hu => by cases hu
  | [], _ :: _, hp, _, _ => hp.elim
  | _ :: _, [], hp, _, _ => hp.elim

/-- One value that a literal has laid. -/
theorem Src.one {P : Program} {w : World} {tx e : TypeId} (hk : P.underlying tx = some (.slice e)) (u : Value) (hu : u.oneCell' = true) (cs : Array Value) (t : TypeId) (h : cs = #[u]) : Src P 1 tx (.slice (some ⟨w.heap.size, 0, none⟩) 1 1) 1 [u] (w.alloc (.cells cs t)) := by
  subst h
  refine Src.ofSlice (P := P) _ hk _ _ 1 [u] rfl (fun j u' hu' => ?_) (fun u' hu' => by simp at hu'; rw [hu']; exact hu)
  have hadd : (⟨w.heap.size, 0, none⟩ : Addr).add j = ⟨w.heap.size, j, none⟩ := by unfold Addr.add; split <;> simp_all
  rw [hadd, World.cell?_alloc_mark]
  simpa using hu'

theorem info_bytes : (Try.prog.info? 28).map (fun i => (i.zero, i.size, i.bytes)) = some (some (.slice none 0 0), 1, 24) := by kernel_rfl

/-- The list of the pieces. -/
def PcsAt (w0 w : World) (v : Value) (bs : List (List UInt8)) : Prop :=
  ∃ vs, Own w 1 v bs.length vs ∧ Pcs w0 vs bs ∧ ∀ g, v.ownBlock = some g → w0.heap.size ≤ g

theorem PcsAt.snoc {w0 w' : World} {v v' : Value} {bs : List (List UInt8)} {vs : List Value} {b : List UInt8} {u : Value} (h1 : Pcs w0 vs bs) (h2 : ∃ ao c, u = .slice ao b.length c ∧ Rd w0 ao b ∧ b.length ≤ c)
    (ho : Own w' 1 v' (bs.length + 1) (vs ++ [u])) (hv : ∀ g, v.ownBlock = some g → w0.heap.size ≤ g) (hb : v'.ownBlock = v.ownBlock ∨ ∃ g, v'.ownBlock = some g ∧ w0.heap.size ≤ g) :
    PcsAt w0 w' v' (bs ++ [b]) := by
  refine ⟨vs ++ [u], by simpa using ho, h1.snoc h2, fun g hg => ?_⟩
  rcases hb with h | ⟨g', h, hle⟩
  · exact hv g (by rw [← h]; exact hg)
  · rw [h] at hg
    cases hg
    omega

def PcsRel (w : World) (b : List UInt8) (n : Nat) (out from_ i : Value) (wr : World) : Prop :=
  ∃ (p j : Nat) (bs : List (List UInt8)), from_ = .int .i64 p ∧ i = .int .i64 j ∧ p ≤ b.length ∧ j ≤ n ∧ bs.length = j ∧ bs.flatten = b.take p ∧ PcsAt w wr out bs ∧ Below w.heap.size w wr

set_option maxRecDepth 100000 in
set_option maxHeartbeats 2000000 in
theorem pieces_any (w : World) (ao ac : Option Addr) (k c n cc : Nat) (b : List UInt8) (zs : List Int) (hbk : b.length = k) (hrb : Rd w ao b) (hkc : k ≤ c) (hk : k ≤ 1048576) (hz : IsRow .i64 w ac n cc zs) (hn : n ≤ 1048576) :
    Calls Try.prog 17 #[.slice ao k c, .slice ac n cc] w fun e w' => ∃ v bs, e = .returned v ∧ bs.length = n + 1 ∧ bs.flatten = b ∧ PcsAt w w' v bs ∧ Below w.heap.size w w' := by
  obtain ⟨i5, hi, hz0, hz1, hz2⟩ := info_parts info_bytes
  have HL := Lib.hid hbk
  have HR := Lib.hid hrb
  have HZ := Lib.hid hz
  clear hbk hrb hz
  have hst := Lib.hid (show PcsRel w b n (.slice none 0 0) (.int .i64 0) (.int .i64 0) w from ⟨0, 0, [], rfl, rfl, Nat.zero_le _, Nat.zero_le _, rfl, rfl, ⟨[], Own.nil w 1, trivial, fun g hg => by simp [Value.ownBlock] at hg⟩, Below.refl _ _⟩)
  go_enter Try.func17, Try.ntmps17
  go_wp2_with fail
  go_loopw [5, 6, 7] (fun o f i wr => Hid (PcsRel w b n o f i wr)) (fun _ _ i _ => n - (intOf i).toNat)
  case atStart => exact hst
  case round =>
    obtain ⟨p, j, bs, rfl, rfl, hp, hj, hbl, hfl, hpa, hbr⟩ := hrel.out
    rw [HL.out] at hp
    obtain ⟨vs, hown, hpcs, hge⟩ := hpa
    rw [hbl] at hown
    have HBR := Lib.hid hbr
    have HF := Lib.hid hfl
    have HBL := Lib.hid hbl
    have HPC := Lib.hid hpcs
    have HGE := Lib.hid hge
    have HO := Lib.hid hown
    have hws : w.heap.size ≤ wr.heap.size := hbr.size
    obtain ⟨oa, oc, ho', hos⟩ := own_shape hown
    subst ho'
    clear hbr hfl hbl hpcs hge hrel hown hos
    by_cases hlt : j < n
    · obtain ⟨z, hz1', hz2', hzl, hzh⟩ : ∃ (z : Int), (∃ x, ac = some x ∧ wr.cell? (x.add j) = some (.int .i64 z)) ∧ n ≤ cc ∧ -9223372036854775808 ≤ z ∧ z ≤ 9223372036854775807 := by
        rcases HZ.out with ⟨_, h, _⟩ | ⟨x, rfl, h1, h2, h3, h4, h5⟩
        · omega
        · have hin : zs.getD j 0 ∈ zs := by
            have hjl : j < zs.length := by omega
            rw [List.getD_eq_getElem?_getD, List.getElem?_eq_getElem hjl]
            exact List.getElem_mem hjl
          have hwf := h5 _ hin
          simp only [Lit.wf, Bool.and_eq_true, decide_eq_true_eq] at hwf
          refine ⟨zs.getD j 0, ⟨x, rfl, ?_⟩, h1, hwf.1, hwf.2⟩
          have hc := h4 j (by omega)
          exact (HBR.out.cell (World.block_lt_of_cell? w _ hc)).trans hc
      obtain ⟨x, rfl, hcz⟩ := hz1'
      obtain ⟨t, ht1, ht2, ht⟩ : ∃ t : Nat, p ≤ t ∧ t ≤ k ∧ ((k : Int) < z ∧ t = k ∨ ¬ (k : Int) < z ∧ z < (p : Int) ∧ t = p ∨ ¬ (k : Int) < z ∧ ¬ z < (p : Int) ∧ z = (t : Int)) := by
        by_cases h1 : (k : Int) < z
        · exact ⟨k, hp, Nat.le_refl _, .inl ⟨h1, rfl⟩⟩
        · by_cases h2 : z < (p : Int)
          · exact ⟨p, Nat.le_refl _, hp, .inr (.inl ⟨h1, h2, rfl⟩)⟩
          · exact ⟨z.toNat, by omega, by omega, .inr (.inr ⟨h1, h2, by omega⟩)⟩
      obtain ⟨ao', c', hsl, hlc, hrd⟩ := slice_any ao k c p t ht1 ht2 hkc (by omega)
      have hpl : ((b.drop p).take (t - p)).length = t - p := by rw [List.length_take, List.length_drop, HL.out]; omega
      have HPI := Lib.hid (show ∃ a q, (Value.slice ao' (t - p) c') = .slice a ((b.drop p).take (t - p)).length q ∧ Rd w a ((b.drop p).take (t - p)) ∧ ((b.drop p).take (t - p)).length ≤ q from ⟨ao', c', by rw [hpl], hrd w b HL.out HR.out, by rw [hpl]; exact hlc⟩)
      have HFL := Lib.hid (show (bs ++ [(b.drop p).take (t - p)]).flatten = b.take t from by
        rw [List.flatten_append, HF.out]
        simp only [List.flatten_cons, List.flatten_nil, List.append_nil]
        conv => rhs; rw [show t = p + (t - p) by omega]
        rw [List.take_add])
      clear hpl hrd hlc
      generalize hB : (b.drop p).take (t - p) = B at *
      generalize hm : t - p = m at *
      have HBB := Lib.hid hB
      clear hB hm
      have fin : ∀ g q w', Own w' 1 (.slice (some ⟨g, 0, none⟩) (j + 1) q) (j + 1) (vs ++ [.slice ao' m c']) → Keep (fun q => (Value.slice oa j oc).ownBlock = some q) (wr.alloc (.cells #[.slice ao' m c'] 28)) w' → ((Value.slice oa j oc).ownBlock = some g ∨ wr.heap.size + 1 ≤ g) →
          Hid (PcsRel w b n (.slice (some ⟨g, 0, none⟩) (j + 1) q) (.int .i64 t) (.int .i64 ((j : Int) + 1)) w') := by
        intro g q w' ho hk hb
        refine Lib.hid ⟨t, j + 1, bs ++ [B], rfl, by simp, by rw [HL.out]; exact ht2, by omega, by simp [HBL.out], HFL.out, PcsAt.snoc HPC.out HPI.out (by rw [HBL.out]; exact ho) HGE.out (hb.elim (fun h => .inl h.symm) (fun h => .inr ⟨g, rfl, by omega⟩)), ?_⟩
        refine HBR.out.trans ((Keep.below (X := fun q => (Value.slice oa j oc).ownBlock = some q) ((Keep.alloc _ _ _).trans hk (fun _ _ h => h) (fun _ _ h => h)) hws ?_))
        intro q' hq h
        have := HGE.out q' h
        omega
      have FIN := Lib.hid fin
      have hsrc := Lib.hid (Src.one (w := wr) Try.underlying43 (.slice ao' m c') rfl #[.slice ao' m c'] 28 rfl)
      clear fin
      rcases ht with ⟨h1, rfl⟩ | ⟨h1, h2, rfl⟩ | ⟨h1, h2, rfl⟩
      all_goals
        go_wp2_with (at_builtin; refine wpList_append_pos rfl (.tmp 29) (.tmp 34) 43 43 rfl 28 i5 (.slice none 0 0) 1 24 Try.underlying43 hi hz0 hz1 hz2 rfl (.slice oa j oc) j vs rfl (HO.out.keep (Keep.alloc (fun _ => False) _ _) (fun _ _ => id)) (.slice (some ⟨wr.heap.size, 0, none⟩) 1 1) 1 [.slice ao' _ c'] rfl hsrc.out (.inl (by omega)) (by unfold maxLen; omega) (by omega) ?_)
        intro g1 q1 w' ho hk hb
        have HR2 := Lib.hid (FIN.out g1 q1 w' ho hk hb)
        clear ho hk hb
        go_wp2_with fail
        go_roundw
        case rel => exact HR2.out
        case measure => simp [intOf]; omega
    · obtain rfl : j = n := by omega
      obtain ⟨ao', c', hsl, hlc, hrd⟩ := slice_from ao k c p hp hkc (by omega)
      have hpl : (b.drop p).length = k - p := by rw [List.length_drop, HL.out]
      have HPI := Lib.hid (show ∃ a q, (Value.slice ao' (k - p) c') = .slice a (b.drop p).length q ∧ Rd w a (b.drop p) ∧ (b.drop p).length ≤ q from ⟨ao', c', by rw [hpl], hrd w b HL.out HR.out, by rw [hpl]; exact hlc⟩)
      have HFL := Lib.hid (show (bs ++ [b.drop p]).flatten = b from by
        rw [List.flatten_append, HF.out]
        simp)
      clear hpl hrd hlc
      generalize hB : b.drop p = B at *
      generalize hm : k - p = m at *
      clear hB hm
      have fin : ∀ g q w', Own w' 1 (.slice (some ⟨g, 0, none⟩) (j + 1) q) (j + 1) (vs ++ [.slice ao' m c']) → Keep (fun q => (Value.slice oa j oc).ownBlock = some q) (wr.alloc (.cells #[.slice ao' m c'] 28)) w' → ((Value.slice oa j oc).ownBlock = some g ∨ wr.heap.size + 1 ≤ g) →
          Hid (PcsAt w w' (.slice (some ⟨g, 0, none⟩) (j + 1) q) (bs ++ [B]) ∧ Below w.heap.size w w') := by
        intro g q w' ho hk hb
        refine Lib.hid ⟨PcsAt.snoc HPC.out HPI.out (by rw [HBL.out]; exact ho) HGE.out (hb.elim (fun h => .inl h.symm) (fun h => .inr ⟨g, rfl, by omega⟩)), ?_⟩
        refine HBR.out.trans ((Keep.below (X := fun q => (Value.slice oa j oc).ownBlock = some q) ((Keep.alloc _ _ _).trans hk (fun _ _ h => h) (fun _ _ h => h)) hws ?_))
        intro q' hq h
        have := HGE.out q' h
        omega
      have FIN := Lib.hid fin
      have hsrc := Lib.hid (Src.one (w := wr) Try.underlying43 (.slice ao' m c') rfl #[.slice ao' m c'] 28 rfl)
      clear fin
      go_wp2_with (at_builtin; refine wpList_append_pos rfl (.tmp 37) (.tmp 41) 43 43 rfl 28 i5 (.slice none 0 0) 1 24 Try.underlying43 hi hz0 hz1 hz2 rfl (.slice oa j oc) j vs rfl (HO.out.keep (Keep.alloc (fun _ => False) _ _) (fun _ _ => id)) (.slice (some ⟨wr.heap.size, 0, none⟩) 1 1) 1 [.slice ao' _ c'] rfl hsrc.out (.inl (by omega)) (by unfold maxLen; omega) (by omega) ?_)
      intro g1 q1 w' ho hk hb
      have HR2 := Lib.hid (FIN.out g1 q1 w' ho hk hb)
      clear ho hk hb
      go_wp2_with fail
      go_ret
      exact ⟨_, bs ++ [B], rfl, by simp [HBL.out], HFL.out, HR2.out.out.1, HR2.out.out.2⟩
end Go.Proofs.Ytmblghdiejneoaa
