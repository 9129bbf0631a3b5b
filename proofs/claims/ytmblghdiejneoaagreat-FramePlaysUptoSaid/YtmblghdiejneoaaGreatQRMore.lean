/- The reference's more. -/
import Derived.Test.YtmblghdiejneoaaGreatQRTell
import Derived.Deep.QuietTactic
namespace Go.Proofs.YtmblghdiejneoaaGreat
set_option maxRecDepth 100000
open Go.RowKit

/-- What a call of the reference's decoder leaves. -/
def RFeedPost (w : World) (R : Nat) (x : List Fr × DSt) (e : Ending) (w' : World) : Prop :=
  ∃ v', e = .returned v' ∧ Own w' 4 v' x.1.length (fcells x.1) ∧ RDecAt w' R x.2 ∧ Keep (fun k => k = R) w w' ∧ (∀ g, v'.ownBlock = some g → w.heap.size ≤ g)

theorem extract_end (A : ByteArray) (j : Nat) : (A.extract j A.size).data.toList = A.data.toList.drop j := by
  have h : A.data.toList.length = A.size := by simp
  rw [ByteArray.data_extract, Array.toList_extract, List.extract_eq_take_drop, List.take_of_length_le]
  rw [List.length_drop, h]
  exact Nat.le_refl _
theorem gone_left (last : Bool) (l : List UInt8) : ∃ k, k ≤ l.length ∧ (gone last (l.length + 1) 0 l []).2 = l.drop k := by
  rw [gone_eq]
  exact scan_left last l.length 0 l 0 0

/-- Every frame that Gone tells has bytes. -/
theorem gone_some (last : Bool) : ∀ (f pos : Nat) (l : List UInt8) (out : List Fr), (∀ x ∈ out, 1 ≤ x.size) → ∀ x ∈ (gone last f pos l out).1, 1 ≤ x.size := by
  intro f
  induction f with
  | zero => intro pos l out h; exact h
  | succ f ih =>
    intro pos l out h
    rw [gone]
    by_cases h3 : (standsF l).1 = 3 ∧ (last = false ∨ l = [])
    · rw [if_pos h3]; exact h
    rw [if_neg h3]
    by_cases h2 : (standsF l).1 = 2
    · rw [if_pos h2]
      refine ih _ _ _ (fun x hx => ?_)
      rcases List.mem_append.1 hx with h1 | h1
      · exact h x h1
      · simp at h1; subst h1
        have := (standsF_good h2).1
        simp only; omega
    · rw [if_neg h2]
      refine ih _ _ _ (fun x hx => ?_)
      unfold bump at hx
      split at hx
      · rename_i y hy
        split at hx
        · rcases List.mem_append.1 hx with h1 | h1
          · exact h x ((List.dropLast_subset out) h1)
          · simp at h1; subst h1; simp only; omega
        · rcases List.mem_append.1 hx with h1 | h1
          · exact h x h1
          · simp at h1; subst h1; simp
      · rcases List.mem_append.1 hx with h1 | h1
        · exact h x h1
        · simp at h1; subst h1; simp
theorem mfold_zero (base : Nat) (l : List Fr) : ∀ (st : List Fr × Nat × Nat), (st.2.2 = 0 → st.2.1 = 0) → (∀ x ∈ l, 1 ≤ x.size) → ((mfold base st l).2.2 = 0 → (mfold base st l).2.1 = 0) := by
  induction l with
  | nil => intro st h _; exact h
  | cons x l ih =>
    intro st h hl
    refine ih (mstep base st x) ?_ (fun y hy => hl y (List.mem_cons_of_mem _ hy))
    have := hl x (List.mem_cons_self ..)
    unfold mstep
    split
    · intro h; simp only at h; omega
    · intro _; rfl

/-- The frames that Gone told, told on so far. -/
structure MoreRel (w2 : World) (R fed : Nat) (s : ByteArray) (last : Bool) (vG : Value) (G : List Fr) (base ba bs : Nat) (i : Nat) (v : Value) (wr : World) : Prop where
  out : Own wr 4 v (mfold base ([], ba, bs) (G.take i)).1.length (fcells (mfold base ([], ba, bs) (G.take i)).1)
  new : ∀ g, v.ownBlock = some g → w2.heap.size ≤ g
  blk : RBlk wr R fed (mfold base ([], ba, bs) (G.take i)).2.1 (mfold base ([], ba, bs) (G.take i)).2.2 s last
  keep : Keep (fun k => k = R) w2 wr
  src : Own wr 4 vG G.length (fcells G)

set_option maxHeartbeats 8000000 in
theorem rmore_any (w : World) (R : Nat) (d : DSt) (S : ByteArray) (last : Bool) (hb : RDecAt w R d) (hok : DOk d) (hsz : d.rest.length + S.size ≤ 10000000000) (hfed : d.fed + S.size ≤ 4611686018427387903) :
    Calls Tryz.prog 110 #[.pointer (some ⟨R, 0, none⟩), .string S, .bool last] w (RFeedPost w R (moreF d S.data.toList last)) := by
  obtain ⟨i5, hi, hz0, hz1, hz2⟩ := info_parts info_frame
  have hR := lt_of_block hb
  obtain ⟨c0, c1, c2, c3, c4, hfr⟩ := five_cells hb
  have HB := Lib.hid hb
  have HOK := Lib.hid hok
  have hrl := hok.len
  have hrest : (⟨d.rest.toArray⟩ : ByteArray).size = d.rest.length := by simp [ByteArray.size]
  have hAd : ((⟨d.rest.toArray⟩ : ByteArray) ++ S).data.toList = d.rest ++ S.data.toList := by rw [ByteArray.data_append]; simp
  have hAs : ((⟨d.rest.toArray⟩ : ByteArray) ++ S).size = d.rest.length + S.size := by rw [ByteArray.size_append, hrest]
  have hsl : S.data.toList.length = S.size := by simp
  obtain ⟨k, hk, hk2⟩ := gone_left last (d.rest ++ S.data.toList)
  have hsz1 := gone_sizes last ((d.rest ++ S.data.toList).length + 1) 0 (d.rest ++ S.data.toList) [] (d.rest ++ S.data.toList).length (by omega) (by omega) (fun x hx => nomatch hx)
  have hsm := gone_some last ((d.rest ++ S.data.toList).length + 1) 0 (d.rest ++ S.data.toList) [] (fun x hx => nomatch hx)
  have hg := fun w => gone_any ((⟨d.rest.toArray⟩ : ByteArray) ++ S) last w (by rw [hAs]; omega)
  have hmf : moreF d S.data.toList last = if last then ((mfold (d.fed - d.rest.length) ([], d.ba, d.bs) (gone last ((d.rest ++ S.data.toList).length + 1) 0 (d.rest ++ S.data.toList) []).1).1 ++ tellB (mfold (d.fed - d.rest.length) ([], d.ba, d.bs) (gone last ((d.rest ++ S.data.toList).length + 1) 0 (d.rest ++ S.data.toList) []).1).2.1 (mfold (d.fed - d.rest.length) ([], d.ba, d.bs) (gone last ((d.rest ++ S.data.toList).length + 1) 0 (d.rest ++ S.data.toList) []).1).2.2, ⟨last, d.fed + S.data.toList.length, 0, 0, (gone last ((d.rest ++ S.data.toList).length + 1) 0 (d.rest ++ S.data.toList) []).2⟩)
      else ((mfold (d.fed - d.rest.length) ([], d.ba, d.bs) (gone last ((d.rest ++ S.data.toList).length + 1) 0 (d.rest ++ S.data.toList) []).1).1, ⟨last, d.fed + S.data.toList.length, (mfold (d.fed - d.rest.length) ([], d.ba, d.bs) (gone last ((d.rest ++ S.data.toList).length + 1) 0 (d.rest ++ S.data.toList) []).1).2.1, (mfold (d.fed - d.rest.length) ([], d.ba, d.bs) (gone last ((d.rest ++ S.data.toList).length + 1) 0 (d.rest ++ S.data.toList) []).1).2.2, (gone last ((d.rest ++ S.data.toList).length + 1) 0 (d.rest ++ S.data.toList) []).2⟩) := rfl
  have hll : (d.rest ++ S.data.toList).length = d.rest.length + S.size := by rw [List.length_append, hsl]
  rw [hAs, hAd] at hg
  rw [← hll] at hg
  have hex : ∀ j, ((((⟨d.rest.toArray⟩ : ByteArray) ++ S).extract j (d.rest.length + S.size)).data.toList) = (d.rest ++ S.data.toList).drop j := by
    intro j
    rw [← hAd, ← hAs]
    exact extract_end _ j
  generalize gone last ((d.rest ++ S.data.toList).length + 1) 0 (d.rest ++ S.data.toList) [] = Q at *
  obtain ⟨G, Z⟩ := Q
  simp only at hk2 hsz1 hsm hmf hg
  rw [hsl] at hmf
  have hzl : Z.length = d.rest.length + S.size - k := by rw [hk2, List.length_drop, hll]
  have hnk : d.rest.length + S.size - Z.length = k := by rw [hzl]; rw [hll] at hk; omega
  rw [hll] at hk hsz1 hg
  have hgs : sizes G ≤ d.rest.length + S.size := by have := hsz1.1; simp [sizes] at this ⊢; omega
  have HPOS := Lib.hid hsz1.2
  have HSM := Lib.hid hsm
  have HMF := Lib.hid hmf
  have HG := Lib.hid hg
  have HEX := Lib.hid (show (((⟨d.rest.toArray⟩ : ByteArray) ++ S).extract k (d.rest.length + S.size)).data.toList = Z from (hex k).trans hk2.symm)
  have HNK := Lib.hid hnk
  have hgl : G.length ≤ sizes G := by
    clear hg hmf hex hzl hnk hk2 hsz1 HPOS HMF HG HEX HNK hgs
    induction G with
    | nil => exact Nat.zero_le _
    | cons x l ih =>
      have h1 := ih (fun y hy => hsm y (List.mem_cons_of_mem _ hy)) (Lib.hid (fun y hy => hsm y (List.mem_cons_of_mem _ hy)))
      have h2 := hsm x (List.mem_cons_self ..)
      simp [sizes] at h1 ⊢
      omega
  clear hsz1 hsm hmf hg hex hnk hk2 hzl
  have HAD := Lib.hid hAd
  have HAS := Lib.hid hAs
  clear hb hok hAd hAs
  have hbase : ((d.fed : Int) - (d.rest.length : Int)) = ((d.fed - d.rest.length : Nat) : Int) := by omega
  have hbb : d.fed - d.rest.length + (d.rest.length + S.size) ≤ 4611686018427387903 := by omega
  generalize d.fed - d.rest.length = base at *
  generalize hA : (⟨d.rest.toArray⟩ : ByteArray) = A at *
  have HA := Lib.hid hA
  clear hA
  go_enter Tryz.func110, Tryz.ntmps110
  go_wp2_with fail
  go_quiet (fail)
  go_wp2_with fail
  have hf0 := heap_setCell_same ((w.drewN nq).setCell ⟨R, 0, none⟩ (.int .i64 ((d.fed : Int) + (S.size : Int)))) R 3 _ 95 (.string (A ++ S)) (heap_setCell_same (w.drewN nq) R 0 _ 95 (.int .i64 ((d.fed : Int) + (S.size : Int))) (show (w.drewN nq).heap[R]? = _ from HB.out))
  have hf1 := heap_setCell_same _ R 4 _ 95 (.bool last) hf0
  have hK0 : Keep (fun k => k = R) w ((((w.drewN nq).setCell ⟨R, 0, none⟩ (.int .i64 ((d.fed : Int) + (S.size : Int)))).setCell ⟨R, 3, none⟩ (.string (A ++ S))).setCell ⟨R, 4, none⟩ (.bool last)) :=
    (((Keep.mk rfl rfl rfl (Nat.le_refl _) (fun _ _ _ => rfl) : Keep (fun k => k = R) w (w.drewN nq)).trans (Keep.setCell _ R 0 _) (fun _ _ h => h) (fun _ _ h => h)).trans (Keep.setCell _ R 3 _) (fun _ _ h => h) (fun _ _ h => h)).trans (Keep.setCell _ R 4 _) (fun _ _ h => h) (fun _ _ h => h)
  have HK0 := Lib.hid hK0
  have HB0 := Lib.hid (show RBlk ((((w.drewN nq).setCell ⟨R, 0, none⟩ (.int .i64 ((d.fed : Int) + (S.size : Int)))).setCell ⟨R, 3, none⟩ (.string (A ++ S))).setCell ⟨R, 4, none⟩ (.bool last)) R (d.fed + S.size) d.ba d.bs (A ++ S) last from hf1)
  clear hf0 hf1 hK0 c0 c1 c2 c3 c4 hfr
  generalize (((w.drewN nq).setCell ⟨R, 0, none⟩ (.int .i64 ((d.fed : Int) + (S.size : Int)))).setCell ⟨R, 3, none⟩ (.string (A ++ S))).setCell ⟨R, 4, none⟩ (.bool last) = w0 at *
  refine (HG.out w0).mono ?_
  rintro e w1 ⟨vG, rfl, hog, hvg, hb1⟩
  obtain ⟨ga, gc, rfl, hgsh⟩ := own_shape hog
  have HGS := Lib.hid hgsh
  clear hgsh
  have hws := HK0.out.size
  have HB1 := Lib.hid (show RBlk w1 R (d.fed + S.size) d.ba d.bs (A ++ S) last from (Keep.of_below hb1 (Nat.le_refl _) (fun _ => False)).old HB0.out id)
  have HK1 := Lib.hid (HK0.out.trans (Keep.of_below hb1 (Nat.le_refl _) (fun _ => False)) (Z := fun k => k = R) (fun _ _ h => h) (fun _ _ h => h.elim))
  have HOG := Lib.hid hog
  have HVG := Lib.hid hvg
  clear hog hvg hb1 HK0 HB0
  simp only
  rw [HNK.out]
  obtain ⟨c0, c1, c2, c3, c4, hfr⟩ := five_cells HB1.out
  have hsize : (A ++ S).size = d.rest.length + S.size := HAS.out
  go_wp2_with fail
  have hf2 := heap_setCell_same w1 R 3 _ 95 (.string ((A ++ S).extract k (d.rest.length + S.size))) HB1.out
  have HB2 := Lib.hid (show RBlk (w1.setCell ⟨R, 3, none⟩ (.string ((A ++ S).extract k (d.rest.length + S.size)))) R (d.fed + S.size) d.ba d.bs ((A ++ S).extract k (d.rest.length + S.size)) last from hf2)
  have hK12 := Keep.setCell w1 R 3 (.string ((A ++ S).extract k (d.rest.length + S.size)))
  have hws1 := HK1.out.size
  have hgR : ∀ g, (Value.slice ga G.length gc).ownBlock = some g → ¬ g = R := fun g hg e => by have := HVG.out g hg; omega
  have HO2 := Lib.hid (HOG.out.keep hK12 hgR)
  have HK2 := Lib.hid (HK1.out.trans hK12 (Z := fun k => k = R) (fun _ _ h => h) (fun _ _ h => h))
  clear hf2 hK12 c0 c1 c2 c3 c4 hfr HB1 HOG HK1 hsize
  have HZ := HEX
  clear HEX
  generalize (A ++ S).extract k (d.rest.length + S.size) = s' at *
  generalize w1.setCell ⟨R, 3, none⟩ (.string s') = w2 at *
  have hbad := HOK.out.bad
  have hzero := HOK.out.zero
  have hR2 := lt_of_block HB2.out
  have HGR := Lib.hid hgR
  have HZERO := Lib.hid hzero
  have hg2 := HO2.out.lt
  have HG2 := Lib.hid hg2
  clear hgR hzero hg2
  go_loopw [10, 11] (fun v i wr => Hid (∃ j : Nat, i = .int .i64 j ∧ j ≤ G.length ∧ MoreRel w2 R (d.fed + S.size) s' last (.slice ga G.length gc) G base d.ba d.bs j v wr)) (fun _ i _ => G.length - (intOf i).toNat)
  case atStart => exact Lib.hid ⟨0, rfl, Nat.zero_le _, Own.nil _ 4, fun _ hg => (nomatch hg), HB2.out, Keep.refl _ _, HO2.out⟩
  case round =>
    obtain ⟨j, rfl, hj, hout, hnew, hblk, hkeep, hsrc⟩ := hrel.out
    have hbnd := mfold_bs base (G.take j) ([], d.ba, d.bs)
    have hz := mfold_zero base (G.take j) ([], d.ba, d.bs) HZERO.out (fun x hx => HSM.out x (List.mem_of_mem_take hx))
    have htl : (G.take j).length ≤ j := by rw [List.length_take]; omega
    have hnext : ∀ x, G[j]? = some x → mfold base ([], d.ba, d.bs) (G.take (j + 1)) = mstep base (mfold base ([], d.ba, d.bs) (G.take j)) x := by
      intro x hx
      obtain ⟨hj', he⟩ := List.getElem?_eq_some_iff.1 hx
      rw [List.take_succ_eq_append_getElem hj', mfold_append, he]
      rfl
    have hstq : mfold base ([], d.ba, d.bs) (G.take j) = ((mfold base ([], d.ba, d.bs) (G.take j)).1, (mfold base ([], d.ba, d.bs) (G.take j)).2.1, (mfold base ([], d.ba, d.bs) (G.take j)).2.2) := rfl
    have HSTQ := Lib.hid hstq
    have HNX := Lib.hid hnext
    have hsj := fun x hx => sizes_mem (l := G) (i := j) (x := x) hx
    generalize hst : mfold base ([], d.ba, d.bs) (G.take j) = st at *
    obtain ⟨out, ba, bs⟩ := st
    simp only [List.length_nil] at hbnd hz hout hblk
    obtain ⟨oa, oc, rfl, _⟩ := own_shape hout
    have HST := Lib.hid hst
    have HOUT := Lib.hid hout
    have HNEW := Lib.hid hnew
    have HBLK := Lib.hid hblk
    have HKEEP := Lib.hid hkeep
    have HSRC := Lib.hid hsrc
    have HZ2 := Lib.hid hz
    have hstake := sizes_take G j
    obtain ⟨c0, c1, c2, c3, c4, hfr⟩ := five_cells hblk
    have hwk := hkeep.size
    have hRw : R < wr.heap.size := by omega
    clear hrel hout hnew hblk hkeep hsrc hz hstq hnext hst
    by_cases hlt : j < G.length
    · obtain ⟨gg, rfl⟩ := HGS.out (by omega)
      obtain ⟨x, hx⟩ : ∃ x, G[j]? = some x := ⟨G[j], List.getElem?_eq_getElem hlt⟩
      obtain ⟨a0, a1, a2, a3⟩ := HSRC.out.frame j x hx
      have hnx := HNX.out x hx
      have hsz3 := hsj x hx
      have hxp := HPOS.out x (List.mem_of_getElem? hx)
      have HNX2 := Lib.hid hnx
      clear hx hsj hnx
      generalize hC : (⟨x.content.toArray⟩ : ByteArray) = C at *
      have HC := Lib.hid hC
      clear hC
      by_cases hkd : x.kind = 2
      · have hkb : ((x.kind : Int) == 2) = true := by rw [hkd]; rfl
        have HKD := Lib.hid hkd
        clear hkd
        by_cases hb0 : bs = 0
        · have hbb0 : ((bs : Int) == 0) = true := by rw [hb0]; rfl
          have HB0 := Lib.hid hb0
          clear hb0
          go_wp2_with fail
          go_region
          all_goals
            have hbx := heap_setCell_same _ R 2 _ 95 (.int .i64 ((bs : Int) + (x.size : Int))) (heap_setCell_same wr R 1 _ 95 (.int .i64 ((x.pos : Int) + (base : Int))) HBLK.out)
            have HBX := Lib.hid (show RBlk ((wr.setCell ⟨R, 1, none⟩ (.int .i64 ((x.pos : Int) + (base : Int)))).setCell ⟨R, 2, none⟩ (.int .i64 ((bs : Int) + (x.size : Int)))) R (d.fed + S.size) (x.pos + base) (bs + x.size) s' last from hbx)
            have HKX := Lib.hid (show Keep (fun k => k = R) wr ((wr.setCell ⟨R, 1, none⟩ (.int .i64 ((x.pos : Int) + (base : Int)))).setCell ⟨R, 2, none⟩ (.int .i64 ((bs : Int) + (x.size : Int)))) from (Keep.setCell wr R 1 _).trans (Keep.setCell _ R 2 _) (fun _ _ h => h) (fun _ _ h => h))
            clear hbx
            generalize (wr.setCell ⟨R, 1, none⟩ (.int .i64 ((x.pos : Int) + (base : Int)))).setCell ⟨R, 2, none⟩ (.int .i64 ((bs : Int) + (x.size : Int))) = W3 at *
            have HKA := Lib.hid ((Keep.alloc (fun _ => False) W3 (.cells #[.int .u8 x.kind, .int .i64 ((x.pos : Int) + (base : Int)), .int .i64 x.size, .string C] 82)).trans (Keep.drew (fun _ => False) _) (Z := fun _ => False) (fun _ _ h => h) (fun _ _ h => h))
            generalize (W3.alloc (.cells #[.int .u8 x.kind, .int .i64 ((x.pos : Int) + (base : Int)), .int .i64 x.size, .string C] 82)).drew = W4 at *
            have hm : mfold base ([], d.ba, d.bs) (G.take (j + 1)) = (out, (x.pos + base), bs + x.size) := by
              rw [HNX2.out]
              unfold mstep
              rw [if_pos HKD.out]
              simp only
              rw [if_pos HB0.out]
            have HM := Lib.hid hm
            clear hm
            go_wp2_with fail
            go_roundw
            case rel =>
              refine Lib.hid ⟨j + 1, by go_num, by omega, ?_, HNEW.out, ?_, (HKEEP.out.trans HKX.out (fun _ _ h => h) (fun _ _ h => h)).trans HKA.out (fun _ _ h => h) (fun _ _ h => h.elim), (HSRC.out.keep HKX.out HGR.out).keep HKA.out (fun _ _ => id)⟩
              · rw [HM.out]
                exact (HOUT.out.keep HKX.out (fun g hg h => by have := HNEW.out g hg; omega)).keep HKA.out (fun _ _ => id)
              · rw [HM.out]
                exact HKA.out.old HBX.out id
            case measure => simp [intOf]; omega
        · have hbb0 : ((bs : Int) == 0) = false := by simp; omega
          have HB0 := Lib.hid hb0
          go_wp2_with fail
          go_region
          all_goals
            have hbx := heap_setCell_same wr R 2 _ 95 (.int .i64 ((bs : Int) + (x.size : Int))) HBLK.out
            have HBX := Lib.hid (show RBlk (wr.setCell ⟨R, 2, none⟩ (.int .i64 ((bs : Int) + (x.size : Int)))) R (d.fed + S.size) ba (bs + x.size) s' last from hbx)
            have HKX := Lib.hid (show Keep (fun k => k = R) wr (wr.setCell ⟨R, 2, none⟩ (.int .i64 ((bs : Int) + (x.size : Int)))) from Keep.setCell wr R 2 _)
            clear hbx
            generalize wr.setCell ⟨R, 2, none⟩ (.int .i64 ((bs : Int) + (x.size : Int))) = W3 at *
            have HKA := Lib.hid ((Keep.alloc (fun _ => False) W3 (.cells #[.int .u8 x.kind, .int .i64 ((x.pos : Int) + (base : Int)), .int .i64 x.size, .string C] 82)).trans (Keep.drew (fun _ => False) _) (Z := fun _ => False) (fun _ _ h => h) (fun _ _ h => h))
            generalize (W3.alloc (.cells #[.int .u8 x.kind, .int .i64 ((x.pos : Int) + (base : Int)), .int .i64 x.size, .string C] 82)).drew = W4 at *
            have hm : mfold base ([], d.ba, d.bs) (G.take (j + 1)) = (out, ba, bs + x.size) := by
              rw [HNX2.out]
              unfold mstep
              rw [if_pos HKD.out]
              simp only
              rw [if_neg HB0.out]
            have HM := Lib.hid hm
            clear hm
            go_wp2_with fail
            go_roundw
            case rel =>
              refine Lib.hid ⟨j + 1, by go_num, by omega, ?_, HNEW.out, ?_, (HKEEP.out.trans HKX.out (fun _ _ h => h) (fun _ _ h => h)).trans HKA.out (fun _ _ h => h) (fun _ _ h => h.elim), (HSRC.out.keep HKX.out HGR.out).keep HKA.out (fun _ _ => id)⟩
              · rw [HM.out]
                exact (HOUT.out.keep HKX.out (fun g hg h => by have := HNEW.out g hg; omega)).keep HKA.out (fun _ _ => id)
              · rw [HM.out]
                exact HKA.out.old HBX.out id
            case measure => simp [intOf]; omega
      · have hkb : ((x.kind : Int) == 2) = false := by simp; omega
        have HKD := Lib.hid hkd
        clear hkd
        have hvlt := HOUT.out.lt
        have HVLT := Lib.hid hvlt
        clear hvlt
        go_wp2_with fail
        have HH := Lib.hid (heap_alloc_new wr (.cells #[.int .u8 x.kind, .int .i64 ((x.pos : Int) + (base : Int)), .int .i64 x.size, .string C] 82))
        have HKA := Lib.hid (Keep.alloc (fun _ => False) wr (.cells #[.int .u8 x.kind, .int .i64 ((x.pos : Int) + (base : Int)), .int .i64 x.size, .string C] 82))
        generalize wr.alloc (.cells #[.int .u8 x.kind, .int .i64 ((x.pos : Int) + (base : Int)), .int .i64 x.size, .string C] 82) = W3 at *
        refine (rtell_any W3 R (d.fed + S.size) ba bs s' last (.slice oa out.length oc) out (HKA.out.old HBLK.out id) HZ2.out (HOUT.out.keep HKA.out (fun _ _ => id)) (fun h => by have := HNEW.out R h; omega) (by omega)).mono ?_
        rintro e w4 ⟨v4, rfl, ho4, hb4, hk4, hs4⟩
        have h44 : (out ++ tellB ba bs).length ≤ out.length + 1 := by unfold tellB; split <;> simp
        obtain ⟨ua, uc, rfl, _⟩ := own_shape ho4
        have hHs : (wr.heap.size) < W3.heap.size := lt_of_block HH.out
        have hW34 := hk4.size
        have HH4 := hk4.old HH.out (fun h => h.elim (fun h => by omega) (fun h => by have := HVLT.out _ h; omega))
        have q0 : w4.cell? ⟨wr.heap.size, 0, none⟩ = some (.int .u8 x.kind) := by simp [World.cell?, HH4]
        have q1 : w4.cell? ⟨wr.heap.size, 1, none⟩ = some (.int .i64 ((x.pos : Int) + (base : Int))) := by simp [World.cell?, HH4]
        have q2 : w4.cell? ⟨wr.heap.size, 2, none⟩ = some (.int .i64 x.size) := by simp [World.cell?, HH4]
        have q3 : w4.cell? ⟨wr.heap.size, 3, none⟩ = some (.string C) := by simp [World.cell?, HH4]
        have HO4 := Lib.hid ho4
        have HB4 := Lib.hid hb4
        have HS4 := Lib.hid (show ∀ g, (Value.slice ua (out ++ tellB ba bs).length uc).ownBlock = some g → w2.heap.size ≤ g from fun g hg => by
          rcases hs4 with h | ⟨g', h, h'⟩
          · exact HNEW.out g (h.symm.trans hg)
          · rw [hg] at h; cases h; omega)
        have HK4 := Lib.hid (HKA.out.trans hk4 (Z := fun k => k = R ∨ (Value.slice oa out.length oc).ownBlock = some k) (fun _ _ h => h.elim) (fun _ _ h => h))
        have hR4 := lt_of_block hb4
        have hm : mfold base ([], d.ba, d.bs) (G.take (j + 1)) = (out ++ tellB ba bs ++ [(⟨x.kind, x.pos + base, x.size, x.content⟩ : Fr)], 0, 0) := by
          rw [HNX2.out]
          unfold mstep
          rw [if_neg HKD.out]
        clear HH4 ho4 hb4 hk4 hs4 HKA HH
        generalize out ++ tellB ba bs = out4 at *
        have HM := Lib.hid hm
        clear hm
        go_wp2_with (at_builtin; refine wpList_append_slice rfl (.tmp 113) (.tmp 115) 24 24 rfl 82 i5 zeroFrame 4 40 Tryz.underlying24 hi hz0 hz1 hz2 rfl (.slice ua out4.length uc) out4.length (fcells out4) rfl (HO4.out.keep (Keep.alloc (fun _ => False) _ _) (fun _ _ => id)) (.slice (some ⟨w4.heap.size, 0, none⟩) 1 1) 1 (fcell ⟨x.kind, x.pos + base, x.size, x.content⟩) rfl (Src.frame Tryz.underlying24 _ _ _ (by simp [fcell, HC.out])) (by unfold maxLen; omega) (by omega) ?_)
        intro ao5 q5 w5 ho5 hk5 hb5
        have ho5' : Own w5 4 (.slice ao5 (out4.length + 1) q5) (out4 ++ [(⟨x.kind, x.pos + base, x.size, x.content⟩ : Fr)]).length (fcells (out4 ++ [(⟨x.kind, x.pos + base, x.size, x.content⟩ : Fr)])) := by
          rw [fcells_append, fcells_one, List.length_append]
          exact ho5
        have HO5 := Lib.hid ho5'
        have HN5 := Lib.hid (show ∀ g, (Value.slice ao5 (out4.length + 1) q5).ownBlock = some g → w2.heap.size ≤ g from fun g hg => by
          rcases hb5 with h | ⟨g', h, h'⟩
          · exact HS4.out g (h.symm.trans hg)
          · rw [hg] at h; cases h
            have : (w4.alloc (.cells #[.int .u8 x.kind, .int .i64 ((x.pos : Int) + (base : Int)), .int .i64 x.size, .string C] 82)).heap.size = w4.heap.size + 1 := by simp
            omega)
        have HKX := Lib.hid ((Keep.alloc (fun _ => False) w4 (.cells #[.int .u8 x.kind, .int .i64 ((x.pos : Int) + (base : Int)), .int .i64 x.size, .string C] 82)).trans hk5 (Z := fun k => (Value.slice ua out4.length uc).ownBlock = some k) (fun _ _ h => h.elim) (fun _ _ h => h))
        clear ho5 ho5' hk5 hb5
        go_wp2_with fail
        go_roundw
        case rel =>
          refine Lib.hid ⟨j + 1, by go_num, by omega, ?_, HN5.out, ?_, (HKEEP.out.trans HK4.out (Z := fun k => k = R) (fun _ _ h => h) (fun i hi h => h.elim id (fun h => by have := HNEW.out i h; omega))).trans HKX.out (fun _ _ h => h) (fun i hi h => by have := HS4.out i h; omega), ?_⟩
          · rw [HM.out]; exact HO5.out
          · rw [HM.out]; exact HKX.out.old HB4.out (fun h => by have := HS4.out R h; omega)
          · refine (HSRC.out.keep HK4.out (fun g hg h => ?_)).keep HKX.out (fun g hg h => ?_)
            · have := HG2.out g hg
              exact h.elim (fun h => HGR.out g hg h) (fun h => by have := HNEW.out g h; omega)
            · have := HG2.out g hg
              have := HS4.out g h
              omega
        case measure => simp [intOf]; omega
    · obtain rfl : j = G.length := by omega
      have hfin := HST.out
      rw [List.take_length] at hfin
      have hmf := HMF.out
      rw [hfin] at hmf
      simp only at hmf
      have hs' : (⟨Z.toArray⟩ : ByteArray) = s' := by rw [← HZ.out]; first | done | exact bytes_eta s'
      have HS' := Lib.hid hs'
      have HKF := Lib.hid (HK2.out.trans HKEEP.out (Z := fun k => k = R) (fun _ _ h => h) (fun _ _ h => h))
      have hw2s := HK2.out.size
      cases last with
      | false =>
        rw [if_neg (by simp)] at hmf
        have HMF2 := Lib.hid hmf
        clear hmf hfin hs'
        go_wp2_with fail
        go_ret
        rw [HMF2.out]
        refine ⟨_, rfl, HOUT.out, ?_, HKF.out, fun g hg => by have := HNEW.out g hg; omega⟩
        unfold RDecAt
        rw [HS'.out]
        exact HBLK.out
      | true =>
        rw [if_pos rfl] at hmf
        have HMF2 := Lib.hid hmf
        clear hmf hfin hs'
        go_wp2_with fail
        refine (rtell_any wr R (d.fed + S.size) ba bs s' true (.slice oa out.length oc) out HBLK.out HZ2.out HOUT.out (fun h => by have := HNEW.out R h; omega) (by omega)).mono ?_
        rintro e w4 ⟨v4, rfl, ho4, hb4, hk4, hs4⟩
        have HO4 := Lib.hid ho4
        have HB4 := Lib.hid hb4
        have HK4 := Lib.hid hk4
        have HS4 := Lib.hid hs4
        clear ho4 hb4 hk4 hs4
        go_wp2_with fail
        go_ret
        rw [HMF2.out]
        refine ⟨v4, rfl, HO4.out, ?_, HKF.out.trans HK4.out (fun _ _ h => h) (fun i hi h => h.elim id (fun h => by have := HNEW.out i h; omega)), fun g hg => ?_⟩
        · unfold RDecAt
          rw [HS'.out]
          exact HB4.out
        · have hg' : v4.ownBlock = some g := hg
          rcases HS4.out with h | ⟨g', h, h'⟩
          · have := HNEW.out g (h.symm.trans hg'); omega
          · rw [hg'] at h; cases h; omega
end Go.Proofs.YtmblghdiejneoaaGreat
