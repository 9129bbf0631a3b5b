/- FrameFinds: the walk. -/
import Derived.Test.YtmblghdiejneoaaPlain
import Derived.Test.YtmblghdiejneoaaCovers
import Derived.Test.YtmblghdiejneoaaPieces
namespace Go.Proofs.Ytmblghdiejneoaa
open Go.RowKit

/-- A slice of texts. -/
def StrRow (w : World) (a : Option Addr) (n c : Nat) (ss : List ByteArray) : Prop :=
  ss.length = n ∧ n ≤ c ∧ ∀ i s, ss[i]? = some s → ∃ x, a = some x ∧ w.cell? (x.add i) = some (.string s)

def junkAt (js : List ByteArray) (i : Nat) : List UInt8 := match js[i]? with
  | some s => plainL s.data.toList
  | none => []
def contAt (cs : List ByteArray) (i : Nat) : List UInt8 := match cs[i]? with
  | some s => if 4096 < s.size then [] else s.data.toList
  | none => []
def itemsN (cs js : List ByteArray) (k : Nat) : List (List UInt8 × List UInt8) := (List.range k).map fun i => (junkAt js i, contAt cs i)

theorem itemsN_succ (cs js : List ByteArray) (k : Nat) : itemsN cs js (k + 1) = itemsN cs js k ++ [(junkAt js k, contAt cs k)] := by
  simp [itemsN, List.range_succ]
theorem itemsN_ok (cs js : List ByteArray) (k : Nat) : ∀ x ∈ itemsN cs js k, (∀ y ∈ x.1, y ≠ 197) ∧ x.2.length ≤ 4096 := by
  intro x hx
  simp only [itemsN, List.mem_map] at hx
  obtain ⟨i, _, rfl⟩ := hx
  refine ⟨?_, ?_⟩
  · simp only [junkAt]
    split
    · exact plainL_not _
    · intro y hy; cases hy
  · simp only [contAt]
    split
    · split
      · simp
      · rename_i s _ h
        have : s.data.toList.length = s.size := by simp
        omega
    · simp

def FindRel (w : World) (cs js : List ByteArray) (st l i : Value) (wr : World) : Prop :=
  ∃ (k : Nat) (S : ByteArray), i = .int .i64 k ∧ k ≤ cs.length ∧ st = .string S ∧ S.data.toList = streamF (itemsN cs js k) ∧ Own wr 4 l (wantF 0 (itemsN cs js k)).length (fcells (wantF 0 (itemsN cs js k))) ∧ (∀ g, l.ownBlock = some g → w.heap.size ≤ g) ∧ Below w.heap.size w wr

/-- The list grows. -/
theorem grow {w w1 w2 : World} {l l2 : Value} (hb : Below w.heap.size w w1) (hl : ∀ g, l.ownBlock = some g → w.heap.size ≤ g) (o : Obj) (hk : Keep (fun k => l.ownBlock = some k) (w1.alloc o) w2) (hs : l2.ownBlock = l.ownBlock ∨ ∃ g, l2.ownBlock = some g ∧ w1.heap.size + 1 ≤ g) :
    Below w.heap.size w w2 ∧ ∀ g, l2.ownBlock = some g → w.heap.size ≤ g := by
  have h1 := hb.size
  refine ⟨hb.trans (((Keep.alloc (fun k => l.ownBlock = some k) w1 o).trans hk (fun _ _ h => h) (fun _ _ h => h)).below h1 (fun i hi h => by have := hl i h; omega)), fun g hg => ?_⟩
  rcases hs with h | ⟨g', h, hle⟩
  · exact hl g (by rw [← h]; exact hg)
  · rw [h] at hg
    cases hg
    omega

theorem bytes_eta (C : ByteArray) : (⟨C.data.toList.toArray⟩ : ByteArray) = C := by cases C; simp

set_option maxRecDepth 100000 in
set_option maxHeartbeats 8000000 in
theorem finds_any (w : World) (ac aj : Option Addr) (nc cc nj cj : Nat) (cs js : List ByteArray) (hc : StrRow w ac nc cc cs) (hj : StrRow w aj nj cj js) (hnc : nc ≤ 1048576) (hnj : nj ≤ 1048576) (hcs : ∀ s ∈ cs, s.size ≤ 1048576) (hjs : ∀ s ∈ js, s.size ≤ 1048576)
    (hM : ∀ k, k ≤ nc → (streamF (itemsN cs js k)).length ≤ 16777216) :
    Calls Try.prog 5 #[.slice ac nc cc, .slice aj nj cj] w fun e w' => e = .returned (.bool true) ∧ Below w.heap.size w w' := by
  obtain ⟨i5, hi, hz0, hz1, hz2⟩ := info_parts info_frame
  have HC := Lib.hid hc
  have HJ := Lib.hid hj
  have HM := Lib.hid hM
  have HCS := Lib.hid hcs
  have HJS := Lib.hid hjs
  have hst := Lib.hid (show FindRel w cs js (.string ⟨#[]⟩) (.slice none 0 0) (.int .i64 0) w from ⟨0, ⟨#[]⟩, rfl, Nat.zero_le _, rfl, rfl, Own.nil _ _, fun g hg => (nomatch hg), Below.refl _ _⟩)
  have hcn := hc.1
  have hcc := hc.2.1
  have hjn := hj.1
  have hjc := hj.2.1
  clear hc hj hM hcs hjs
  go_enter Try.func5, Try.ntmps5
  go_wp2_with fail
  go_loopw [5, 6, 7] (fun st l i wr => Hid (FindRel w cs js st l i wr)) (fun _ _ i _ => nc - (intOf i).toNat)
  case atStart => exact hst
  case round =>
    obtain ⟨k, S, rfl, hk, rfl, hS, hown, hge, hbr⟩ := hrel.out
    rw [hcn] at hk
    have hMk := HM.out k hk
    have hSz : S.size = (streamF (itemsN cs js k)).length := by rw [← hS]; simp
    have hSz1 : S.size ≤ 16777216 := by omega
    have hLn := wantF_len (itemsN cs js k) 0
    have hitl : (itemsN cs js k).length = k := by simp [itemsN]
    rw [hitl] at hLn
    have HS := Lib.hid hS
    have HSZ := Lib.hid hSz
    have HBR := Lib.hid hbr
    have HO := Lib.hid hown
    have HGE := Lib.hid hge
    obtain ⟨la, lc, hl', _⟩ := own_shape hown
    subst hl'
    generalize hL : wantF 0 (itemsN cs js k) = L at *
    have HL := Lib.hid hL
    clear hMk hSz hitl hS hbr hown hge hrel hL
    by_cases hlt : k < nc
    · obtain ⟨C, hC⟩ : ∃ C, cs[k]? = some C := ⟨cs[k]'(by omega), List.getElem?_eq_getElem _⟩
      obtain ⟨x, rfl, hcx⟩ := HC.out.2.2 k C hC
      have hccl := fun (wz : World) (hz : Below w.heap.size w wz) => (hz.cell (World.block_lt_of_cell? w _ hcx)).trans hcx
      have HCC := Lib.hid hccl
      have hCs := HCS.out C (List.mem_of_getElem? hC)
      have hnx := itemsN_succ cs js k
      have hca : contAt cs k = if 4096 < C.size then [] else C.data.toList := by simp only [contAt, hC]
      have hMn := HM.out (k + 1) (by omega)
      have hccr := hccl wr HBR.out
      rw [hnx, streamF_snoc, List.length_append, List.length_append, frameL_length, ← HSZ.out] at hMn
      have HNX := Lib.hid hnx
      have HCA := Lib.hid hca
      have hfin : ∀ (J F : ByteArray) (l2 : Value) (w2 : World), J.data.toList = junkAt js k → F.data.toList = frameL (contAt cs k) → Own w2 4 l2 (L ++ badL S.size (junkAt js k) ++ [(⟨1, S.size + J.size, F.size, contAt cs k⟩ : Fr)]).length (fcells (L ++ badL S.size (junkAt js k) ++ [(⟨1, S.size + J.size, F.size, contAt cs k⟩ : Fr)])) → (∀ g, l2.ownBlock = some g → w.heap.size ≤ g) → Below w.heap.size w w2 →
          Hid (FindRel w cs js (.string (S ++ J ++ F)) l2 (.int .i64 ((k + 1 : Nat) : Int)) w2) := by
        intro J F l2 w2 h1 h2 h3 h4 h5
        have hJs : J.size = (junkAt js k).length := by rw [← h1]; simp
        have hFs : F.size = (contAt cs k).length + 8 := by rw [← frameL_length, ← h2]; simp
        refine Lib.hid ⟨k + 1, S ++ J ++ F, rfl, by omega, rfl, ?_, ?_, h4, h5⟩
        · rw [HNX.out, streamF_snoc, ByteArray.data_append, ByteArray.data_append, Array.toList_append, Array.toList_append, HS.out, h1, h2]
        · rw [HNX.out, wantF_snoc, HL.out, Nat.zero_add, ← HSZ.out, ← hJs, ← hFs]
          exact h3
      have HFIN := Lib.hid hfin
      clear hccl hnx hca hfin hcx hC
      by_cases hkj : k < nj
      · obtain ⟨J0, hJ0⟩ : ∃ C, js[k]? = some C := ⟨js[k]'(by omega), List.getElem?_eq_getElem _⟩
        obtain ⟨y, rfl, hjy⟩ := HJ.out.2.2 k J0 hJ0
        have hjr := (HBR.out.cell (World.block_lt_of_cell? w _ hjy)).trans hjy
        have hJs := HJS.out J0 (List.mem_of_getElem? hJ0)
        have hja : junkAt js k = plainL J0.data.toList := by simp only [junkAt, hJ0]
        have HPL := Lib.hid (plain_any J0 wr (by omega))
        clear hjy hJ0
        go_wp2_with fail
        refine HPL.out.mono ?_
        rintro e w3 ⟨rfl, hb3⟩
        have HB1 := Lib.hid (Below.next HBR.out hb3)
        have HO3 := Lib.hid (HO.out.keep (Keep.of_below hb3 (Nat.le_refl _) (fun _ => False)) (fun _ _ => id))
        have hcc3 := HCC.out w3 HB1.out
        rw [← hja]
        have hJ : ∃ J : ByteArray, J = ⟨(junkAt js k).toArray⟩ := ⟨_, rfl⟩
        obtain ⟨J, hJ⟩ := hJ
        rw [← hJ]
        have hjd : J.data.toList = junkAt js k := by rw [hJ]
        have hjs : J.size = (junkAt js k).length := by rw [← hjd]; simp
        rw [← hjs] at hMn
        clear hjs
        have HJD := Lib.hid hjd
        clear hb3 hja hJ hjd HPL
        by_cases hj0 : J.toList.isEmpty = true
        · have hbad : badL S.size (junkAt js k) = [] := by
            have : junkAt js k = [] := by rw [← HJD.out, ← Lib.toList_data]; exact List.isEmpty_iff.1 hj0
            unfold badL; rw [if_pos this]
          obtain ⟨L1, hL1⟩ : ∃ L1, L1 = L := ⟨_, rfl⟩
          have HL1 := Lib.hid (show L1 = L ++ badL S.size (junkAt js k) from by rw [hbad, hL1, List.append_nil])
          rw [← hL1] at hLn HO3 HGE
          rw [← hL1]
          have HO1 := HO3
          have HGE1 := HGE
          clear hbad hL1 HL
          by_cases hbig : 4096 < C.size
          · have HCA2 := Lib.hid (show contAt cs k = [] from by rw [HCA.out, if_pos hbig])
            have HPK := Lib.hid (pack_great C w3 hbig)
            go_wp2_with fail
            refine HPK.out.mono ?_
            rintro e w5 ⟨rfl, hb5⟩
            have HB5a := Lib.hid (Below.next HB1.out hb5)
            have hcc5 := HCC.out w5 HB5a.out
            have HO5a := Lib.hid (HO1.out.keep (Keep.of_below hb5 (Nat.le_refl _) (fun _ => False)) (fun _ _ => id))
            have hpe := pack_fits ⟨#[]⟩ w5 (Nat.zero_le _)
            generalize hF : (⟨(frameL (⟨#[]⟩ : ByteArray).data.toList).toArray⟩ : ByteArray) = F at *
            have hFs : F.size ≤ 4104 := by rw [← hF]; show (frameL ([] : List UInt8)).toArray.size ≤ 4104; rw [List.size_toArray, frameL_length]; simp
            have HF := Lib.hid (show F.data.toList = frameL [] from by rw [← hF])
            have HPE := Lib.hid hpe
            clear hb5 hF hpe HPK
            go_wp2_with fail
            refine HPE.out.mono ?_
            rintro e w6 ⟨rfl, hb6⟩
            have HB5 := Lib.hid (Below.next HB5a.out hb6)
            have HO5 := Lib.hid (HO5a.out.keep (Keep.of_below hb6 (Nat.le_refl _) (fun _ => False)) (fun _ _ => id))
            clear hb6 HPE
            go_wp2_with (at_builtin; refine wpList_append_slice rfl (.tmp 60) (.tmp 67) 26 26 rfl 33 i5 zeroFrame 4 40 Try.underlying26 hi hz0 hz1 hz2 rfl _ L1.length (fcells L1) rfl (HO5.out.keep (Keep.alloc (fun _ => False) _ _) (fun _ _ => id)) (.slice (some ⟨w6.heap.size, 0, none⟩) 1 1) 1 (fcell ⟨1, S.size + J.size, F.size, []⟩) rfl (Src.frame Try.underlying26 _ _ _ (rfl)) (by unfold maxLen; omega) (by omega) ?_)
            intro l8 c8 w8 ho8 hk8 hs8
            have hgr := grow HB5.out HGE1.out _ hk8 hs8
            have HREL := Lib.hid (HFIN.out J F (.slice l8 (L1.length + 1) c8) w8 HJD.out (by rw [HF.out, HCA2.out]) (by
              rw [← HL1.out, List.length_append, fcells_append, fcells_one, HCA2.out]
              exact ho8) hgr.2 hgr.1)
            clear ho8 hk8 hs8 hgr
            go_wp2_with fail
            go_roundw
            case rel => exact HREL.out
            case measure => simp [intOf]; omega

          · have HCA2 := Lib.hid (show contAt cs k = C.data.toList from by rw [HCA.out, if_neg hbig])
            have hpf := pack_fits C w3 (by omega)
            have hFs0 : (⟨(frameL C.data.toList).toArray⟩ : ByteArray).size ≤ 4104 := by
              show (frameL C.data.toList).toArray.size ≤ 4104
              rw [List.size_toArray, frameL_length]
              have : C.data.toList.length = C.size := by simp
              omega
            generalize hF : (⟨(frameL C.data.toList).toArray⟩ : ByteArray) = F at *
            have HF := Lib.hid (show F.data.toList = frameL C.data.toList from by rw [← hF])
            have HPK := Lib.hid hpf
            have hce : (fcell ⟨1, S.size + J.size, F.size, C.data.toList⟩) = [.int .u8 1, .int .i64 ((S.size + J.size : Nat) : Int), .int .i64 F.size, .string C] := by simp only [fcell, bytes_eta]; rfl
            have HCE := Lib.hid hce
            clear hF hpf hce
            go_wp2_with fail
            refine HPK.out.mono ?_
            rintro e w5 ⟨rfl, hb5⟩
            have HB5 := Lib.hid (Below.next HB1.out hb5)
            have hcc5 := HCC.out w5 HB5.out
            have HO5 := Lib.hid (HO1.out.keep (Keep.of_below hb5 (Nat.le_refl _) (fun _ => False)) (fun _ _ => id))
            clear hb5 HPK
            go_wp2_with (at_builtin; refine wpList_append_slice rfl (.tmp 69) (.tmp 80) 26 26 rfl 33 i5 zeroFrame 4 40 Try.underlying26 hi hz0 hz1 hz2 rfl _ L1.length (fcells L1) rfl (HO5.out.keep (Keep.alloc (fun _ => False) _ _) (fun _ _ => id)) (.slice (some ⟨w5.heap.size, 0, none⟩) 1 1) 1 (fcell ⟨1, S.size + J.size, F.size, C.data.toList⟩) rfl (Src.frame Try.underlying26 _ _ _ (by first | (rw [HCE.out]; done) | (rw [HCE.out]; rfl))) (by unfold maxLen; omega) (by omega) ?_)
            intro l8 c8 w8 ho8 hk8 hs8
            have hgr := grow HB5.out HGE1.out _ hk8 hs8
            have HREL := Lib.hid (HFIN.out J F (.slice l8 (L1.length + 1) c8) w8 HJD.out (by rw [HF.out, HCA2.out]) (by
              rw [← HL1.out, List.length_append, fcells_append, fcells_one, HCA2.out]
              exact ho8) hgr.2 hgr.1)
            clear ho8 hk8 hs8 hgr
            go_wp2_with fail
            go_roundw
            case rel => exact HREL.out
            case measure => simp [intOf]; omega

        · have hbad : badL S.size (junkAt js k) = [⟨2, S.size, J.size, []⟩] := by
            have hne : ¬ junkAt js k = [] := fun e => hj0 (by rw [Lib.toList_data, HJD.out, e]; rfl)
            have : J.size = (junkAt js k).length := by rw [← HJD.out]; simp
            unfold badL; rw [if_neg hne, this]
          have HBAD := Lib.hid hbad
          have hj1 : J.toList.isEmpty = false := by simpa using hj0
          clear hbad hj0
          go_wp2_with (at_builtin; refine wpList_append_slice rfl (.tmp 28) (.tmp 35) 26 26 rfl 33 i5 zeroFrame 4 40 Try.underlying26 hi hz0 hz1 hz2 rfl _ L.length (fcells L) rfl (HO3.out.keep (Keep.alloc (fun _ => False) _ _) (fun _ _ => id)) (.slice (some ⟨w3.heap.size, 0, none⟩) 1 1) 1 (fcell ⟨2, S.size, J.size, []⟩) rfl (Src.frame Try.underlying26 _ _ _ rfl) (by unfold maxLen; omega) (by omega) ?_)
          intro la4 lc4 w4 ho4 hk4 hs4
          have hgr := grow HB1.out HGE.out _ hk4 hs4
          obtain ⟨L1, hL1⟩ : ∃ L1, L1 = L ++ [(⟨2, S.size, J.size, []⟩ : Fr)] := ⟨_, rfl⟩
          have hlen : L.length + 1 = L1.length := by rw [hL1]; simp
          have hcl : fcells L ++ fcell ⟨2, S.size, J.size, []⟩ = fcells L1 := by rw [hL1, fcells_append, fcells_one]
          have HL1 := Lib.hid (show L1 = L ++ badL S.size (junkAt js k) from by rw [HBAD.out, hL1])
          have hgr2 := hgr.2
          rw [hlen] at ho4 hgr2
          rw [hcl] at ho4
          rw [hlen]
          have hL1n : L1.length ≤ 2 * k + 1 := by omega
          have HO1 := Lib.hid ho4
          have HGE1 := Lib.hid hgr2
          have HB1' := Lib.hid hgr.1
          have hcc4 := HCC.out w4 hgr.1
          clear HB1
          have HB1 := HB1'
          clear HB1' hgr hgr2 ho4 hk4 hs4 hlen hcl hL1 HL HO3 HGE HO
          by_cases hbig : 4096 < C.size
          · have HCA2 := Lib.hid (show contAt cs k = [] from by rw [HCA.out, if_pos hbig])
            have HPK := Lib.hid (pack_great C w4 hbig)
            go_wp2_with fail
            refine HPK.out.mono ?_
            rintro e w5 ⟨rfl, hb5⟩
            have HB5a := Lib.hid (Below.next HB1.out hb5)
            have hcc5 := HCC.out w5 HB5a.out
            have HO5a := Lib.hid (HO1.out.keep (Keep.of_below hb5 (Nat.le_refl _) (fun _ => False)) (fun _ _ => id))
            have hpe := pack_fits ⟨#[]⟩ w5 (Nat.zero_le _)
            generalize hF : (⟨(frameL (⟨#[]⟩ : ByteArray).data.toList).toArray⟩ : ByteArray) = F at *
            have hFs : F.size ≤ 4104 := by rw [← hF]; show (frameL ([] : List UInt8)).toArray.size ≤ 4104; rw [List.size_toArray, frameL_length]; simp
            have HF := Lib.hid (show F.data.toList = frameL [] from by rw [← hF])
            have HPE := Lib.hid hpe
            clear hb5 hF hpe HPK
            go_wp2_with fail
            refine HPE.out.mono ?_
            rintro e w6 ⟨rfl, hb6⟩
            have HB5 := Lib.hid (Below.next HB5a.out hb6)
            have HO5 := Lib.hid (HO5a.out.keep (Keep.of_below hb6 (Nat.le_refl _) (fun _ => False)) (fun _ _ => id))
            clear hb6 HPE
            go_wp2_with (at_builtin; refine wpList_append_slice rfl (.tmp 60) (.tmp 67) 26 26 rfl 33 i5 zeroFrame 4 40 Try.underlying26 hi hz0 hz1 hz2 rfl _ L1.length (fcells L1) rfl (HO5.out.keep (Keep.alloc (fun _ => False) _ _) (fun _ _ => id)) (.slice (some ⟨w6.heap.size, 0, none⟩) 1 1) 1 (fcell ⟨1, S.size + J.size, F.size, []⟩) rfl (Src.frame Try.underlying26 _ _ _ (rfl)) (by unfold maxLen; omega) (by omega) ?_)
            intro l8 c8 w8 ho8 hk8 hs8
            have hgr := grow HB5.out HGE1.out _ hk8 hs8
            have HREL := Lib.hid (HFIN.out J F (.slice l8 (L1.length + 1) c8) w8 HJD.out (by rw [HF.out, HCA2.out]) (by
              rw [← HL1.out, List.length_append, fcells_append, fcells_one, HCA2.out]
              exact ho8) hgr.2 hgr.1)
            clear ho8 hk8 hs8 hgr
            go_wp2_with fail
            go_roundw
            case rel => exact HREL.out
            case measure => simp [intOf]; omega

          · have HCA2 := Lib.hid (show contAt cs k = C.data.toList from by rw [HCA.out, if_neg hbig])
            have hpf := pack_fits C w4 (by omega)
            have hFs0 : (⟨(frameL C.data.toList).toArray⟩ : ByteArray).size ≤ 4104 := by
              show (frameL C.data.toList).toArray.size ≤ 4104
              rw [List.size_toArray, frameL_length]
              have : C.data.toList.length = C.size := by simp
              omega
            generalize hF : (⟨(frameL C.data.toList).toArray⟩ : ByteArray) = F at *
            have HF := Lib.hid (show F.data.toList = frameL C.data.toList from by rw [← hF])
            have HPK := Lib.hid hpf
            have hce : (fcell ⟨1, S.size + J.size, F.size, C.data.toList⟩) = [.int .u8 1, .int .i64 ((S.size + J.size : Nat) : Int), .int .i64 F.size, .string C] := by simp only [fcell, bytes_eta]; rfl
            have HCE := Lib.hid hce
            clear hF hpf hce
            go_wp2_with fail
            refine HPK.out.mono ?_
            rintro e w5 ⟨rfl, hb5⟩
            have HB5 := Lib.hid (Below.next HB1.out hb5)
            have hcc5 := HCC.out w5 HB5.out
            have HO5 := Lib.hid (HO1.out.keep (Keep.of_below hb5 (Nat.le_refl _) (fun _ => False)) (fun _ _ => id))
            clear hb5 HPK
            go_wp2_with (at_builtin; refine wpList_append_slice rfl (.tmp 69) (.tmp 80) 26 26 rfl 33 i5 zeroFrame 4 40 Try.underlying26 hi hz0 hz1 hz2 rfl _ L1.length (fcells L1) rfl (HO5.out.keep (Keep.alloc (fun _ => False) _ _) (fun _ _ => id)) (.slice (some ⟨w5.heap.size, 0, none⟩) 1 1) 1 (fcell ⟨1, S.size + J.size, F.size, C.data.toList⟩) rfl (Src.frame Try.underlying26 _ _ _ (by first | (rw [HCE.out]; done) | (rw [HCE.out]; rfl))) (by unfold maxLen; omega) (by omega) ?_)
            intro l8 c8 w8 ho8 hk8 hs8
            have hgr := grow HB5.out HGE1.out _ hk8 hs8
            have HREL := Lib.hid (HFIN.out J F (.slice l8 (L1.length + 1) c8) w8 HJD.out (by rw [HF.out, HCA2.out]) (by
              rw [← HL1.out, List.length_append, fcells_append, fcells_one, HCA2.out]
              exact ho8) hgr.2 hgr.1)
            clear ho8 hk8 hs8 hgr
            go_wp2_with fail
            go_roundw
            case rel => exact HREL.out
            case measure => simp [intOf]; omega

      · have hja : junkAt js k = [] := by
          simp only [junkAt]
          rw [List.getElem?_eq_none (by omega)]
        have hbad : badL S.size (junkAt js k) = [] := by unfold badL; rw [if_pos hja]
        obtain ⟨L1, hL1⟩ : ∃ L1, L1 = L := ⟨_, rfl⟩
        have HL1 := Lib.hid (show L1 = L ++ badL S.size (junkAt js k) from by rw [hbad, hL1, List.append_nil])
        have hse : S ++ (⟨#[]⟩ : ByteArray) = S := by
          apply ByteArray.ext
          rw [ByteArray.data_append]
          simp
        have HFIN0 := Lib.hid (fun (F : ByteArray) l2 w2 => HFIN.out ⟨#[]⟩ F l2 w2 (by rw [hja]))
        rw [hse] at HFIN0
        rw [hja, List.length_nil] at hMn
        rw [← hL1] at hLn HO HGE
        rw [← hL1]
        have HO1 := HO
        have HGE1 := HGE
        have HB1 := HBR
        have HSE := Lib.hid hse
        clear hbad hL1 HL hja
        by_cases hbig : 4096 < C.size
        · have HCA2 := Lib.hid (show contAt cs k = [] from by rw [HCA.out, if_pos hbig])
          have HPK := Lib.hid (pack_great C wr hbig)
          go_wp2_with fail
          refine HPK.out.mono ?_
          rintro e w5 ⟨rfl, hb5⟩
          have HB5a := Lib.hid (Below.next HB1.out hb5)
          have hcc5 := HCC.out w5 HB5a.out
          have HO5a := Lib.hid (HO1.out.keep (Keep.of_below hb5 (Nat.le_refl _) (fun _ => False)) (fun _ _ => id))
          have hpe := pack_fits ⟨#[]⟩ w5 (Nat.zero_le _)
          generalize hF : (⟨(frameL (⟨#[]⟩ : ByteArray).data.toList).toArray⟩ : ByteArray) = F at *
          have hFs : F.size ≤ 4104 := by rw [← hF]; show (frameL ([] : List UInt8)).toArray.size ≤ 4104; rw [List.size_toArray, frameL_length]; simp
          have HF := Lib.hid (show F.data.toList = frameL [] from by rw [← hF])
          have HPE := Lib.hid hpe
          clear hb5 hF hpe HPK
          go_wp2_with fail
          refine HPE.out.mono ?_
          rintro e w6 ⟨rfl, hb6⟩
          have HB5 := Lib.hid (Below.next HB5a.out hb6)
          have HO5 := Lib.hid (HO5a.out.keep (Keep.of_below hb6 (Nat.le_refl _) (fun _ => False)) (fun _ _ => id))
          clear hb6 HPE
          go_wp2_with (at_builtin; refine wpList_append_slice rfl (.tmp 60) (.tmp 67) 26 26 rfl 33 i5 zeroFrame 4 40 Try.underlying26 hi hz0 hz1 hz2 rfl _ L1.length (fcells L1) rfl (HO5.out.keep (Keep.alloc (fun _ => False) _ _) (fun _ _ => id)) (.slice (some ⟨w6.heap.size, 0, none⟩) 1 1) 1 (fcell ⟨1, S.size, F.size, []⟩) rfl (Src.frame Try.underlying26 _ _ _ (rfl)) (by unfold maxLen; omega) (by omega) ?_)
          intro l8 c8 w8 ho8 hk8 hs8
          have hgr := grow HB5.out HGE1.out _ hk8 hs8
          have HREL := Lib.hid (HFIN0.out F (.slice l8 (L1.length + 1) c8) w8 (by rw [HF.out, HCA2.out]) (by
            rw [← HL1.out, List.length_append, fcells_append, fcells_one, HCA2.out]
            exact ho8) hgr.2 hgr.1)
          clear ho8 hk8 hs8 hgr
          go_wp2_with fail
          go_roundw
          case rel => exact HREL.out
          case measure => simp [intOf]; omega

        · have HCA2 := Lib.hid (show contAt cs k = C.data.toList from by rw [HCA.out, if_neg hbig])
          have hpf := pack_fits C wr (by omega)
          have hFs0 : (⟨(frameL C.data.toList).toArray⟩ : ByteArray).size ≤ 4104 := by
            show (frameL C.data.toList).toArray.size ≤ 4104
            rw [List.size_toArray, frameL_length]
            have : C.data.toList.length = C.size := by simp
            omega
          generalize hF : (⟨(frameL C.data.toList).toArray⟩ : ByteArray) = F at *
          have HF := Lib.hid (show F.data.toList = frameL C.data.toList from by rw [← hF])
          have HPK := Lib.hid hpf
          have hce : (fcell ⟨1, S.size, F.size, C.data.toList⟩) = [.int .u8 1, .int .i64 ((S.size : Nat) : Int), .int .i64 F.size, .string C] := by simp only [fcell, bytes_eta]; rfl
          have HCE := Lib.hid hce
          clear hF hpf hce
          go_wp2_with fail
          refine HPK.out.mono ?_
          rintro e w5 ⟨rfl, hb5⟩
          have HB5 := Lib.hid (Below.next HB1.out hb5)
          have hcc5 := HCC.out w5 HB5.out
          have HO5 := Lib.hid (HO1.out.keep (Keep.of_below hb5 (Nat.le_refl _) (fun _ => False)) (fun _ _ => id))
          clear hb5 HPK
          go_wp2_with (at_builtin; refine wpList_append_slice rfl (.tmp 69) (.tmp 80) 26 26 rfl 33 i5 zeroFrame 4 40 Try.underlying26 hi hz0 hz1 hz2 rfl _ L1.length (fcells L1) rfl (HO5.out.keep (Keep.alloc (fun _ => False) _ _) (fun _ _ => id)) (.slice (some ⟨w5.heap.size, 0, none⟩) 1 1) 1 (fcell ⟨1, S.size, F.size, C.data.toList⟩) rfl (Src.frame Try.underlying26 _ _ _ (by first | (rw [HCE.out]; done) | (rw [HCE.out]; rfl))) (by unfold maxLen; omega) (by omega) ?_)
          intro l8 c8 w8 ho8 hk8 hs8
          have hgr := grow HB5.out HGE1.out _ hk8 hs8
          have HREL := Lib.hid (HFIN0.out F (.slice l8 (L1.length + 1) c8) w8 (by rw [HF.out, HCA2.out]) (by
            rw [← HL1.out, List.length_append, fcells_append, fcells_one, HCA2.out]
            exact ho8) hgr.2 hgr.1)
          clear ho8 hk8 hs8 hgr
          go_wp2_with fail
          go_roundw
          case rel => exact HREL.out
          case measure => simp [intOf]; omega
    · have hkn : k = nc := by omega
      have hsp := split_items (itemsN cs js k) (itemsN_ok cs js k) (by rw [← HSZ.out]; omega)
      have hcv := run_bytes_of_string (P := Try.prog) wr 9 28 5 S Try.underlying9 Try.underlying28 Try.underlying5
      have hge2 := grownCap_ge wr S.size 0 5
      have hrd := rd_conv wr S (grownCap wr S.size 0 5) 5 ((bytesRow S (grownCap wr S.size 0 5)).size, (bytesRow S (grownCap wr S.size 0 5)).size + 1)
      have hbw := (Below.refl wr.heap.size wr).drew.alloc (by simp) (.cells (bytesRow S (grownCap wr S.size 0 5)) 5 ((bytesRow S (grownCap wr S.size 0 5)).size, (bytesRow S (grownCap wr S.size 0 5)).size + 1))
      generalize wr.drew.alloc (.cells (bytesRow S (grownCap wr S.size 0 5)) 5 ((bytesRow S (grownCap wr S.size 0 5)).size, (bytesRow S (grownCap wr S.size 0 5)).size + 1)) = W at *
      generalize grownCap wr S.size 0 5 = cap at *
      rw [HS.out] at hrd
      have HSPL := Lib.hid (split_any W (some ⟨wr.heap.size, 0, none⟩) S.size cap (streamF (itemsN cs js k)) HSZ.out.symm hrd (by omega))
      rw [hsp, HL.out] at HSPL
      have HOW := Lib.hid (HO.out.keep (Keep.of_below hbw (Nat.le_refl _) (fun _ => False)) (fun _ _ => id))
      have HBW := Lib.hid (Below.next HBR.out hbw)
      clear hsp hge2 hrd hbw
      go_wp2_with fail
      refine HSPL.out.mono ?_
      rintro e w3 ⟨v3, rfl, ho3, hb3, hv3⟩
      obtain ⟨a3, c3, rfl, _⟩ := own_shape ho3
      have HS3 := Lib.hid (same_any w3 _ _ L ho3 (HOW.out.keep (Keep.of_below hb3 (Nat.le_refl _) (fun _ => False)) (fun _ _ => id)))
      have HB3 := Lib.hid (Below.next HBW.out hb3)
      clear ho3 hb3 hv3
      go_wp2_with fail
      refine HS3.out.mono ?_
      rintro e w4 ⟨rfl, hb4⟩
      have HB4 := Lib.hid (Below.next HB3.out hb4)
      clear hb4
      go_wp2_with fail
      refine (alive_any _).mono ?_
      rintro e w5 ⟨rfl, hb5⟩
      have HB5 := Lib.hid (Below.next HB4.out hb5)
      clear hb5
      go_wp2_with fail
      go_ret
      exact ⟨rfl, HB5.out⟩
end Go.Proofs.Ytmblghdiejneoaa
