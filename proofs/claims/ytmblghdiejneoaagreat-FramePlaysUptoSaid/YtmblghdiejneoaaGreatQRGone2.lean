/- The reference's Gone and Split. -/
import Derived.Test.YtmblghdiejneoaaGreatQRGone
import Derived.Test.YtmblghdiejneoaaGreatQRowSet
namespace Go.Proofs.YtmblghdiejneoaaGreat
set_option maxRecDepth 100000
open Go.RowKit

def GonePost (w : World) (n : Nat) (R : List Fr × List UInt8) (e : Ending) (w' : World) : Prop :=
  ∃ v, e = .returned (.tuple #[v, .int .i64 ((n - R.2.length : Nat) : Int)]) ∧ Own w' 4 v R.1.length (fcells R.1) ∧ (∀ g, v.ownBlock = some g → w.heap.size ≤ g) ∧ Below w.heap.size w w'

def GoneRel (w : World) (s : ByteArray) (last : Bool) (R : List Fr × List UInt8) (l a : Value) (wr : World) : Prop :=
  ∃ (f p : Nat) (out : List Fr), a = .int .i64 p ∧ p ≤ s.size ∧ s.size - p < f ∧ Own wr 4 l out.length (fcells out) ∧ (∀ g, l.ownBlock = some g → w.heap.size ≤ g) ∧ out.length ≤ p ∧ (∀ y ∈ out, y.size ≤ p) ∧ Below w.heap.size w wr ∧ gone last f p (s.data.toList.drop p) out = R

theorem standsF_good {l : List UInt8} (h : (standsF l).1 = 2) : 8 ≤ (standsF l).2 ∧ (standsF l).2 ≤ l.length := by
  by_cases h0 : l = []
  · subst h0; simp [standsF] at h
  · rw [standsF_whole h0] at h ⊢
    by_cases hz : (wholeF l).1 = 0
    · rw [if_neg (by simpa using hz)] at h
      split at h <;> simp at h
    · rw [if_pos hz]
      obtain ⟨h1, h2, _⟩ := wholeF_good hz
      simp only
      omega

/-- The list grows. -/
theorem grow {w w1 w2 : World} {l l2 : Value} (hb : Below w.heap.size w w1) (hl : ∀ g, l.ownBlock = some g → w.heap.size ≤ g) (o : Obj) (hk : Keep (fun k => l.ownBlock = some k) (w1.alloc o) w2) (hs : l2.ownBlock = l.ownBlock ∨ ∃ g, l2.ownBlock = some g ∧ w1.heap.size + 1 ≤ g) :
    Below w.heap.size w w2 ∧ ∀ g, l2.ownBlock = some g → w.heap.size ≤ g := by
  have h1 := hb.size
  refine ⟨hb.trans (((Keep.alloc (fun k => l.ownBlock = some k) w1 o).trans hk (fun _ _ h => h) (fun _ _ h => h)).below h1 (fun i hi h => by have := hl i h; omega)), fun g hg => ?_⟩
  rcases hs with h | ⟨g', h, hle⟩
  · exact hl g (by rw [← h]; exact hg)
  · rw [h] at hg
    cases hg
    omega

theorem bytes_eta (C : ByteArray) : (⟨C.data.toList.toArray⟩ : ByteArray) = C := by cases C; simp

theorem bump_set {out : List Fr} {x : Fr} (hx : out[out.length - 1]? = some x) (hk : x.kind = 2) (p : Nat) : fcells (bump out p) = (fcells out).set ((out.length - 1) * 4 + 2) (.int .i64 ((x.size + 1 : Nat) : Int)) ∧ (bump out p).length = out.length := by
  obtain ⟨l, y, rfl⟩ : ∃ l y, out = l ++ [y] := by
    rcases List.eq_nil_or_concat out with h | ⟨l, y, h⟩
    · subst h; simp at hx
    · exact ⟨l, y, by simpa using h⟩
  have hxy : y = x := by
    rw [List.length_append, List.length_singleton, Nat.add_sub_cancel, List.getElem?_append_right (Nat.le_refl _), Nat.sub_self] at hx
    simpa using hx
  subst hxy
  have hb : bump (l ++ [y]) p = l ++ [⟨y.kind, y.pos, y.size + 1, y.content⟩] := by
    unfold bump
    rw [List.getLast?_concat]
    simp [hk]
  rw [hb]
  refine ⟨?_, by simp⟩
  rw [fcells_append, fcells_append, fcells_one, fcells_one, List.length_append, List.length_singleton, Nat.add_sub_cancel, List.set_append_right _ _ (by rw [fcells_length]; omega), fcells_length, show l.length * 4 + 2 - l.length * 4 = 2 by omega]
  rfl
theorem bump_new {out : List Fr} (h : ∀ x, out[out.length - 1]? = some x → ¬ x.kind = 2) (p : Nat) : bump out p = out ++ [⟨2, p, 1, []⟩] := by
  unfold bump
  split
  · rename_i x hx
    rw [if_neg (h x (by rw [List.getLast?_eq_getElem?] at hx; exact hx))]
  · rfl

set_option maxHeartbeats 8000000 in
theorem gone_any (s : ByteArray) (last : Bool) (w : World) (hs : s.size ≤ 10000000000) :
    Calls Tryz.prog 25 #[.string s, .bool last] w (GonePost w s.size (gone last (s.size + 1) 0 s.data.toList [])) := by
  obtain ⟨i5, hi, hz0, hz1, hz2⟩ := info_parts info_frame
  have hst := Lib.hid (show GoneRel w s last (gone last (s.size + 1) 0 s.data.toList []) (.slice none 0 0) (.int .i64 0) w from ⟨s.size + 1, 0, [], rfl, Nat.zero_le _, by omega, Own.nil _ _, fun g hg => (nomatch hg), Nat.le_refl _, (fun y hy => nomatch hy), Below.refl _ _, rfl⟩)
  have hsl : s.data.toList.length = s.size := by simp
  have HSL := Lib.hid hsl
  generalize gone last (s.size + 1) 0 s.data.toList [] = R at *
  clear hsl
  go_enter Tryz.func25, Tryz.ntmps25
  go_wp2_with fail
  go_loopw [6, 7] (fun l a wr => Hid (GoneRel w s last R l a wr)) (fun _ a _ => s.size - (intOf a).toNat)
  case atStart => exact hst
  case round =>
    obtain ⟨f, p, out, rfl, hp, hf, hown, hge, hol, hys, hbr, hgo⟩ := hrel.out
    have HYS := Lib.hid hys
    obtain ⟨la, lc, hl', hlg⟩ := own_shape hown
    subst hl'
    have HO := Lib.hid hown
    have HGE := Lib.hid hge
    have HBR := Lib.hid hbr
    have HST := Lib.hid (stands_any s p wr hp (by omega))
    have hdl : (s.data.toList.drop p).length = s.size - p := by rw [List.length_drop, HSL.out]
    obtain ⟨f, rfl⟩ : ∃ k, f = k + 1 := ⟨f - 1, by omega⟩
    have hgood := standsF_good (l := s.data.toList.drop p)
    rw [hdl] at hgood
    have hnil : s.data.toList.drop p = [] ↔ p = s.size := by
      constructor
      · intro h; rw [h] at hdl; simp at hdl; omega
      · intro h; exact List.eq_nil_of_length_eq_zero (by omega)
    rw [gone] at hgo
    have HPLT0 := Lib.hid (show ¬ (standsF (s.data.toList.drop p)).1 = 3 → p < s.size from fun h => by
      by_cases hp' : p = s.size
      · rw [hnil.2 hp'] at h; exact absurd rfl h
      · omega)
    generalize hq : standsF (s.data.toList.drop p) = q at *
    obtain ⟨q1, q2⟩ := q
    simp only at hgo hgood HST HPLT0
    have HPLT := HPLT0
    clear HPLT0
    have HGO := Lib.hid hgo
    have HNIL := Lib.hid hnil
    have HDL := Lib.hid hdl
    have HLG := Lib.hid hlg
    clear hown hge hbr hgo hrel hnil hdl hlg hq hys
    go_wp2_with fail
    refine HST.out.mono ?_
    rintro e w1 ⟨rfl, hb1⟩
    have HB1 := Lib.hid (Below.next HBR.out hb1)
    have HO1 := Lib.hid (HO.out.keep (Keep.of_below hb1 (Nat.le_refl _) (fun _ => False)) (fun _ _ => id))
    clear hb1 HST
    by_cases h3 : q1 = 3
    · subst h3
      by_cases hstop : last = false ∨ p = s.size
      · have hres := HGO.out
        rw [if_pos ⟨rfl, hstop.imp id (fun h => HNIL.out.2 h)⟩] at hres
        have HRES := Lib.hid hres
        have hpost : Hid (GonePost w s.size R (.returned (.tuple #[.slice la out.length lc, .int .i64 p])) w1) := Lib.hid ⟨.slice la out.length lc, by rw [← HRES.out]; simp only; rw [HDL.out, show s.size - (s.size - p) = p by omega], by rw [← HRES.out]; exact HO1.out, HGE.out, HB1.out⟩
        clear hres
        cases last with
        | false =>
          go_wp2_with fail
          refine bodyPost_ret (v := .tuple #[.slice la out.length lc, .int .i64 p]) (by simp [results, Tryz.results25, go_sem]) rfl hpost.out
        | true =>
          have hps : p = s.size := by rcases hstop with h | h; cases h; exact h
          have hpe : ((p : Int) == (s.size : Int)) = true := by rw [hps]; simp
          clear hps hstop
          go_wp2_with fail
          refine bodyPost_ret (v := .tuple #[.slice la out.length lc, .int .i64 p]) (by simp [results, Tryz.results25, go_sem]) rfl hpost.out
      · have hres := HGO.out
        rw [if_neg (fun h => hstop (h.2.imp id (fun h => HNIL.out.1 h))), if_neg (by simp)] at hres
        have HRES := Lib.hid hres
        cases last with
        | false => exact absurd (.inl rfl) hstop
        | true =>
          have hpn : ¬ p = s.size := fun h => hstop (.inr h)
          have hpe : ((p : Int) == (s.size : Int)) = false := by simp; omega
          clear hres HGO hstop hgood
          have hplt : p < s.size := by omega
          by_cases hout : 0 < out.length
          · obtain ⟨g, rfl⟩ := HLG.out hout
            obtain ⟨x, hx⟩ : ∃ x, out[out.length - 1]? = some x := ⟨out[out.length - 1]'(by omega), List.getElem?_eq_getElem _⟩
            obtain ⟨a0, a1, a2, a3⟩ := HO1.out.frame (out.length - 1) x hx
            have hgr0 : 1 ≤ (out.length : Int) := by omega
            have HX := Lib.hid hx
            by_cases hkx : x.kind = 2
            · have hk2 : ((x.kind : Int) == 2) = true := by rw [hkx]; rfl
              have hset := bump_set hx hkx p
              have HSET := Lib.hid hset
              obtain ⟨ccap, hcm, hrow⟩ : ∃ h : out.length ≤ lc, True ∧ Row w1 g lc 4 (fcells out) := by
                rcases HO1.out.2 with ⟨h, _⟩ | ⟨g', c', h, h1, h2, hr⟩
                · cases h
                · cases h; exact ⟨h1, trivial, hr⟩
              have hff := hrow.free ((out.length - 1) * 4 + 2) (by omega)
              have HS := Lib.hid (hrow.set ((out.length - 1) * 4 + 2) (.int .i64 ((x.size + 1 : Nat) : Int)) (by omega))
              have hlcm : lc ≤ maxLen := by
                rcases HO1.out.2 with ⟨h, _⟩ | ⟨g', c', h, h1, h2, hr⟩
                · cases h
                · cases h; exact h2
              have hgw : w.heap.size ≤ g := HGE.out g rfl
              have hxsz := HYS.out x (List.mem_of_getElem? hx)
              have hysz : ∀ y ∈ bump out p, y.size ≤ p + 1 := by
                have hne : out ≠ [] := fun h => by rw [h] at hx; simp at hx
                have hlast : out.getLast? = some x := by rw [List.getLast?_eq_getElem?]; exact hx
                intro y hy
                unfold bump at hy
                rw [hlast] at hy
                simp only [hkx, if_true] at hy
                rcases List.mem_append.1 hy with h | h
                · have := HYS.out y (List.dropLast_subset _ h); omega
                · simp at h; subst h; simp only; omega
              have HREL := Lib.hid (show GoneRel w s true R (.slice (some ⟨g, 0, none⟩) out.length lc) (.int .i64 ((p + 1 : Nat) : Int)) (w1.setCell ⟨g, (out.length - 1) * 4 + 2, none⟩ (.int .i64 ((x.size + 1 : Nat) : Int))) from ⟨f, p + 1, bump out p, rfl, by omega, by omega, by
                rw [HSET.out.2, HSET.out.1]
                exact ⟨by rw [List.length_set, fcells_length], .inr ⟨g, lc, rfl, ccap, hlcm, HS.out⟩⟩, HGE.out, by rw [HSET.out.2]; omega, hysz, HB1.out.setCell hgw _, by rw [← HRES.out, List.drop_drop]⟩)
              clear hx hkx hset hcm hrow hlcm hysz
              go_wp2_with fail
              go_roundw
              case rel => exact HREL
              case measure => simp [intOf]; omega
            · have hk2 : ((x.kind : Int) == 2) = false := by simp; omega
              have HNEW := Lib.hid (bump_new (fun y hy => by rw [HX.out] at hy; cases hy; exact hkx) p)
              clear hx hkx
              go_wp2_with (at_builtin; refine wpList_append_slice rfl (.tmp 74) (.tmp 78) 24 24 rfl 82 i5 zeroFrame 4 40 Tryz.underlying24 hi hz0 hz1 hz2 rfl _ out.length (fcells out) rfl (HO1.out.keep (Keep.alloc (fun _ => False) _ _) (fun _ _ => id)) (.slice (some ⟨w1.heap.size, 0, none⟩) 1 1) 1 (fcell ⟨2, p, 1, []⟩) rfl (Src.frame Tryz.underlying24 _ _ _ rfl) (by unfold maxLen; omega) (by omega) ?_)
              intro l8 c8 w8 ho8 hk8 hs8
              have hgr := grow HB1.out HGE.out _ hk8 hs8
              have HREL := Lib.hid (show GoneRel w s true R (.slice l8 (out.length + 1) c8) (.int .i64 ((p + 1 : Nat) : Int)) w8 from ⟨f, p + 1, bump out p, rfl, by omega, by omega, by
                rw [HNEW.out, List.length_append, fcells_append, fcells_one]; exact ho8, hgr.2, by rw [HNEW.out, List.length_append, List.length_singleton]; omega, fun y hy => by
                rw [HNEW.out] at hy
                rcases List.mem_append.1 hy with h | h
                · have := HYS.out y h; omega
                · simp at h; subst h; simp only; omega, hgr.1, by rw [← HRES.out, List.drop_drop]⟩)
              clear ho8 hk8 hs8 hgr
              go_wp2_with fail
              go_roundw
              case rel => exact HREL
              case measure => simp [intOf]; omega
          · have hnil : out = [] := List.eq_nil_of_length_eq_zero (by omega)
            have HNEW := Lib.hid (bump_new (out := out) (fun y hy => by rw [hnil] at hy; simp at hy) p)
            have hlz : (out.length : Int) - 1 < 0 := by omega
            clear hnil
            go_wp2_with (at_builtin; refine wpList_append_slice rfl (.tmp 74) (.tmp 78) 24 24 rfl 82 i5 zeroFrame 4 40 Tryz.underlying24 hi hz0 hz1 hz2 rfl _ out.length (fcells out) rfl (HO1.out.keep (Keep.alloc (fun _ => False) _ _) (fun _ _ => id)) (.slice (some ⟨w1.heap.size, 0, none⟩) 1 1) 1 (fcell ⟨2, p, 1, []⟩) rfl (Src.frame Tryz.underlying24 _ _ _ rfl) (by unfold maxLen; omega) (by omega) ?_)
            intro l8 c8 w8 ho8 hk8 hs8
            have hgr := grow HB1.out HGE.out _ hk8 hs8
            have HREL := Lib.hid (show GoneRel w s true R (.slice l8 (out.length + 1) c8) (.int .i64 ((p + 1 : Nat) : Int)) w8 from ⟨f, p + 1, bump out p, rfl, by omega, by omega, by
              rw [HNEW.out, List.length_append, fcells_append, fcells_one]; exact ho8, hgr.2, by rw [HNEW.out, List.length_append, List.length_singleton]; omega, fun y hy => by
                rw [HNEW.out] at hy
                rcases List.mem_append.1 hy with h | h
                · have := HYS.out y h; omega
                · simp at h; subst h; simp only; omega, hgr.1, by rw [← HRES.out, List.drop_drop]⟩)
            clear ho8 hk8 hs8 hgr
            go_wp2_with fail
            go_roundw
            case rel => exact HREL
            case measure => simp [intOf]; omega
    · by_cases h2 : q1 = 2
      · subst h2
        obtain ⟨hg1, hg2⟩ := hgood rfl
        have hres := HGO.out
        rw [if_neg (by simp), if_pos rfl] at hres
        have HRES := Lib.hid hres
        have hcon : (s.extract (p + 4) (p + q2 - 4)).data.toList = ((s.data.toList.drop p).drop 4).take (q2 - 8) := by
          rw [Lib.extract_data, List.drop_drop]; congr 1; omega
        have hce : fcell ⟨1, p, q2, ((s.data.toList.drop p).drop 4).take (q2 - 8)⟩ = [.int .u8 1, .int .i64 (p : Int), .int .i64 (q2 : Int), .string (s.extract (p + 4) (p + q2 - 4))] := by
          simp only [fcell, ← hcon, bytes_eta]
          rfl
        have HCE := Lib.hid hce
        clear hres hcon hce h3 HGO
        generalize ((s.data.toList.drop p).drop 4).take (q2 - 8) = CT at *
        go_wp2_with (at_builtin; refine wpList_append_slice rfl (.tmp 33) (.tmp 46) 24 24 rfl 82 i5 zeroFrame 4 40 Tryz.underlying24 hi hz0 hz1 hz2 rfl _ out.length (fcells out) rfl (HO1.out.keep (Keep.alloc (fun _ => False) _ _) (fun _ _ => id)) (.slice (some ⟨w1.heap.size, 0, none⟩) 1 1) 1 (fcell ⟨1, p, q2, CT⟩) rfl (Src.frame Tryz.underlying24 _ _ _ (by first | (rw [HCE.out]; done) | (rw [HCE.out]; rfl))) (by unfold maxLen; omega) (by omega) ?_)
        intro l8 c8 w8 ho8 hk8 hs8
        have hgr := grow HB1.out HGE.out _ hk8 hs8
        have HREL := Lib.hid (show GoneRel w s last R (.slice l8 (out.length + 1) c8) (.int .i64 ((p + q2 : Nat) : Int)) w8 from ⟨f, p + q2, out ++ [⟨1, p, q2, CT⟩], rfl, by omega, by omega, by
          rw [List.length_append, fcells_append, fcells_one]; exact ho8, hgr.2, by rw [List.length_append, List.length_singleton]; omega, fun y hy => by
            rcases List.mem_append.1 hy with h | h
            · have := HYS.out y h; omega
            · simp at h; subst h; simp only; omega, hgr.1, by rw [← HRES.out, List.drop_drop]⟩)
        clear ho8 hk8 hs8 hgr
        go_wp2_with fail
        go_roundw
        case rel => exact HREL
        case measure => simp [intOf]; omega
      · have hres := HGO.out
        rw [if_neg (fun h => h3 h.1), if_neg h2] at hres
        have HRES := Lib.hid hres
        have hq3 : ((q1 : Int) == 3) = false := by simp; omega
        have hq2 : ((q1 : Int) == 2) = false := by simp; omega
        have hplt : p < s.size := HPLT.out h3
        clear hres HGO hgood
        skip
        by_cases hout : 0 < out.length
        · obtain ⟨g, rfl⟩ := HLG.out hout
          obtain ⟨x, hx⟩ : ∃ x, out[out.length - 1]? = some x := ⟨out[out.length - 1]'(by omega), List.getElem?_eq_getElem _⟩
          obtain ⟨a0, a1, a2, a3⟩ := HO1.out.frame (out.length - 1) x hx
          have hgr0 : 1 ≤ (out.length : Int) := by omega
          have HX := Lib.hid hx
          by_cases hkx : x.kind = 2
          · have hk2 : ((x.kind : Int) == 2) = true := by rw [hkx]; rfl
            have hset := bump_set hx hkx p
            have HSET := Lib.hid hset
            obtain ⟨ccap, hcm, hrow⟩ : ∃ h : out.length ≤ lc, True ∧ Row w1 g lc 4 (fcells out) := by
              rcases HO1.out.2 with ⟨h, _⟩ | ⟨g', c', h, h1, h2, hr⟩
              · cases h
              · cases h; exact ⟨h1, trivial, hr⟩
            have hff := hrow.free ((out.length - 1) * 4 + 2) (by omega)
            have HS := Lib.hid (hrow.set ((out.length - 1) * 4 + 2) (.int .i64 ((x.size + 1 : Nat) : Int)) (by omega))
            have hlcm : lc ≤ maxLen := by
              rcases HO1.out.2 with ⟨h, _⟩ | ⟨g', c', h, h1, h2, hr⟩
              · cases h
              · cases h; exact h2
            have hgw : w.heap.size ≤ g := HGE.out g rfl
            have hxsz := HYS.out x (List.mem_of_getElem? hx)
            have hysz : ∀ y ∈ bump out p, y.size ≤ p + 1 := by
              have hne : out ≠ [] := fun h => by rw [h] at hx; simp at hx
              have hlast : out.getLast? = some x := by rw [List.getLast?_eq_getElem?]; exact hx
              intro y hy
              unfold bump at hy
              rw [hlast] at hy
              simp only [hkx, if_true] at hy
              rcases List.mem_append.1 hy with h | h
              · have := HYS.out y (List.dropLast_subset _ h); omega
              · simp at h; subst h; simp only; omega
            have HREL := Lib.hid (show GoneRel w s last R (.slice (some ⟨g, 0, none⟩) out.length lc) (.int .i64 ((p + 1 : Nat) : Int)) (w1.setCell ⟨g, (out.length - 1) * 4 + 2, none⟩ (.int .i64 ((x.size + 1 : Nat) : Int))) from ⟨f, p + 1, bump out p, rfl, by omega, by omega, by
              rw [HSET.out.2, HSET.out.1]
              exact ⟨by rw [List.length_set, fcells_length], .inr ⟨g, lc, rfl, ccap, hlcm, HS.out⟩⟩, HGE.out, by rw [HSET.out.2]; omega, hysz, HB1.out.setCell hgw _, by rw [← HRES.out, List.drop_drop]⟩)
            clear hx hkx hset hcm hrow hlcm hysz
            go_wp2_with fail
            go_roundw
            case rel => exact HREL
            case measure => simp [intOf]; omega
          · have hk2 : ((x.kind : Int) == 2) = false := by simp; omega
            have HNEW := Lib.hid (bump_new (fun y hy => by rw [HX.out] at hy; cases hy; exact hkx) p)
            clear hx hkx
            go_wp2_with (at_builtin; refine wpList_append_slice rfl (.tmp 74) (.tmp 78) 24 24 rfl 82 i5 zeroFrame 4 40 Tryz.underlying24 hi hz0 hz1 hz2 rfl _ out.length (fcells out) rfl (HO1.out.keep (Keep.alloc (fun _ => False) _ _) (fun _ _ => id)) (.slice (some ⟨w1.heap.size, 0, none⟩) 1 1) 1 (fcell ⟨2, p, 1, []⟩) rfl (Src.frame Tryz.underlying24 _ _ _ rfl) (by unfold maxLen; omega) (by omega) ?_)
            intro l8 c8 w8 ho8 hk8 hs8
            have hgr := grow HB1.out HGE.out _ hk8 hs8
            have HREL := Lib.hid (show GoneRel w s last R (.slice l8 (out.length + 1) c8) (.int .i64 ((p + 1 : Nat) : Int)) w8 from ⟨f, p + 1, bump out p, rfl, by omega, by omega, by
              rw [HNEW.out, List.length_append, fcells_append, fcells_one]; exact ho8, hgr.2, by rw [HNEW.out, List.length_append, List.length_singleton]; omega, fun y hy => by
              rw [HNEW.out] at hy
              rcases List.mem_append.1 hy with h | h
              · have := HYS.out y h; omega
              · simp at h; subst h; simp only; omega, hgr.1, by rw [← HRES.out, List.drop_drop]⟩)
            clear ho8 hk8 hs8 hgr
            go_wp2_with fail
            go_roundw
            case rel => exact HREL
            case measure => simp [intOf]; omega
        · have hnil : out = [] := List.eq_nil_of_length_eq_zero (by omega)
          have HNEW := Lib.hid (bump_new (out := out) (fun y hy => by rw [hnil] at hy; simp at hy) p)
          have hlz : (out.length : Int) - 1 < 0 := by omega
          clear hnil
          go_wp2_with (at_builtin; refine wpList_append_slice rfl (.tmp 74) (.tmp 78) 24 24 rfl 82 i5 zeroFrame 4 40 Tryz.underlying24 hi hz0 hz1 hz2 rfl _ out.length (fcells out) rfl (HO1.out.keep (Keep.alloc (fun _ => False) _ _) (fun _ _ => id)) (.slice (some ⟨w1.heap.size, 0, none⟩) 1 1) 1 (fcell ⟨2, p, 1, []⟩) rfl (Src.frame Tryz.underlying24 _ _ _ rfl) (by unfold maxLen; omega) (by omega) ?_)
          intro l8 c8 w8 ho8 hk8 hs8
          have hgr := grow HB1.out HGE.out _ hk8 hs8
          have HREL := Lib.hid (show GoneRel w s last R (.slice l8 (out.length + 1) c8) (.int .i64 ((p + 1 : Nat) : Int)) w8 from ⟨f, p + 1, bump out p, rfl, by omega, by omega, by
            rw [HNEW.out, List.length_append, fcells_append, fcells_one]; exact ho8, hgr.2, by rw [HNEW.out, List.length_append, List.length_singleton]; omega, fun y hy => by
              rw [HNEW.out] at hy
              rcases List.mem_append.1 hy with h | h
              · have := HYS.out y h; omega
              · simp at h; subst h; simp only; omega, hgr.1, by rw [← HRES.out, List.drop_drop]⟩)
          clear ho8 hk8 hs8 hgr
          go_wp2_with fail
          go_roundw
          case rel => exact HREL
          case measure => simp [intOf]; omega
end Go.Proofs.YtmblghdiejneoaaGreat
