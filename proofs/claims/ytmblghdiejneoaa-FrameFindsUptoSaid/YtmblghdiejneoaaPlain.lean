/- plain: a text in which no byte opens a frame. -/
import Derived.Test.YtmblghdiejneoaaResume
import Derived.Test.YtmblghdiejneoaaFinds
namespace Go.Proofs.Ytmblghdiejneoaa
open Go.RowKit

theorem Row.set {w : World} {g cap size : Nat} {xs : List Value} (h : Row w g cap size xs) (i : Nat) (v : Value) (hi : i < cap * size) : Row (w.setCell ⟨g, i, none⟩ v) g cap size (xs.set i v) := by
  have hK := Keep.setCells w g i [v]
  have hsc : w.setCells g i [v] = w.setCell ⟨g, i, none⟩ v := rfl
  rw [← hsc]
  refine ⟨Nat.lt_of_lt_of_le h.lt hK.size, fun j u hu => ?_, fun j hj => World.isSome_setCells g [v] _ w _ (h.there j hj), fun j hj => by rw [World.frozen?_setCells]; exact h.free j hj⟩
  by_cases hj : j = i
  · subst hj
    have h1 := World.cell?_setCells_in g [v] j w (fun k hk => by simp at hk; subst hk; exact h.there _ (by simpa using hi)) 0 (by simp)
    rw [List.getElem?_set] at hu
    simp only [if_true] at hu
    split at hu
    · cases hu; simpa using h1
    · cases hu
  · rw [World.cell?_setCells_out g [v] _ w ⟨g, j, none⟩ (fun _ _ => by simp; omega)]
    rw [List.getElem?_set_ne (fun e => hj e.symm)] at hu
    exact h.cell j u hu

theorem bcells_set (l : List UInt8) (i : Nat) (b : UInt8) : bcells (l.set i b) = (bcells l).set i (.int .u8 (b.toNat : Int)) := by simp [bcells]

theorem set_same {α : Type} {l : List α} {k : Nat} {y : α} (h : l[k]? = some y) : l.set k y = l := by
  obtain ⟨hk, rfl⟩ := List.getElem?_eq_some_iff.1 h
  exact List.set_getElem_self hk

set_option maxRecDepth 100000 in
set_option maxHeartbeats 2000000 in
theorem plain_any (s : ByteArray) (w : World) (hs : s.size ≤ 100000000000) :
    Calls Try.prog 14 #[.string s] w fun e w' => e = .returned (.string ⟨(plainL s.data.toList).toArray⟩) ∧ Below w.heap.size w w' := by
  have hge := grownCap_ge w s.size 0 5
  have hcm := grownCap_le_maxLen w s.size 0 5 (by unfold maxLen; omega)
  have hown := own_conv w s (grownCap w s.size 0 5) 5 hge hcm
  have hcv := run_bytes_of_string (P := Try.prog) w 9 28 5 s Try.underlying9 Try.underlying28 Try.underlying5
  have hb := (Below.refl w.heap.size w).drew.alloc (by simp) (.cells (bytesRow s (grownCap w s.size 0 5)) 5 ((bytesRow s (grownCap w s.size 0 5)).size, (bytesRow s (grownCap w s.size 0 5)).size + 1))
  generalize w.drew.alloc (.cells (bytesRow s (grownCap w s.size 0 5)) 5 ((bytesRow s (grownCap w s.size 0 5)).size, (bytesRow s (grownCap w s.size 0 5)).size + 1)) = W at *
  generalize grownCap w s.size 0 5 = cap at *
  have hrow : Row W w.heap.size cap 1 (bcells s.data.toList) := by
    rcases hown.2 with ⟨h, _⟩ | ⟨g, c, h, _, _, hr⟩
    · cases h
    · cases h; exact hr
  have hsl : s.data.toList.length = s.size := by simp
  have HR := Lib.hid hrow
  have HB := Lib.hid hb
  have HSL := Lib.hid hsl
  have hst := Lib.hid (show Row W w.heap.size cap 1 (bcells ((plainL s.data.toList).take 0 ++ s.data.toList.drop 0)) ∧ Below w.heap.size w W from ⟨by simpa using hrow, hb⟩)
  clear hown hrow hb hsl
  go_enter Try.func14, Try.ntmps14
  go_wp2_with fail
  go_loopw [4] (fun i wr => Hid (∃ k : Nat, i = .int .i64 k ∧ k ≤ s.size ∧ Row wr w.heap.size cap 1 (bcells ((plainL s.data.toList).take k ++ s.data.toList.drop k)) ∧ Below w.heap.size w wr)) (fun i _ => s.size - (intOf i).toNat)
  case atStart => exact Lib.hid ⟨0, rfl, Nat.zero_le _, hst.out.1, hst.out.2⟩
  case round =>
    obtain ⟨k, rfl, hk, hr, hbr⟩ := hrel.out
    have HRR := Lib.hid hr
    have HBR := Lib.hid hbr
    clear hr hbr hrel
    by_cases hlt : k < s.size
    · have hk' : k < s.data.toList.length := by rw [HSL.out]; exact hlt
      have hget : ((plainL s.data.toList).take k ++ s.data.toList.drop k)[k]? = some s.data.toList[k] := by
        rw [List.getElem?_append_right (by rw [List.length_take]; omega), List.length_take, plainL, List.length_map, Nat.min_eq_left (by omega), Nat.sub_self, List.getElem?_drop, Nat.add_zero, List.getElem?_eq_getElem hk']
      have hc0 : wr.cell? ⟨w.heap.size, k, none⟩ = some (.int .u8 ((s.data.toList[k]).toNat : Int)) := HRR.out.cell k _ (by simp only [bcells, List.getElem?_map, hget, Option.map_some])
      have hf0 : wr.frozen? ⟨w.heap.size, k, none⟩ = false := HRR.out.free k (by omega)
      have hd : s.data.toList.drop k = s.data.toList[k] :: s.data.toList.drop (k + 1) := List.drop_eq_getElem_cons hk'
      have htk : (plainL s.data.toList).take (k + 1) = (plainL s.data.toList).take k ++ [if s.data.toList[k] = 197 then 1 else s.data.toList[k]] := by
        rw [List.take_succ_eq_append_getElem (by rw [plainL, List.length_map]; exact hk')]
        simp [plainL]
      have hlen : ((plainL s.data.toList).take k).length = k := by rw [List.length_take, plainL, List.length_map]; omega
      have hnext : (plainL s.data.toList).take (k + 1) ++ s.data.toList.drop (k + 1) = ((plainL s.data.toList).take k ++ s.data.toList.drop k).set k (if s.data.toList[k] = 197 then 1 else s.data.toList[k]) := by
        rw [htk, hd, List.set_append_right _ _ (by rw [hlen]; exact Nat.le_refl _), hlen, Nat.sub_self]
        simp
      have HN := Lib.hid hnext
      have HGET := Lib.hid hget
      have hb8 := (s.data.toList[k]).toNat_lt
      clear hget hd htk hlen hnext
      by_cases h5 : s.data.toList[k] = 197
      · have h5' : (((s.data.toList[k]).toNat : Int) == 197) = true := by rw [h5]; rfl
        have HS := Lib.hid (HRR.out.set k (.int .u8 1) (by omega))
        have HBS := Lib.hid (HBR.out.setCell (p := ⟨w.heap.size, k, none⟩) (Nat.le_refl _) (.int .u8 1))
        have hN : Row (wr.setCell ⟨w.heap.size, k, none⟩ (.int .u8 1)) w.heap.size cap 1 (bcells ((plainL s.data.toList).take (k + 1) ++ s.data.toList.drop (k + 1))) := by
          rw [HN.out, if_pos h5, bcells_set]
          exact HS.out
        have HN2 := Lib.hid hN
        clear hN h5
        generalize (s.data.toList[k]).toNat = z at *
        go_wp2_with fail
        go_roundw
        case rel => exact Lib.hid ⟨k + 1, by go_num, by omega, HN2.out, HBS.out⟩
        case measure => simp [intOf]; omega
      · have h5' : (((s.data.toList[k]).toNat : Int) == 197) = false := by
          rw [beq_eq_false_iff_ne]
          intro e
          apply h5
          apply UInt8.toNat_inj.1
          have : (197 : UInt8).toNat = 197 := rfl
          omega
        have hset := set_same HGET.out
        have hN : Row wr w.heap.size cap 1 (bcells ((plainL s.data.toList).take (k + 1) ++ s.data.toList.drop (k + 1))) := by
          rw [HN.out, if_neg h5, hset]
          exact HRR.out
        have HN2 := Lib.hid hN
        clear hN h5 hset
        generalize (s.data.toList[k]).toNat = z at *
        go_wp2_with fail
        go_roundw
        case rel => exact Lib.hid ⟨k + 1, by go_num, by omega, HN2.out, HBR.out⟩
        case measure => simp [intOf]; omega
    · have hks : k = s.size := by omega
      have hfin : (plainL s.data.toList).take k ++ s.data.toList.drop k = plainL s.data.toList := by
        rw [hks, List.drop_of_length_le (by rw [HSL.out]; exact Nat.le_refl _), List.append_nil, List.take_of_length_le (by rw [plainL, List.length_map, HSL.out]; exact Nat.le_refl _)]
      have hrd : Rd wr (some ⟨w.heap.size, 0, none⟩) (plainL s.data.toList) := by
        have hr := HRR.out
        rw [hfin] at hr
        refine .inr ⟨_, 0, rfl, fun i hi => ?_⟩
        rw [Nat.zero_add]
        exact hr.cell i _ (by simp [bcells, hi])
      have hcv2 := conv_str (P := Try.prog) wr 28 9 5 Try.underlying28 Try.underlying5 Try.underlying9 (some ⟨w.heap.size, 0, none⟩) s.size cap _ (by rw [plainL, List.length_map, HSL.out]) hrd
      clear hfin hrd hks
      generalize hS : (⟨(plainL s.data.toList).toArray⟩ : ByteArray) = S at *
      have HS := Lib.hid hS
      clear hS
      go_wp2_with fail
      go_ret
      exact ⟨by rw [HS.out]; rfl, HBR.out⟩
end Go.Proofs.Ytmblghdiejneoaa
