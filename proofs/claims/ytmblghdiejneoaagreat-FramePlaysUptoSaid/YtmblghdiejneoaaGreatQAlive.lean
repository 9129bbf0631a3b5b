/- Plain law: frames are found. -/
import Derived.Test.YtmblghdiejneoaaGreatQSplit
import Derived.Lib.Strings
namespace Go.Proofs.YtmblghdiejneoaaGreat
set_option maxRecDepth 100000

theorem toNat_ofNat (n : Nat) : (UInt8.ofNat n).toNat = n % 256 := by simp [UInt8.toNat_ofNat']
theorem frameL_length (c : List UInt8) : (frameL c).length = c.length + 8 := by
  simp [frameL, headL, sum4]
theorem wholeF_frame (c t : List UInt8) (h : c.length ≤ 4096) : wholeF (frameL c ++ t) = (c.length + 8, false) := by
  have hlen : (frameL c ++ t).length = c.length + 8 + t.length := by rw [List.length_append, frameL_length]
  have hlo : lenOf (frameL c ++ t) = c.length := by
    unfold lenOf
    show (UInt8.ofNat (c.length / 256)).toNat * 256 + (UInt8.ofNat c.length).toNat = c.length
    rw [toNat_ofNat, toNat_ofNat]; omega
  have htk : (frameL c ++ t).take 2 = [197, 171] := rfl
  have hb : (frameL c ++ t).take (c.length + 4) = headL c ++ c := by
    unfold frameL
    rw [List.append_assoc, List.take_left' (by simp [headL])]
  have hd : ((frameL c ++ t).drop (c.length + 4)).take 4 = sum4 (crc (headL c ++ c)) := by
    unfold frameL
    rw [List.append_assoc, List.drop_left' (by simp [headL])]
    rfl
  unfold wholeF
  rw [if_neg (by rw [hlen]; omega), if_neg (fun hh => hh htk), if_neg (by rw [hlen]; omega), hlo, if_neg (by omega), if_neg (by rw [hlen]; omega), hb, hd, if_pos rfl]
theorem frameL_content (c t : List UInt8) : ((frameL c ++ t).drop 4).take c.length = c := by
  unfold frameL
  rw [List.append_assoc, List.append_assoc, show (headL c ++ (c ++ (sum4 (crc (headL c ++ c)) ++ t))).drop 4 = c ++ (sum4 (crc (headL c ++ c)) ++ t) from rfl, List.take_left' rfl]

/-- The steps of going through. -/
theorem goN_end {last : Bool} {base : Nat} {l : List UInt8} {f p : Nat} {out : List Fr} {ba bs : Nat} (h : ¬ p < l.length) : goN last base l f p out ba bs = (p, out, ba, bs) := by
  cases f with
  | zero => rfl
  | succ f => rw [goN, if_neg h]
theorem goN_bad {last : Bool} {base : Nat} {l : List UInt8} {f p : Nat} {out : List Fr} {ba bs : Nat} (h : p < l.length) (h1 : ¬ ((wholeF (l.drop p)).2 = true ∧ last = false)) (h2 : (wholeF (l.drop p)).1 = 0) :
    goN last base l (f + 1) p out ba bs = goN last base l f (p + 1) out (if bs = 0 then base + p else ba) (bs + 1) := by rw [goN, if_pos h, if_neg h1, if_pos h2]
theorem goN_good {last : Bool} {base : Nat} {l : List UInt8} {f p : Nat} {out : List Fr} {ba bs : Nat} (c t : List UInt8) (hc : c.length ≤ 4096) (h : l.drop p = frameL c ++ t) :
    goN last base l (f + 1) p out ba bs = goN last base l f (p + (c.length + 8)) (tellL ba bs out ++ [⟨1, base + p, c.length + 8, c⟩]) 0 0 := by
  have hp : p < l.length := by
    have := congrArg List.length h
    rw [List.length_drop, List.length_append, frameL_length] at this
    omega
  have hw := wholeF_frame c t hc
  rw [goN, if_pos hp, h, hw, if_neg (fun hh => by cases hh.1), if_neg (by omega : ¬ c.length + 8 = 0)]
  have e : (l.drop (p + 4)).take (c.length + 8 - 8) = c := by
    rw [← List.drop_drop, h, Nat.add_sub_cancel]
    exact frameL_content c t
  simp only [e]

theorem close_empty {d : DSt} (hr : d.rest = []) (hb : d.bs = 0) (hc : d.closed = false) : (closeF d).1 = [] := by
  unfold closeF
  rw [if_neg (by rw [hc]; simp)]
  simp only [hr, List.length_nil, goN, hb, tellL]
  rfl

theorem split_frame (c : List UInt8) (h : c.length ≤ 4096) : splitF (frameL c) = [⟨1, 0, c.length + 8, c⟩] := by
  have hl := frameL_length c
  have hg : goN false 0 (frameL c) (frameL c).length 0 [] 0 0 = (c.length + 8, [⟨1, 0, c.length + 8, c⟩], 0, 0) := by
    rw [hl, goN_good c [] h (by simp), goN_end (by rw [hl]; omega)]
    simp [tellL]
  rw [hl] at hg
  have hf : feedF d0 (frameL c) = ([⟨1, 0, c.length + 8, c⟩], ⟨false, c.length + 8, 0, 0, []⟩) := by
    unfold feedF d0
    rw [if_neg (by simp [hl]; omega)]
    simp only [List.nil_append, List.length_nil, Nat.sub_zero, hg, hl, Nat.zero_add]
    rw [List.drop_of_length_le (by rw [hl]; omega)]
  unfold splitF
  rw [hf, close_empty rfl rfl rfl]
  rfl
theorem split_one : splitF (1 :: frameL []) = [⟨2, 0, 1, []⟩, ⟨1, 1, 8, []⟩] := by
  have hl : (1 :: frameL []).length = 9 := rfl
  have hg : goN false 0 (1 :: frameL []) 9 0 [] 0 0 = (9, [⟨2, 0, 1, []⟩, ⟨1, 1, 8, []⟩], 0, 0) := by
    have hw : wholeF (1 :: frameL []) = (0, false) := by
      unfold wholeF
      rw [if_neg (by rw [hl]; omega), if_pos (by show ¬ [1, 197] = [197, 171]; decide)]
    rw [goN_bad (by rw [hl]; omega) (by rw [List.drop_zero, hw]; simp) (by rw [List.drop_zero, hw]), goN_good [] [] (by simp) (by simp), goN_end (by rw [hl]; simp)]
    rfl
  have hf : feedF d0 (1 :: frameL []) = ([⟨2, 0, 1, []⟩, ⟨1, 1, 8, []⟩], ⟨false, 9, 0, 0, []⟩) := by
    unfold feedF d0
    rw [if_neg (by simp [hl])]
    simp only [List.nil_append, List.length_nil, Nat.sub_zero, hl, hg, Nat.zero_add]
    rw [List.drop_of_length_le (by rw [hl]; omega)]
  unfold splitF
  rw [hf, close_empty rfl rfl rfl]
  rfl
end Go.Proofs.YtmblghdiejneoaaGreat

/- alive: what the statements ask of the frame of no content. -/
namespace Go.Proofs.YtmblghdiejneoaaGreat
set_option maxRecDepth 100000
open Go.RowKit

/-- Frame i of a list of frames in memory. -/
theorem Own.frame {w : World} {g n cap : Nat} {l : List Fr} (h : Own w 4 (.slice (some ⟨g, 0, none⟩) n cap) n (fcells l)) (i : Nat) (f : Fr) (hi : l[i]? = some f) :
    w.cell? ⟨g, i * 4, none⟩ = some (.int .u8 f.kind) ∧ w.cell? ⟨g, i * 4 + 1, none⟩ = some (.int .i64 f.pos) ∧ w.cell? ⟨g, i * 4 + 2, none⟩ = some (.int .i64 f.size) ∧ w.cell? ⟨g, i * 4 + 3, none⟩ = some (.string ⟨f.content.toArray⟩) := by
  rcases h.2 with ⟨hv, _⟩ | ⟨g', cap', hv, _, _, hr⟩
  · cases hv
  · cases hv
    have key : ∀ j u, (fcell f)[j]? = some u → (fcells l)[i * 4 + j]? = some u := by
      clear hr h
      induction l generalizing i with
      | nil => simp at hi
      | cons a l ih =>
        intro j u hu
        cases i with
        | zero =>
          simp at hi
          subst hi
          simp only [fcells, List.flatMap_cons, Nat.zero_mul, Nat.zero_add]
          rw [List.getElem?_append_left (List.getElem?_eq_some_iff.1 hu).1]
          exact hu
        | succ i =>
          simp only [List.getElem?_cons_succ] at hi
          have := ih i hi j u hu
          simp only [fcells, List.flatMap_cons]
          rw [List.getElem?_append_right (by simp [fcell]; omega)]
          rw [← this]
          congr 1
          simp [fcell]; omega
    exact ⟨hr.cell _ _ (key 0 _ rfl), hr.cell _ _ (key 1 _ rfl), hr.cell _ _ (key 2 _ rfl), hr.cell _ _ (key 3 _ rfl)⟩

theorem packS_nil : packS [] = frameL [] := rfl
theorem packE_nil : packE [] = 0 := rfl

set_option maxRecDepth 100000 in
set_option maxHeartbeats 2000000 in
theorem alive_any (w : World) : Calls Tryz.prog 13 #[] w fun e w' => e = .returned (.bool true) ∧ Below w.heap.size w w' := by
  have hpk := pack_any ⟨#[]⟩ w
  obtain ⟨S, hS⟩ : ∃ S : ByteArray, S = ⟨(frameL []).toArray⟩ := ⟨_, rfl⟩
  have hsz : S.size = 8 := by rw [hS]; rfl
  have hex : ((S.extract 0 4).toList == [197, 171, 0, 0]) = true := by rw [hS, Lib.extract_toList]; rfl
  have hcat : ((⟨#[1]⟩ : ByteArray) ++ S).data.toList = 1 :: frameL [] := by rw [hS, ByteArray.data_append]; simp
  have HS := Lib.hid hS
  have HC := Lib.hid hcat
  rw [show ((⟨#[]⟩ : ByteArray).data.toList) = [] from rfl, packS_nil, packE_nil, ← hS] at hpk
  have HP := Lib.hid hpk
  clear hS hcat hpk
  have hcv := fun (w : World) (s : ByteArray) => run_bytes_of_string (P := Tryz.prog) w 9 22 5 s Tryz.underlying9 Tryz.underlying22 Tryz.underlying5
  have heq := eq_frame'
  go_enter Tryz.func13, Tryz.ntmps13
  go_wp2_with fail
  refine HP.out.mono ?_
  rintro e w1 ⟨rfl, hb1⟩
  have HB1 := Lib.hid hb1
  clear hb1
  go_wp2_with fail
  refine (split_any _ _ _ _ (1 :: frameL []) (by simp [frameL_length]) (by
    have := rd_conv w1 (⟨#[1]⟩ ++ S) (grownCap w1 9 0 5) 5 ((bytesRow (⟨#[1]⟩ ++ S) (grownCap w1 9 0 5)).size, (bytesRow (⟨#[1]⟩ ++ S) (grownCap w1 9 0 5)).size + 1)
    rw [HC.out] at this
    exact this) (by omega)).mono ?_
  rintro e w3 ⟨v3, rfl, ho3, hb3, hv3⟩
  have HB3 := Lib.hid (show Below w.heap.size w w3 from by
    refine (HB1.out.alloc HB1.out.size (.cells (bytesRow (⟨#[1]⟩ ++ S) (grownCap w1 9 0 5)) 5 ((bytesRow (⟨#[1]⟩ ++ S) (grownCap w1 9 0 5)).size, (bytesRow (⟨#[1]⟩ ++ S) (grownCap w1 9 0 5)).size + 1))).drew.trans (hb3.mono ?_)
    have := HB1.out.size
    simp; omega)
  rw [split_one] at ho3
  have h2 : ([⟨2, 0, 1, []⟩, ⟨1, 1, 8, []⟩] : List Fr).length = 2 := rfl
  rw [h2] at ho3
  obtain ⟨g, cap, hv⟩ : ∃ g cap, v3 = .slice (some ⟨g, 0, none⟩) 2 cap := by
    rcases ho3.2 with ⟨_, h⟩ | ⟨g, cap, h, _⟩
    · omega
    · exact ⟨g, cap, h⟩
  subst hv
  obtain ⟨a0, a1, a2, a3⟩ := ho3.frame 0 ⟨2, 0, 1, []⟩ rfl
  obtain ⟨b0, b1, b2, b3⟩ := ho3.frame 1 ⟨1, 1, 8, []⟩ rfl
  have q1 : bqF 2 2 0 0 1 1 ⟨#[]⟩ ⟨#[]⟩ = true := by simp [bqF]
  have q2 : bqF 1 1 1 1 8 8 ⟨#[]⟩ ⟨#[]⟩ = true := by simp [bqF]
  simp only [Nat.zero_mul, Nat.zero_add, Nat.one_mul, Nat.reduceAdd] at a0 a1 a2 a3 b0 b1 b2 b3
  clear ho3 hb3 hv3 h2
  go_wp2
  go_ret
  exact ⟨rfl, HB3.out⟩
end Go.Proofs.YtmblghdiejneoaaGreat
