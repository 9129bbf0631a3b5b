/- alive: what the statements ask of the frame of no content. -/
import Derived.Test.YtmblghdiejneoaaGreatPure1
import Derived.Lib.Strings
namespace Go.Proofs.YtmblghdiejneoaaGreat
set_option maxRecDepth 100000
open Go.RowKit

/-- Frame i of a list of frames in memory. -/
theorem Own.frame {w : World} {g n cap : Nat} {l : List Fr} (h : Own w 4 (.slice (some ⟨g, 0, none⟩) n cap) n (fcells l)) (i : Nat) (f : Fr) (hi : l[i]? = some f) :
    w.cell? ⟨g, i * 4, none⟩ = some (.int .u8 f.kind) ∧ w.cell? ⟨g, i * 4 + 1, none⟩ = some (.int .i64 f.pos) ∧ w.cell? ⟨g, i * 4 + 2, none⟩ = some (.int .i64 f.size) ∧ w.cell? ⟨g, i * 4 + 3, none⟩ = some (.string ⟨f.content.toArray⟩) := by
  rcases h.2 with ⟨hv, _⟩ | ⟨g', cap', hv, _, _, hr⟩
  · cases hv
  · cases hv
    have key : ∀ j u, (fcell f)[j]? = some u → (fcells l)[i * 4 + j]? = some u := by
      clear hr h
      induction l generalizing i with
      | nil => simp at hi
      | cons a l ih =>
        intro j u hu
        cases i with
        | zero =>
          simp at hi
          subst hi
          simp only [fcells, List.flatMap_cons, Nat.zero_mul, Nat.zero_add]
          rw [List.getElem?_append_left (List.getElem?_eq_some_iff.1 hu).1]
          exact hu
        | succ i =>
          simp only [List.getElem?_cons_succ] at hi
          have := ih i hi j u hu
          simp only [fcells, List.flatMap_cons]
          rw [List.getElem?_append_right (by simp [fcell]; omega)]
          rw [← this]
          congr 1
          simp [fcell]; omega
    exact ⟨hr.cell _ _ (key 0 _ rfl), hr.cell _ _ (key 1 _ rfl), hr.cell _ _ (key 2 _ rfl), hr.cell _ _ (key 3 _ rfl)⟩

theorem packS_nil : packS [] = frameL [] := rfl
theorem packE_nil : packE [] = 0 := rfl

set_option maxRecDepth 100000 in
set_option maxHeartbeats 2000000 in
theorem alive_any (w : World) : Calls Tryz.prog 13 #[] w fun e w' => e = .returned (.bool true) ∧ Below w.heap.size w w' := by
  have hpk := pack_any ⟨#[]⟩ w
  obtain ⟨S, hS⟩ : ∃ S : ByteArray, S = ⟨(frameL []).toArray⟩ := ⟨_, rfl⟩
  have hsz : S.size = 8 := by rw [hS]; rfl
  have hex : ((S.extract 0 4).toList == [197, 171, 0, 0]) = true := by rw [hS, Lib.extract_toList]; rfl
  have hcat : ((⟨#[1]⟩ : ByteArray) ++ S).data.toList = 1 :: frameL [] := by rw [hS, ByteArray.data_append]; simp
  have HS := Lib.hid hS
  have HC := Lib.hid hcat
  rw [show ((⟨#[]⟩ : ByteArray).data.toList) = [] from rfl, packS_nil, packE_nil, ← hS] at hpk
  have HP := Lib.hid hpk
  clear hS hcat hpk
  have hcv := fun (w : World) (s : ByteArray) => run_bytes_of_string (P := Tryz.prog) w 9 22 5 s Tryz.underlying9 Tryz.underlying22 Tryz.underlying5
  have heq := eq_frame'
  go_enter Tryz.func13, Tryz.ntmps13
  go_wp2_with fail
  refine HP.out.mono ?_
  rintro e w1 ⟨rfl, hb1⟩
  have HB1 := Lib.hid hb1
  clear hb1
  go_wp2_with fail
  refine (split_any _ _ _ _ (1 :: frameL []) (by simp [frameL_length]) (by
    have := rd_conv w1 (⟨#[1]⟩ ++ S) (grownCap w1 9 0 5) 5 ((bytesRow (⟨#[1]⟩ ++ S) (grownCap w1 9 0 5)).size, (bytesRow (⟨#[1]⟩ ++ S) (grownCap w1 9 0 5)).size + 1)
    rw [HC.out] at this
    exact this) (by omega)).mono ?_
  rintro e w3 ⟨v3, rfl, ho3, hb3, hv3⟩
  have HB3 := Lib.hid (show Below w.heap.size w w3 from by
    refine (HB1.out.alloc HB1.out.size (.cells (bytesRow (⟨#[1]⟩ ++ S) (grownCap w1 9 0 5)) 5 ((bytesRow (⟨#[1]⟩ ++ S) (grownCap w1 9 0 5)).size, (bytesRow (⟨#[1]⟩ ++ S) (grownCap w1 9 0 5)).size + 1))).drew.trans (hb3.mono ?_)
    have := HB1.out.size
    simp; omega)
  rw [split_one] at ho3
  have h2 : ([⟨2, 0, 1, []⟩, ⟨1, 1, 8, []⟩] : List Fr).length = 2 := rfl
  rw [h2] at ho3
  obtain ⟨g, cap, hv⟩ : ∃ g cap, v3 = .slice (some ⟨g, 0, none⟩) 2 cap := by
    rcases ho3.2 with ⟨_, h⟩ | ⟨g, cap, h, _⟩
    · omega
    · exact ⟨g, cap, h⟩
  subst hv
  obtain ⟨a0, a1, a2, a3⟩ := ho3.frame 0 ⟨2, 0, 1, []⟩ rfl
  obtain ⟨b0, b1, b2, b3⟩ := ho3.frame 1 ⟨1, 1, 8, []⟩ rfl
  have q1 : bqF 2 2 0 0 1 1 ⟨#[]⟩ ⟨#[]⟩ = true := by simp [bqF]
  have q2 : bqF 1 1 1 1 8 8 ⟨#[]⟩ ⟨#[]⟩ = true := by simp [bqF]
  simp only [Nat.zero_mul, Nat.zero_add, Nat.one_mul, Nat.reduceAdd] at a0 a1 a2 a3 b0 b1 b2 b3
  clear ho3 hb3 hv3 h2
  go_wp2
  go_ret
  exact ⟨rfl, HB3.out⟩
end Go.Proofs.YtmblghdiejneoaaGreat
