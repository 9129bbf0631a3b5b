/- Apart: no two of the lists that a Book was told share memory. (Printed by genapart.py.) -/
import Derived.Test.YtmblghdiejneoaaGreatQBookIn
import Derived.Test.YtmblghdiejneoaaGreatQBookNil
namespace Go.Proofs.YtmblghdiejneoaaGreat
set_option maxRecDepth 100000
open Go.RowKit

theorem book_nil {w : World} {K n : Nat} {B F : Value} (h : BookAt w K n B F) (j : Nat) (hj : j < 26) (h0 : ¬ j = 0) (h2 : ¬ j = 2) (h20 : ¬ j = 20) : w.cell? ⟨K, j, none⟩ = some (.slice none 0 0) := by
  unfold BookAt at h
  have : j = 1 ∨ j = 3 ∨ j = 4 ∨ j = 5 ∨ j = 6 ∨ j = 7 ∨ j = 8 ∨ j = 9 ∨ j = 10 ∨ j = 11 ∨ j = 12 ∨ j = 13 ∨ j = 14 ∨ j = 15 ∨ j = 16 ∨ j = 17 ∨ j = 18 ∨ j = 19 ∨ j = 21 ∨ j = 22 ∨ j = 23 ∨ j = 24 ∨ j = 25 := by omega
  rcases this with rfl | rfl | rfl | rfl | rfl | rfl | rfl | rfl | rfl | rfl | rfl | rfl | rfl | rfl | rfl | rfl | rfl | rfl | rfl | rfl | rfl | rfl | rfl <;> simp [World.cell?, h, bookCells]

set_option maxHeartbeats 8000000 in
theorem apart_any (w : World) (K n : Nat) (B F : Value) (mB : Nat) (fB : Nat → Held) (mF : Nat) (fF : Nat → Held) (hb : BookIn w K n B F mB fB mF fF) :
    Calls Tryz.prog 12 #[.pointer (some ⟨K, 0, none⟩)] w fun e w' => e = .returned (.bool true) ∧ Keep (Used K B F mB fB mF fF) w w' := by
  have HB := Lib.hid hb
  have HA := Lib.hid hb.at_
  clear hb
  go_enter Tryz.func12, Tryz.ntmps12
  go_wp2_with fail
  refine (fillInt_nil _ K (book_nil HA.out 1 (by omega) (by omega) (by omega) (by omega))).mono ?_
  rintro e w0 ⟨rfl, rfl⟩
  go_wp2_with fail
  refine (fillByte_any _ K n mB F B fB HA.out HB.out.rowB HB.out.keptB HB.out.ownB).mono ?_
  rintro e w1 ⟨rfl, hm1, hk1⟩
  have HM1 := Lib.hid hm1
  have HK1 := Lib.hid hk1
  have HA := Lib.hid (show BookAt w1 K n B F from hk1.old HA.out (fun ⟨i, hi, hg⟩ => (HB.out.keptB.off i hi K hg).1 rfl))
  clear hm1 hk1
  go_wp2_with fail
  refine (fillFloat_nil _ K (book_nil HA.out 3 (by omega) (by omega) (by omega) (by omega))).mono ?_
  rintro e w0 ⟨rfl, rfl⟩
  go_wp2_with fail
  refine (fillID_nil _ K (book_nil HA.out 4 (by omega) (by omega) (by omega) (by omega))).mono ?_
  rintro e w0 ⟨rfl, rfl⟩
  go_wp2_with fail
  refine (fillPoint_nil _ K (book_nil HA.out 5 (by omega) (by omega) (by omega) (by omega))).mono ?_
  rintro e w0 ⟨rfl, rfl⟩
  go_wp2_with fail
  refine (fillBox_nil _ K (book_nil HA.out 6 (by omega) (by omega) (by omega) (by omega))).mono ?_
  rintro e w0 ⟨rfl, rfl⟩
  go_wp2_with fail
  refine (fillNear_nil _ K (book_nil HA.out 7 (by omega) (by omega) (by omega) (by omega))).mono ?_
  rintro e w0 ⟨rfl, rfl⟩
  go_wp2_with fail
  refine (fillRoad_nil _ K (book_nil HA.out 8 (by omega) (by omega) (by omega) (by omega))).mono ?_
  rintro e w0 ⟨rfl, rfl⟩
  go_wp2_with fail
  refine (fillLeg_nil _ K (book_nil HA.out 9 (by omega) (by omega) (by omega) (by omega))).mono ?_
  rintro e w0 ⟨rfl, rfl⟩
  go_wp2_with fail
  refine (fillStop_nil _ K (book_nil HA.out 10 (by omega) (by omega) (by omega) (by omega))).mono ?_
  rintro e w0 ⟨rfl, rfl⟩
  go_wp2_with fail
  refine (fillWaiting_nil _ K (book_nil HA.out 11 (by omega) (by omega) (by omega) (by omega))).mono ?_
  rintro e w0 ⟨rfl, rfl⟩
  go_wp2_with fail
  refine (fillIdle_nil _ K (book_nil HA.out 12 (by omega) (by omega) (by omega) (by omega))).mono ?_
  rintro e w0 ⟨rfl, rfl⟩
  go_wp2_with fail
  refine (fillPair_nil _ K (book_nil HA.out 13 (by omega) (by omega) (by omega) (by omega))).mono ?_
  rintro e w0 ⟨rfl, rfl⟩
  go_wp2_with fail
  refine (fillEdge_nil _ K (book_nil HA.out 14 (by omega) (by omega) (by omega) (by omega))).mono ?_
  rintro e w0 ⟨rfl, rfl⟩
  go_wp2_with fail
  refine (fillJourney_nil _ K (book_nil HA.out 15 (by omega) (by omega) (by omega) (by omega))).mono ?_
  rintro e w0 ⟨rfl, rfl⟩
  go_wp2_with fail
  refine (fillStanding_nil _ K (book_nil HA.out 16 (by omega) (by omega) (by omega) (by omega))).mono ?_
  rintro e w0 ⟨rfl, rfl⟩
  go_wp2_with fail
  refine (fillEntry_nil _ K (book_nil HA.out 17 (by omega) (by omega) (by omega) (by omega))).mono ?_
  rintro e w0 ⟨rfl, rfl⟩
  go_wp2_with fail
  refine (fillTrip_nil _ K (book_nil HA.out 18 (by omega) (by omega) (by omega) (by omega))).mono ?_
  rintro e w0 ⟨rfl, rfl⟩
  go_wp2_with fail
  refine (fillReply_nil _ K (book_nil HA.out 19 (by omega) (by omega) (by omega) (by omega))).mono ?_
  rintro e w0 ⟨rfl, rfl⟩
  go_wp2_with fail
  refine (fillFrame_any _ K n mF B F fF HA.out (HB.out.rowF.keep HK1.out (fun g hg ⟨i, hi, h⟩ => HB.out.crossB i hi g h hg)) HB.out.keptF (fun i hi => (HB.out.ownF i hi).imp fun _ ho => ho.keep HK1.out (fun g hg ⟨j, hj, h⟩ => HB.out.cross j i hj hi g h hg))).mono ?_
  rintro e w2 ⟨rfl, hm2, hk2⟩
  have HM2 := Lib.hid hm2
  have HK2 := Lib.hid hk2
  have HA := Lib.hid (show BookAt w2 K n B F from hk2.old HA.out (fun ⟨i, hi, hg⟩ => (HB.out.keptF.off i hi K hg).1 rfl))
  clear hm2 hk2
  go_wp2_with fail
  refine (fillCommand_nil _ K (book_nil HA.out 21 (by omega) (by omega) (by omega) (by omega))).mono ?_
  rintro e w0 ⟨rfl, rfl⟩
  go_wp2_with fail
  refine (fillIntList_nil _ K (book_nil HA.out 22 (by omega) (by omega) (by omega) (by omega))).mono ?_
  rintro e w0 ⟨rfl, rfl⟩
  go_wp2_with fail
  refine (fillByteList_nil _ K (book_nil HA.out 23 (by omega) (by omega) (by omega) (by omega))).mono ?_
  rintro e w0 ⟨rfl, rfl⟩
  go_wp2_with fail
  refine (fillReplyList_nil _ K (book_nil HA.out 24 (by omega) (by omega) (by omega) (by omega))).mono ?_
  rintro e w0 ⟨rfl, rfl⟩
  go_wp2_with fail
  refine (fillRecord_nil _ K (book_nil HA.out 25 (by omega) (by omega) (by omega) (by omega))).mono ?_
  rintro e w0 ⟨rfl, rfl⟩
  go_wp2_with fail
  refine (growInt_nil _ K (book_nil HA.out 1 (by omega) (by omega) (by omega) (by omega))).mono ?_
  rintro e w0 ⟨rfl, rfl⟩
  go_wp2_with fail
  refine (growByte_any _ K n mB F B fB HA.out ((HB.out.rowB.keep HK1.out (fun g hg ⟨i, hi, h⟩ => (HB.out.keptB.off i hi g h).2 hg)).keep HK2.out (fun g hg ⟨i, hi, h⟩ => HB.out.crossF i hi g h hg)) HB.out.keptB (fun i hi => (HM1.out i hi).keep HK2.out (fun g hg ⟨j, hj, h⟩ => HB.out.cross i j hi hj g hg h))).mono ?_
  rintro e w3 ⟨rfl, LB, hr3, hl3, hk3⟩
  have HR3 := Lib.hid hr3
  have HL3 := Lib.hid hl3
  have HK3 := Lib.hid hk3
  have HA := Lib.hid (show BookAt w3 K n B F from hk3.old HA.out (fun h => h.elim (fun h => HB.out.keptB.book K h rfl) (fun ⟨i, hi, hg⟩ => (HB.out.keptB.off i hi K hg).1 rfl)))
  clear hr3 hl3 hk3
  go_wp2_with fail
  refine (growFloat_nil _ K (book_nil HA.out 3 (by omega) (by omega) (by omega) (by omega))).mono ?_
  rintro e w0 ⟨rfl, rfl⟩
  go_wp2_with fail
  refine (growID_nil _ K (book_nil HA.out 4 (by omega) (by omega) (by omega) (by omega))).mono ?_
  rintro e w0 ⟨rfl, rfl⟩
  go_wp2_with fail
  refine (growPoint_nil _ K (book_nil HA.out 5 (by omega) (by omega) (by omega) (by omega))).mono ?_
  rintro e w0 ⟨rfl, rfl⟩
  go_wp2_with fail
  refine (growBox_nil _ K (book_nil HA.out 6 (by omega) (by omega) (by omega) (by omega))).mono ?_
  rintro e w0 ⟨rfl, rfl⟩
  go_wp2_with fail
  refine (growNear_nil _ K (book_nil HA.out 7 (by omega) (by omega) (by omega) (by omega))).mono ?_
  rintro e w0 ⟨rfl, rfl⟩
  go_wp2_with fail
  refine (growRoad_nil _ K (book_nil HA.out 8 (by omega) (by omega) (by omega) (by omega))).mono ?_
  rintro e w0 ⟨rfl, rfl⟩
  go_wp2_with fail
  refine (growLeg_nil _ K (book_nil HA.out 9 (by omega) (by omega) (by omega) (by omega))).mono ?_
  rintro e w0 ⟨rfl, rfl⟩
  go_wp2_with fail
  refine (growStop_nil _ K (book_nil HA.out 10 (by omega) (by omega) (by omega) (by omega))).mono ?_
  rintro e w0 ⟨rfl, rfl⟩
  go_wp2_with fail
  refine (growWaiting_nil _ K (book_nil HA.out 11 (by omega) (by omega) (by omega) (by omega))).mono ?_
  rintro e w0 ⟨rfl, rfl⟩
  go_wp2_with fail
  refine (growIdle_nil _ K (book_nil HA.out 12 (by omega) (by omega) (by omega) (by omega))).mono ?_
  rintro e w0 ⟨rfl, rfl⟩
  go_wp2_with fail
  refine (growPair_nil _ K (book_nil HA.out 13 (by omega) (by omega) (by omega) (by omega))).mono ?_
  rintro e w0 ⟨rfl, rfl⟩
  go_wp2_with fail
  refine (growEdge_nil _ K (book_nil HA.out 14 (by omega) (by omega) (by omega) (by omega))).mono ?_
  rintro e w0 ⟨rfl, rfl⟩
  go_wp2_with fail
  refine (growJourney_nil _ K (book_nil HA.out 15 (by omega) (by omega) (by omega) (by omega))).mono ?_
  rintro e w0 ⟨rfl, rfl⟩
  go_wp2_with fail
  refine (growStanding_nil _ K (book_nil HA.out 16 (by omega) (by omega) (by omega) (by omega))).mono ?_
  rintro e w0 ⟨rfl, rfl⟩
  go_wp2_with fail
  refine (growEntry_nil _ K (book_nil HA.out 17 (by omega) (by omega) (by omega) (by omega))).mono ?_
  rintro e w0 ⟨rfl, rfl⟩
  go_wp2_with fail
  refine (growTrip_nil _ K (book_nil HA.out 18 (by omega) (by omega) (by omega) (by omega))).mono ?_
  rintro e w0 ⟨rfl, rfl⟩
  go_wp2_with fail
  refine (growReply_nil _ K (book_nil HA.out 19 (by omega) (by omega) (by omega) (by omega))).mono ?_
  rintro e w0 ⟨rfl, rfl⟩
  go_wp2_with fail
  refine (growFrame_any _ K n mF B F fF HA.out (((HB.out.rowF.keep HK1.out (fun g hg ⟨i, hi, h⟩ => HB.out.crossB i hi g h hg)).keep HK2.out (fun g hg ⟨i, hi, h⟩ => (HB.out.keptF.off i hi g h).2 hg)).keep HK3.out (fun g hg h => h.elim (fun h => HB.out.rows g h hg) (fun ⟨i, hi, h⟩ => HB.out.crossB i hi g h hg))) HB.out.keptF (fun i hi => (HM2.out i hi).keep HK3.out (fun g hg h => h.elim (fun h => HB.out.crossF i hi g hg h) (fun ⟨j, hj, h⟩ => HB.out.cross j i hj hi g h hg)))).mono ?_
  rintro e w4 ⟨rfl, LF, hr4, hl4, hk4⟩
  have HR4 := Lib.hid hr4
  have HL4 := Lib.hid hl4
  have HK4 := Lib.hid hk4
  have HA := Lib.hid (show BookAt w4 K n B F from hk4.old HA.out (fun h => h.elim (fun h => HB.out.keptF.book K h rfl) (fun ⟨i, hi, hg⟩ => (HB.out.keptF.off i hi K hg).1 rfl)))
  clear hr4 hl4 hk4
  go_wp2_with fail
  refine (growCommand_nil _ K (book_nil HA.out 21 (by omega) (by omega) (by omega) (by omega))).mono ?_
  rintro e w0 ⟨rfl, rfl⟩
  go_wp2_with fail
  refine (growIntList_nil _ K (book_nil HA.out 22 (by omega) (by omega) (by omega) (by omega))).mono ?_
  rintro e w0 ⟨rfl, rfl⟩
  go_wp2_with fail
  refine (growByteList_nil _ K (book_nil HA.out 23 (by omega) (by omega) (by omega) (by omega))).mono ?_
  rintro e w0 ⟨rfl, rfl⟩
  go_wp2_with fail
  refine (growReplyList_nil _ K (book_nil HA.out 24 (by omega) (by omega) (by omega) (by omega))).mono ?_
  rintro e w0 ⟨rfl, rfl⟩
  go_wp2_with fail
  refine (growRecord_nil _ K (book_nil HA.out 25 (by omega) (by omega) (by omega) (by omega))).mono ?_
  rintro e w0 ⟨rfl, rfl⟩
  go_wp2_with fail
  refine (lookInt_nil _ K (book_nil HA.out 1 (by omega) (by omega) (by omega) (by omega))).mono ?_
  rintro e w0 ⟨rfl, rfl⟩
  go_wp2_with fail
  refine (lookByte_any _ K n mB F B fB LB HA.out (HR3.out.keep HK4.out (fun g hg h => h.elim (fun h => HB.out.rows g hg h) (fun ⟨i, hi, h⟩ => HB.out.crossF i hi g h hg))) HB.out.keptB (fun i hi => ⟨(HL3.out.sees i hi).keep HK4.out (fun g hg h => h.elim (fun h => HB.out.crossB i hi g hg h) (fun ⟨j, hj, h⟩ => HB.out.cross i j hi hj g hg h)), (HL3.out.long i hi).1.sees.keep HK4.out (fun g hg h => ?_)⟩)).mono ?_
  · rcases (HL3.out.long i hi).2 with h1 | ⟨g', h1, h2⟩
    · have hg1 := h1.symm.trans hg
      exact h.elim (fun h => HB.out.crossB i hi g hg1 h) (fun ⟨j, hj, h⟩ => HB.out.cross i j hi hj g hg1 h)
    · rw [hg] at h1; cases h1
      have : g < w.heap.size := h.elim (fun h => HB.out.used_lt (.inr (.inr (.inl h)))) (fun ⟨j, hj, h⟩ => HB.out.used_lt (.inr (.inr (.inr (.inr ⟨j, hj, h⟩)))))
      have := HK1.out.size
      have := HK2.out.size
      omega
  rintro e w5 ⟨rfl, hb5⟩
  have HK5 := Lib.hid (Keep.of_below hb5 (Nat.le_refl _) (fun _ => False))
  have HA := Lib.hid (show BookAt w5 K n B F from HK5.out.old HA.out id)
  clear hb5
  go_wp2_with fail
  refine (lookFloat_nil _ K (book_nil HA.out 3 (by omega) (by omega) (by omega) (by omega))).mono ?_
  rintro e w0 ⟨rfl, rfl⟩
  go_wp2_with fail
  refine (lookID_nil _ K (book_nil HA.out 4 (by omega) (by omega) (by omega) (by omega))).mono ?_
  rintro e w0 ⟨rfl, rfl⟩
  go_wp2_with fail
  refine (lookPoint_nil _ K (book_nil HA.out 5 (by omega) (by omega) (by omega) (by omega))).mono ?_
  rintro e w0 ⟨rfl, rfl⟩
  go_wp2_with fail
  refine (lookBox_nil _ K (book_nil HA.out 6 (by omega) (by omega) (by omega) (by omega))).mono ?_
  rintro e w0 ⟨rfl, rfl⟩
  go_wp2_with fail
  refine (lookNear_nil _ K (book_nil HA.out 7 (by omega) (by omega) (by omega) (by omega))).mono ?_
  rintro e w0 ⟨rfl, rfl⟩
  go_wp2_with fail
  refine (lookRoad_nil _ K (book_nil HA.out 8 (by omega) (by omega) (by omega) (by omega))).mono ?_
  rintro e w0 ⟨rfl, rfl⟩
  go_wp2_with fail
  refine (lookLeg_nil _ K (book_nil HA.out 9 (by omega) (by omega) (by omega) (by omega))).mono ?_
  rintro e w0 ⟨rfl, rfl⟩
  go_wp2_with fail
  refine (lookStop_nil _ K (book_nil HA.out 10 (by omega) (by omega) (by omega) (by omega))).mono ?_
  rintro e w0 ⟨rfl, rfl⟩
  go_wp2_with fail
  refine (lookWaiting_nil _ K (book_nil HA.out 11 (by omega) (by omega) (by omega) (by omega))).mono ?_
  rintro e w0 ⟨rfl, rfl⟩
  go_wp2_with fail
  refine (lookIdle_nil _ K (book_nil HA.out 12 (by omega) (by omega) (by omega) (by omega))).mono ?_
  rintro e w0 ⟨rfl, rfl⟩
  go_wp2_with fail
  refine (lookPair_nil _ K (book_nil HA.out 13 (by omega) (by omega) (by omega) (by omega))).mono ?_
  rintro e w0 ⟨rfl, rfl⟩
  go_wp2_with fail
  refine (lookEdge_nil _ K (book_nil HA.out 14 (by omega) (by omega) (by omega) (by omega))).mono ?_
  rintro e w0 ⟨rfl, rfl⟩
  go_wp2_with fail
  refine (lookJourney_nil _ K (book_nil HA.out 15 (by omega) (by omega) (by omega) (by omega))).mono ?_
  rintro e w0 ⟨rfl, rfl⟩
  go_wp2_with fail
  refine (lookStanding_nil _ K (book_nil HA.out 16 (by omega) (by omega) (by omega) (by omega))).mono ?_
  rintro e w0 ⟨rfl, rfl⟩
  go_wp2_with fail
  refine (lookEntry_nil _ K (book_nil HA.out 17 (by omega) (by omega) (by omega) (by omega))).mono ?_
  rintro e w0 ⟨rfl, rfl⟩
  go_wp2_with fail
  refine (lookTrip_nil _ K (book_nil HA.out 18 (by omega) (by omega) (by omega) (by omega))).mono ?_
  rintro e w0 ⟨rfl, rfl⟩
  go_wp2_with fail
  refine (lookReply_nil _ K (book_nil HA.out 19 (by omega) (by omega) (by omega) (by omega))).mono ?_
  rintro e w0 ⟨rfl, rfl⟩
  go_wp2_with fail
  refine (lookFrame_any _ K n mF B F fF LF HA.out (HR4.out.keep HK5.out (fun _ _ => id)) HB.out.keptF (fun i hi => ⟨(HL4.out.sees i hi).keep HK5.out (fun _ _ => id), (HL4.out.long i hi).1.sees.keep HK5.out (fun _ _ => id)⟩)).mono ?_
  rintro e w6 ⟨rfl, hb6⟩
  have HK6 := Lib.hid (Keep.of_below hb6 (Nat.le_refl _) (fun _ => False))
  have HA := Lib.hid (show BookAt w6 K n B F from HK6.out.old HA.out id)
  clear hb6
  go_wp2_with fail
  refine (lookCommand_nil _ K (book_nil HA.out 21 (by omega) (by omega) (by omega) (by omega))).mono ?_
  rintro e w0 ⟨rfl, rfl⟩
  go_wp2_with fail
  refine (lookIntList_nil _ K (book_nil HA.out 22 (by omega) (by omega) (by omega) (by omega))).mono ?_
  rintro e w0 ⟨rfl, rfl⟩
  go_wp2_with fail
  refine (lookByteList_nil _ K (book_nil HA.out 23 (by omega) (by omega) (by omega) (by omega))).mono ?_
  rintro e w0 ⟨rfl, rfl⟩
  go_wp2_with fail
  refine (lookReplyList_nil _ K (book_nil HA.out 24 (by omega) (by omega) (by omega) (by omega))).mono ?_
  rintro e w0 ⟨rfl, rfl⟩
  go_wp2_with fail
  refine (lookRecord_nil _ K (book_nil HA.out 25 (by omega) (by omega) (by omega) (by omega))).mono ?_
  rintro e w0 ⟨rfl, rfl⟩
  go_wp2_with fail
  go_ret
  refine ⟨rfl, ?_⟩
  have u1 : Keep (Used K B F mB fB mF fF) w w1 := HK1.out.mono (fun _ _ ⟨i, hi, h⟩ => .inr (.inr (.inr (.inl ⟨i, hi, h⟩))))
  have u2 : Keep (Used K B F mB fB mF fF) w w2 := u1.trans HK2.out (fun _ _ h => h) (fun _ _ ⟨i, hi, h⟩ => .inr (.inr (.inr (.inr ⟨i, hi, h⟩))))
  have u3 : Keep (Used K B F mB fB mF fF) w w3 := u2.trans HK3.out (fun _ _ h => h) (fun _ _ h => h.elim (fun h => .inr (.inl h)) (fun ⟨i, hi, h⟩ => .inr (.inr (.inr (.inl ⟨i, hi, h⟩)))))
  have u4 : Keep (Used K B F mB fB mF fF) w w4 := u3.trans HK4.out (fun _ _ h => h) (fun _ _ h => h.elim (fun h => .inr (.inr (.inl h))) (fun ⟨i, hi, h⟩ => .inr (.inr (.inr (.inr ⟨i, hi, h⟩)))))
  exact (u4.trans HK5.out (fun _ _ h => h) (fun _ _ h => h.elim)).trans HK6.out (fun _ _ h => h) (fun _ _ h => h.elim)
end Go.Proofs.YtmblghdiejneoaaGreat
