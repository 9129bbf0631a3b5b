/- The record's error, in the reference of chapter 20 and in the program. Printed by wip/genrecck.py. -/
import Derived.Test.YtcaicgipibcicaaGreatQSame2
import Derived.Test.YtcaicgipibcicaaGreatQHeldTail
set_option maxRecDepth 100000
set_option maxHeartbeats 16000000
set_option linter.unusedSimpArgs false
set_option linter.unusedVariables false
open Go renaming lt_of_block→yK
open Go.Lib renaming hid→yA
open List renaming getElem?_eq_getElem→yC
open Nat renaming le_refl→yB,zero_le→yQ
namespace Go.Proofs.YtcaicgipibcicaaGreat
open Go.RowKit Go.Sort
theorem wW (w:World) (v:RV) (hin:v.In w):Calls Tryz.prog 54 #[.agg #[.int .i64 v.x.tick,.slice v.wo v.wn v.wc,.slice v.ko v.kn v.kc,.int .i64 v.x.rows,.int .i64 v.x.cols,.slice v.eo v.en v.ec,.slice v.po v.pn v.pc,.slice v.yo v.yn v.yc,.slice v.zo v.zn v.zc]] w fun e w'=>e = .returned (.int .i64 (bw v.x))∧Below w.heap.size w w':=by
 have HIN:=yA hin;have wb:=hin.wb;have kb:=hin.kb;have eb:=hin.eb;have pb:=hin.pb;have yb:=hin.yb;have zb:=hin.zb;clear hin;have HW:=yA (ee.begin w v);have hcase:(v.x.tick<1∨(1≤v.x.tick∧1099511627776<v.x.tick)∨(1≤v.x.tick∧v.x.tick≤1099511627776∧64<v.wn)∨(1≤v.x.tick∧v.x.tick≤1099511627776∧v.wn≤64∧64<v.kn))∨(1≤v.x.tick∧v.x.tick≤1099511627776∧v.wn≤64∧v.kn≤64):=by omega
 rcases hcase with h | ⟨c1,c2,c3,c4⟩
 · have HF:=yA (rQ (x:=v.x) (decide_eq_false (by rw [HIN.out.wl,HIN.out.kl];omega)))
   rcases h with c1 | ⟨c1,c2⟩ | ⟨c1,c2,c3⟩ | ⟨c1,c2,c3,c4⟩
   all_goals as_aux_lemma=>
    go_enter Tryz.func54,Tryz.ntmps54
    go_wp2_with fail
    all_goals
     go_ret
     exact ⟨by rw [HF.out];rfl,HW.out.below⟩
 have HS1:=yA (show et v.x=true from decide_eq_true (by rw [HIN.out.wl,HIN.out.kl];omega));go_enter Tryz.func54,Tryz.ntmps54
 go_wp2_with fail
 generalize w.alloc (.cells #[.int .i64 v.x.tick,.slice v.wo v.wn v.wc,.slice v.ko v.kn v.kc,.int .i64 v.x.rows,.int .i64 v.x.cols,.slice v.eo v.en v.ec,.slice v.po v.pn v.pc,.slice v.yo v.yn v.yc,.slice v.zo v.zn v.zc] 34)=W at *;have HHE:=yA (show ∃ H0,w.heap.size=H0 from ⟨_,rfl⟩);obtain ⟨H0,hH0⟩:=HHE.out;rw [hH0] at HW;rw [hH0];have HH:=yA hH0;clear hH0 HHE;go_loopw [3,4] (fun a i wr=>Hid (∃ k:Nat,a = .int .i64 (ir v.x.ws k)∧i = .int .i64 k∧k≤v.wn∧(∀ j,j<k→jM v.x.tick v.x.ws j=true)∧ee w v H0 wr)) (fun _ i _=>v.wn - (intOf i).toNat)
 case atStart=>exact yA ⟨0,rfl,rfl,yQ _,bB,HW.out⟩
 case round=>
  obtain ⟨k,rfl,rfl,hk,hall,hrel1⟩:=hrel.out;clear hrel;obtain ⟨g0,g1,g2,g3,g4,g5,g6,g7,g8⟩:=cells9 hrel1.g;have hs0:H0<wr.heap.size:=yK hrel1.g;have HR1:=yA hrel1;have HALL:=yA hall;clear hrel1 hall;by_cases hlt:k<v.wn
  · obtain ⟨x,hx⟩:∃ x,v.x.ws[k]?=some x:=⟨v.x.ws[k]'(by rw [HIN.out.wl];exact hlt),yC _⟩
    obtain ⟨b,o,hbo,_⟩:=HIN.out.wr.place (by rw [cellsOf_length _ 18 ad.cells_length,HIN.out.wl];omega);have hrd:=HIN.out.wr.keep (Keep.of_below HR1.out.below (yB _) (fun _=>False)) (fun _ _ _=>id);rw [hbo] at hrd;rw [hbo] at g1;have HCE:=yA (bS hrd hx);have HX:=yA hx;have HP:=yA (gT hx);have HBAD:=yA (fun h=>o9 HS1.out (jO hx h));have HEQ:=yA (dO (tick:=v.x.tick) hx);clear hx hrd hbo;generalize ir v.x.ws k=pv at *;have hc2:x.number≤pv∨(pv<x.number∧x.since<0)∨(pv<x.number∧0≤x.since∧v.x.tick<x.since)∨(pv<x.number∧0≤x.since∧x.since≤v.x.tick):=by omega
    rcases hc2 with h1 | ⟨h1,h2⟩ | ⟨h1,h2,h3⟩ | ⟨h1,h2,h3⟩
    · have HF:=yA (HBAD.out (by omega))
      go_wp2_with (first | ((with_reducible refine aa (o:=⟨some 38,_,_,_,_,_⟩) ?_ 79 (.tmp 37) ?_ b (o+k*18) ?_ x.cells #[.int .u8 x.r.i0,.int .u8 x.r.i1,.int .u8 x.r.i2,.int .u8 x.r.i3,.int .u8 x.r.i4,.int .u8 x.r.i5,.int .u8 x.r.i6,.int .u8 x.r.i7,.int .i16 x.r.fx,.int .i16 x.r.fy,.int .i16 x.r.tx,.int .i16 x.r.ty,.int .u8 x.r.seats,.int .u8 x.r.classes,.int .i64 x.r.base,.int .i64 x.r.ttl,.int .i64 x.since,.int .i64 x.number] ?_ _ HCE.out Tryz.underlying79 ?_ ?_ ?_);rfl;rfl;rfl;rfl;rfl;exact aK) | ((with_reducible refine ah (o:=⟨none,.store 79 (.tmp 5) (.tmp 38),_,_,_,_⟩) ?_ 79 (.tmp 5) (.tmp 38) ?_ _ #[.int .u8 x.r.i0,.int .u8 x.r.i1,.int .u8 x.r.i2,.int .u8 x.r.i3,.int .u8 x.r.i4,.int .u8 x.r.i5,.int .u8 x.r.i6,.int .u8 x.r.i7,.int .i16 x.r.fx,.int .i16 x.r.fy,.int .i16 x.r.tx,.int .i16 x.r.ty,.int .u8 x.r.seats,.int .u8 x.r.classes,.int .i64 x.r.base,.int .i64 x.r.ttl,.int .i64 x.since,.int .i64 x.number] ?_ ?_ x.cells ?_ ?_ ?_ x.cells_one ?_);rfl;rfl;rfl;rfl;rfl;exact aK;rfl))
      go_ret
      exact ⟨by rw [HF.out];rfl,(HR1.out.one _).below⟩
    · have HF:=yA (HBAD.out (by omega))
      go_wp2_with (first | ((with_reducible refine aa (o:=⟨some 38,_,_,_,_,_⟩) ?_ 79 (.tmp 37) ?_ b (o+k*18) ?_ x.cells #[.int .u8 x.r.i0,.int .u8 x.r.i1,.int .u8 x.r.i2,.int .u8 x.r.i3,.int .u8 x.r.i4,.int .u8 x.r.i5,.int .u8 x.r.i6,.int .u8 x.r.i7,.int .i16 x.r.fx,.int .i16 x.r.fy,.int .i16 x.r.tx,.int .i16 x.r.ty,.int .u8 x.r.seats,.int .u8 x.r.classes,.int .i64 x.r.base,.int .i64 x.r.ttl,.int .i64 x.since,.int .i64 x.number] ?_ _ HCE.out Tryz.underlying79 ?_ ?_ ?_);rfl;rfl;rfl;rfl;rfl;exact aK) | ((with_reducible refine ah (o:=⟨none,.store 79 (.tmp 5) (.tmp 38),_,_,_,_⟩) ?_ 79 (.tmp 5) (.tmp 38) ?_ _ #[.int .u8 x.r.i0,.int .u8 x.r.i1,.int .u8 x.r.i2,.int .u8 x.r.i3,.int .u8 x.r.i4,.int .u8 x.r.i5,.int .u8 x.r.i6,.int .u8 x.r.i7,.int .i16 x.r.fx,.int .i16 x.r.fy,.int .i16 x.r.tx,.int .i16 x.r.ty,.int .u8 x.r.seats,.int .u8 x.r.classes,.int .i64 x.r.base,.int .i64 x.r.ttl,.int .i64 x.since,.int .i64 x.number] ?_ ?_ x.cells ?_ ?_ ?_ x.cells_one ?_);rfl;rfl;rfl;rfl;rfl;exact aK;rfl))
      go_ret
      exact ⟨by rw [HF.out];rfl,(HR1.out.one _).below⟩
    · have HF:=yA (HBAD.out (by omega))
      go_wp2_with (first | ((with_reducible refine aa (o:=⟨some 38,_,_,_,_,_⟩) ?_ 79 (.tmp 37) ?_ b (o+k*18) ?_ x.cells #[.int .u8 x.r.i0,.int .u8 x.r.i1,.int .u8 x.r.i2,.int .u8 x.r.i3,.int .u8 x.r.i4,.int .u8 x.r.i5,.int .u8 x.r.i6,.int .u8 x.r.i7,.int .i16 x.r.fx,.int .i16 x.r.fy,.int .i16 x.r.tx,.int .i16 x.r.ty,.int .u8 x.r.seats,.int .u8 x.r.classes,.int .i64 x.r.base,.int .i64 x.r.ttl,.int .i64 x.since,.int .i64 x.number] ?_ _ HCE.out Tryz.underlying79 ?_ ?_ ?_);rfl;rfl;rfl;rfl;rfl;exact aK) | ((with_reducible refine ah (o:=⟨none,.store 79 (.tmp 5) (.tmp 38),_,_,_,_⟩) ?_ 79 (.tmp 5) (.tmp 38) ?_ _ #[.int .u8 x.r.i0,.int .u8 x.r.i1,.int .u8 x.r.i2,.int .u8 x.r.i3,.int .u8 x.r.i4,.int .u8 x.r.i5,.int .u8 x.r.i6,.int .u8 x.r.i7,.int .i16 x.r.fx,.int .i16 x.r.fy,.int .i16 x.r.tx,.int .i16 x.r.ty,.int .u8 x.r.seats,.int .u8 x.r.classes,.int .i64 x.r.base,.int .i64 x.r.ttl,.int .i64 x.since,.int .i64 x.number] ?_ ?_ x.cells ?_ ?_ ?_ x.cells_one ?_);rfl;rfl;rfl;rfl;rfl;exact aK;rfl))
      go_ret
      exact ⟨by rw [HF.out];rfl,(HR1.out.one _).below⟩
    · have HA:=yA (aX HALL.out (show jM v.x.tick v.x.ws k=true by rw [HEQ.out];exact decide_eq_true (by omega)))
      have HN:=yA (HR1.out.one (.cells #[.int .u8 x.r.i0,.int .u8 x.r.i1,.int .u8 x.r.i2,.int .u8 x.r.i3,.int .u8 x.r.i4,.int .u8 x.r.i5,.int .u8 x.r.i6,.int .u8 x.r.i7,.int .i16 x.r.fx,.int .i16 x.r.fy,.int .i16 x.r.tx,.int .i16 x.r.ty,.int .u8 x.r.seats,.int .u8 x.r.classes,.int .i64 x.r.base,.int .i64 x.r.ttl,.int .i64 x.since,.int .i64 x.number] 79));go_wp2_with (first | ((with_reducible refine aa (o:=⟨some 38,_,_,_,_,_⟩) ?_ 79 (.tmp 37) ?_ b (o+k*18) ?_ x.cells #[.int .u8 x.r.i0,.int .u8 x.r.i1,.int .u8 x.r.i2,.int .u8 x.r.i3,.int .u8 x.r.i4,.int .u8 x.r.i5,.int .u8 x.r.i6,.int .u8 x.r.i7,.int .i16 x.r.fx,.int .i16 x.r.fy,.int .i16 x.r.tx,.int .i16 x.r.ty,.int .u8 x.r.seats,.int .u8 x.r.classes,.int .i64 x.r.base,.int .i64 x.r.ttl,.int .i64 x.since,.int .i64 x.number] ?_ _ HCE.out Tryz.underlying79 ?_ ?_ ?_);rfl;rfl;rfl;rfl;rfl;exact aK) | ((with_reducible refine ah (o:=⟨none,.store 79 (.tmp 5) (.tmp 38),_,_,_,_⟩) ?_ 79 (.tmp 5) (.tmp 38) ?_ _ #[.int .u8 x.r.i0,.int .u8 x.r.i1,.int .u8 x.r.i2,.int .u8 x.r.i3,.int .u8 x.r.i4,.int .u8 x.r.i5,.int .u8 x.r.i6,.int .u8 x.r.i7,.int .i16 x.r.fx,.int .i16 x.r.fy,.int .i16 x.r.tx,.int .i16 x.r.ty,.int .u8 x.r.seats,.int .u8 x.r.classes,.int .i64 x.r.base,.int .i64 x.r.ttl,.int .i64 x.since,.int .i64 x.number] ?_ ?_ x.cells ?_ ?_ ?_ x.cells_one ?_);rfl;rfl;rfl;rfl;rfl;exact aK;rfl))
      go_roundw
      case rel=>exact yA ⟨k+1,by rw [HP.out],by go_num,by omega,HA.out,HN.out⟩
      case measure=>simp [intOf];omega
  · obtain rfl:v.wn=k:=by omega
    have HS2:=yA (show dI v.x=true from aU (fun j hj=>HALL.out j (by rw [HIN.out.wl] at hj;exact hj)));clear HALL hlt hk
    as_aux_lemma=>
     go_wp2_with fail
     go_loopw [3,6] (fun a i wr=>Hid (∃ k:Nat,a = .int .i64 (iu v.x.ds k)∧i = .int .i64 k∧k≤v.kn∧(∀ j,j<k→jN v.x.ds j=true)∧ee w v H0 wr)) (fun _ i _=>v.kn - (intOf i).toNat)
     case atStart=>exact yA ⟨0,rfl,rfl,yQ _,bB,HR1.out⟩
     case round=>
      clear g0 g1 g2 g3 g4 g5 g6 g7 g8 hs0;obtain ⟨k,rfl,rfl,hk,hall,hrel1⟩:=hrel.out;clear hrel;obtain ⟨g0,g1,g2,g3,g4,g5,g6,g7,g8⟩:=cells9 hrel1.g;have hs0:H0<wr.heap.size:=yK hrel1.g;have HR2:=yA hrel1;have HALL:=yA hall;clear hrel1 hall;by_cases hlt:k<v.kn
      · obtain ⟨x,hx⟩:∃ x,v.x.ds[k]?=some x:=⟨v.x.ds[k]'(by rw [HIN.out.kl];exact hlt),yC _⟩
        obtain ⟨b,o,hbo,_⟩:=HIN.out.kr.place (by rw [cellsOf_length _ 14 ak.cells_length,HIN.out.kl];omega);have hrd:=HIN.out.kr.keep (Keep.of_below HR2.out.below (yB _) (fun _=>False)) (fun _ _ _=>id);rw [hbo] at hrd;rw [hbo] at g2;obtain ⟨k0,k1,k2,k3,k4,k5,k6,k7,k8,k9,k10,k11,k12,k13⟩:=th hrd hx;have HX:=yA hx;have HP:=yA (gU hx);have HBAD:=yA (fun h=>rR HS1.out HS2.out (mV hx h));have HEQ:=yA (fp hx);clear hx hrd hbo;generalize iu v.x.ds k=pv at *;by_cases h1:x.number≤pv
        · have HF:=yA (HBAD.out (by omega))
          go_wp2_with fail
          go_ret
          exact ⟨by rw [HF.out];rfl,HR2.out.below⟩
        · have h1':pv<x.number:=by omega
          have HA:=yA (aX HALL.out (show jN v.x.ds k=true by rw [HEQ.out];exact decide_eq_true h1'));have HN:=HR2;clear h1;go_wp2_with fail
          go_roundw
          case rel=>exact yA ⟨k+1,by rw [HP.out],by go_num,by omega,HA.out,HN.out⟩
          case measure=>simp [intOf];omega
      · obtain rfl:v.kn=k:=by omega
        have HS3:=yA (show dY v.x=true from aU (fun j hj=>HALL.out j (by rw [HIN.out.kl] at hj;exact hj)));clear HALL hlt hk;have HIW:=yA (HIN.out.keep HR2.out.below);have HSH:=yA (show dm v.x=(aQ v.x.rows v.x.cols v.x.es && decide (v.x.rows=v.wn) && decide (v.x.cols=v.kn)) by unfold dm;rw [HIN.out.wl,HIN.out.kl]);go_wp2_with fail
        refine (uw wr v.x.rows v.x.cols v.eo v.en v.ec v.x.es HIW.out.el HIW.out.er (by omega)).mono ?_;rintro e w1 ⟨rfl,hb1⟩;have HR3:=yA (HR2.out.keep hb1);clear hb1 HIW g0 g1 g2 g3 g4 g5 g6 g7 g8 hs0;obtain ⟨g0,g1,g2,g3,g4,g5,g6,g7,g8⟩:=cells9 HR3.out.g;cases hgf:aQ v.x.rows v.x.cols v.x.es with
        | false=>
          have HF:=yA (gV HS1.out HS2.out HS3.out (by rw [HSH.out,hgf];rfl));rw [show gr v.x.rows v.x.cols v.x.es=false by simp [gr,aY,hgf]];clear hgf;go_wp2_with fail
          go_ret
          exact ⟨by rw [HF.out];rfl,HR3.out.below⟩
        | true=>
          rw [show gr v.x.rows v.x.cols v.x.es=true by simp [gr,aY,hgf]];rw [hgf] at HSH;have HGF:=yA hgf;clear hgf;by_cases h5:v.x.rows=v.wn
          · by_cases h6:v.x.cols=v.kn
            · have HS4:=yA (show dm v.x=true by rw [HSH.out,decide_eq_true h5,decide_eq_true h6];rfl)
              have b5:(v.x.rows != (v.wn:Int))=false:=by simp [h5]
              have b6:(v.x.cols != (v.kn:Int))=false:=by simp [h6]
              clear h5 h6;go_wp2_with fail
              have HIW:=yA (HIN.out.keep HR3.out.below)
              as_aux_lemma=>
               refine (nP w1 v.x.rows v.x.cols v.eo v.po v.en v.ec v.pn v.pc v.x.es v.x.ps HGF.out HIW.out.el HIW.out.er (by omega) HIW.out.pl HIW.out.pr (by omega)).mono ?_;rintro e w2 ⟨rfl,hb2⟩;have HR4:=yA (HR3.out.keep hb2);clear hb2 HIW g0 g1 g2 g3 g4 g5 g6 g7 g8;obtain ⟨g0,g1,g2,g3,g4,g5,g6,g7,g8⟩:=cells9 HR4.out.g;cases hm:cw v.x.es v.x.ps with
               | false=>
                 have HF:=yA (rS HS1.out HS2.out HS3.out HS4.out hm);clear hm;go_wp2_with fail
                 go_ret
                 exact ⟨by rw [HF.out];rfl,HR4.out.below⟩
               | true=>
                 have HS5:=yA hm;clear hm
                 as_aux_lemma=>
                  have HLB:=yA (show bH v.x.rows v.x.cols v.x.ys v.x.zs=(decide ((v.yn:Int)=v.x.rows) && decide ((v.zn:Int)=v.x.cols)) by unfold bH;rw [HIN.out.yl,HIN.out.zl]);by_cases h7:(v.yn:Int)=v.x.rows
                  · have b7:((v.yn:Int) != v.x.rows)=false:=by simp [h7]
                    by_cases h8:(v.zn:Int)=v.x.cols
                    · have HF:=yA (rT HS1.out HS2.out HS3.out HS4.out HS5.out (by rw [HLB.out,decide_eq_true h7,decide_eq_true h8];rfl))
                      have b8:((v.zn:Int) != v.x.cols)=false:=by simp [h8]
                      clear h7 h8;go_wp2_with fail
                      go_ret
                      exact ⟨by rw [HF.out];rfl,HR4.out.below⟩
                    · have HF:=yA (la HS1.out HS2.out HS3.out HS4.out HS5.out (by rw [HLB.out,decide_eq_false h8];simp))
                      have b8:((v.zn:Int) != v.x.cols)=true:=by simp [h8]
                      clear h7 h8;go_wp2_with fail
                      go_ret
                      exact ⟨by rw [HF.out];rfl,HR4.out.below⟩
                  · have HF:=yA (la HS1.out HS2.out HS3.out HS4.out HS5.out (by rw [HLB.out,decide_eq_false h7];simp))
                    have b7:((v.yn:Int) != v.x.rows)=true:=by simp [h7]
                    clear h7;go_wp2_with fail
                    go_ret
                    exact ⟨by rw [HF.out];rfl,HR4.out.below⟩
            · have HF:=yA (gV HS1.out HS2.out HS3.out (by rw [HSH.out,decide_eq_false h6];simp))
              have b5:(v.x.rows != (v.wn:Int))=false:=by simp [h5]
              have b6:(v.x.cols != (v.kn:Int))=true:=by simp [h6]
              clear h5 h6;go_wp2_with fail
              go_ret
              exact ⟨by rw [HF.out];rfl,HR3.out.below⟩
          · have HF:=yA (gV HS1.out HS2.out HS3.out (by rw [HSH.out,decide_eq_false h5];simp))
            have b5:(v.x.rows != (v.wn:Int))=true:=by simp [h5]
            clear h5;go_wp2_with fail
            go_ret
            exact ⟨by rw [HF.out];rfl,HR3.out.below⟩
theorem nA (w:World) (v:RV) (hin:v.In w):Calls Tryz.prog 125 #[.agg #[.int .i64 v.x.tick,.slice v.wo v.wn v.wc,.slice v.ko v.kn v.kc,.int .i64 v.x.rows,.int .i64 v.x.cols,.slice v.eo v.en v.ec,.slice v.po v.pn v.pc,.slice v.yo v.yn v.yc,.slice v.zo v.zn v.zc]] w fun e w'=>e = .returned (.int .i64 (bw v.x))∧Below w.heap.size w w':=by
 have HIN:=yA hin;have wb:=hin.wb;have kb:=hin.kb;have eb:=hin.eb;have pb:=hin.pb;have yb:=hin.yb;have zb:=hin.zb;clear hin;have HW:=yA (ee.begin w v);have hcase:(v.x.tick<1∨(1≤v.x.tick∧1099511627776<v.x.tick)∨(1≤v.x.tick∧v.x.tick≤1099511627776∧64<v.wn)∨(1≤v.x.tick∧v.x.tick≤1099511627776∧v.wn≤64∧64<v.kn))∨(1≤v.x.tick∧v.x.tick≤1099511627776∧v.wn≤64∧v.kn≤64):=by omega
 rcases hcase with h | ⟨c1,c2,c3,c4⟩
 · have HF:=yA (rQ (x:=v.x) (decide_eq_false (by rw [HIN.out.wl,HIN.out.kl];omega)))
   rcases h with c1 | ⟨c1,c2⟩ | ⟨c1,c2,c3⟩ | ⟨c1,c2,c3,c4⟩
   all_goals as_aux_lemma=>
    go_enter Tryz.func125,Tryz.ntmps125
    go_wp2_with fail
    all_goals
     go_ret
     exact ⟨by rw [HF.out];rfl,HW.out.below⟩
 have HS1:=yA (show et v.x=true from decide_eq_true (by rw [HIN.out.wl,HIN.out.kl];omega));go_enter Tryz.func125,Tryz.ntmps125
 go_wp2_with fail
 generalize w.alloc (.cells #[.int .i64 v.x.tick,.slice v.wo v.wn v.wc,.slice v.ko v.kn v.kc,.int .i64 v.x.rows,.int .i64 v.x.cols,.slice v.eo v.en v.ec,.slice v.po v.pn v.pc,.slice v.yo v.yn v.yc,.slice v.zo v.zn v.zc] 34)=W at *;have HHE:=yA (show ∃ H0,w.heap.size=H0 from ⟨_,rfl⟩);obtain ⟨H0,hH0⟩:=HHE.out;rw [hH0] at HW;rw [hH0];have HH:=yA hH0;clear hH0 HHE;obtain ⟨wo,hwo⟩:∃ wo,v.wo=wo:=⟨_,rfl⟩;rw [hwo];have HWO:=yA hwo;clear hwo;go_loopw [3,32] (fun a i wr=>Hid (∃ k:Nat,a = .int .i64 (ir v.x.ws k)∧i = .int .i64 k∧k≤v.wn∧(∀ j,j<k→jM v.x.tick v.x.ws j=true)∧ee w v H0 wr)) (fun _ i _=>v.wn - (intOf i).toNat)
 case atStart=>exact yA ⟨0,rfl,rfl,yQ _,bB,HW.out⟩
 case round=>
  obtain ⟨k,rfl,rfl,hk,hall,hrel1⟩:=hrel.out;clear hrel;obtain ⟨g0,g1,g2,g3,g4,g5,g6,g7,g8⟩:=cells9 hrel1.g;have hs0:H0<wr.heap.size:=yK hrel1.g;have HR1:=yA hrel1;have HALL:=yA hall;clear hrel1 hall;by_cases hlt:k<v.wn
  · obtain ⟨x,hx⟩:∃ x,v.x.ws[k]?=some x:=⟨v.x.ws[k]'(by rw [HIN.out.wl];exact hlt),yC _⟩
    obtain ⟨b,o,hbo,_⟩:=HIN.out.wr.place (by rw [cellsOf_length _ 18 ad.cells_length,HIN.out.wl];omega);have hrd:=HIN.out.wr.keep (Keep.of_below HR1.out.below (yB _) (fun _=>False)) (fun _ _ _=>id);rw [hbo] at hrd;obtain rfl:wo=some ⟨b,o,none⟩:=by rw [←HWO.out];exact hbo
    have HCE:=yA (bS hrd hx);have HX:=yA hx;have HP:=yA (gT hx);have HBAD:=yA (fun h=>o9 HS1.out (jO hx h));have HEQ:=yA (dO (tick:=v.x.tick) hx);clear hx hrd hbo;generalize ir v.x.ws k=pv at *;have hc2:x.number≤pv∨(pv<x.number∧x.since<0)∨(pv<x.number∧0≤x.since∧v.x.tick<x.since)∨(pv<x.number∧0≤x.since∧x.since≤v.x.tick):=by omega
    rcases hc2 with h1 | ⟨h1,h2⟩ | ⟨h1,h2,h3⟩ | ⟨h1,h2,h3⟩
    · have HF:=yA (HBAD.out (by omega))
      go_wp2_with (first | ((with_reducible refine aa (o:=⟨some 35,_,_,_,_,_⟩) ?_ 79 (.tmp 34) ?_ b (o+k*18) ?_ x.cells #[.int .u8 x.r.i0,.int .u8 x.r.i1,.int .u8 x.r.i2,.int .u8 x.r.i3,.int .u8 x.r.i4,.int .u8 x.r.i5,.int .u8 x.r.i6,.int .u8 x.r.i7,.int .i16 x.r.fx,.int .i16 x.r.fy,.int .i16 x.r.tx,.int .i16 x.r.ty,.int .u8 x.r.seats,.int .u8 x.r.classes,.int .i64 x.r.base,.int .i64 x.r.ttl,.int .i64 x.since,.int .i64 x.number] ?_ _ HCE.out Tryz.underlying79 ?_ ?_ ?_);rfl;rfl;rfl;rfl;rfl;exact aK) | ((with_reducible refine ah (o:=⟨none,.store 79 (.tmp 5) (.tmp 35),_,_,_,_⟩) ?_ 79 (.tmp 5) (.tmp 35) ?_ _ #[.int .u8 x.r.i0,.int .u8 x.r.i1,.int .u8 x.r.i2,.int .u8 x.r.i3,.int .u8 x.r.i4,.int .u8 x.r.i5,.int .u8 x.r.i6,.int .u8 x.r.i7,.int .i16 x.r.fx,.int .i16 x.r.fy,.int .i16 x.r.tx,.int .i16 x.r.ty,.int .u8 x.r.seats,.int .u8 x.r.classes,.int .i64 x.r.base,.int .i64 x.r.ttl,.int .i64 x.since,.int .i64 x.number] ?_ ?_ x.cells ?_ ?_ ?_ x.cells_one ?_);rfl;rfl;rfl;rfl;rfl;exact aK;rfl))
      go_ret
      exact ⟨by rw [HF.out];rfl,(HR1.out.one _).below⟩
    · have HF:=yA (HBAD.out (by omega))
      go_wp2_with (first | ((with_reducible refine aa (o:=⟨some 35,_,_,_,_,_⟩) ?_ 79 (.tmp 34) ?_ b (o+k*18) ?_ x.cells #[.int .u8 x.r.i0,.int .u8 x.r.i1,.int .u8 x.r.i2,.int .u8 x.r.i3,.int .u8 x.r.i4,.int .u8 x.r.i5,.int .u8 x.r.i6,.int .u8 x.r.i7,.int .i16 x.r.fx,.int .i16 x.r.fy,.int .i16 x.r.tx,.int .i16 x.r.ty,.int .u8 x.r.seats,.int .u8 x.r.classes,.int .i64 x.r.base,.int .i64 x.r.ttl,.int .i64 x.since,.int .i64 x.number] ?_ _ HCE.out Tryz.underlying79 ?_ ?_ ?_);rfl;rfl;rfl;rfl;rfl;exact aK) | ((with_reducible refine ah (o:=⟨none,.store 79 (.tmp 5) (.tmp 35),_,_,_,_⟩) ?_ 79 (.tmp 5) (.tmp 35) ?_ _ #[.int .u8 x.r.i0,.int .u8 x.r.i1,.int .u8 x.r.i2,.int .u8 x.r.i3,.int .u8 x.r.i4,.int .u8 x.r.i5,.int .u8 x.r.i6,.int .u8 x.r.i7,.int .i16 x.r.fx,.int .i16 x.r.fy,.int .i16 x.r.tx,.int .i16 x.r.ty,.int .u8 x.r.seats,.int .u8 x.r.classes,.int .i64 x.r.base,.int .i64 x.r.ttl,.int .i64 x.since,.int .i64 x.number] ?_ ?_ x.cells ?_ ?_ ?_ x.cells_one ?_);rfl;rfl;rfl;rfl;rfl;exact aK;rfl))
      go_ret
      exact ⟨by rw [HF.out];rfl,(HR1.out.one _).below⟩
    · have HF:=yA (HBAD.out (by omega))
      go_wp2_with (first | ((with_reducible refine aa (o:=⟨some 35,_,_,_,_,_⟩) ?_ 79 (.tmp 34) ?_ b (o+k*18) ?_ x.cells #[.int .u8 x.r.i0,.int .u8 x.r.i1,.int .u8 x.r.i2,.int .u8 x.r.i3,.int .u8 x.r.i4,.int .u8 x.r.i5,.int .u8 x.r.i6,.int .u8 x.r.i7,.int .i16 x.r.fx,.int .i16 x.r.fy,.int .i16 x.r.tx,.int .i16 x.r.ty,.int .u8 x.r.seats,.int .u8 x.r.classes,.int .i64 x.r.base,.int .i64 x.r.ttl,.int .i64 x.since,.int .i64 x.number] ?_ _ HCE.out Tryz.underlying79 ?_ ?_ ?_);rfl;rfl;rfl;rfl;rfl;exact aK) | ((with_reducible refine ah (o:=⟨none,.store 79 (.tmp 5) (.tmp 35),_,_,_,_⟩) ?_ 79 (.tmp 5) (.tmp 35) ?_ _ #[.int .u8 x.r.i0,.int .u8 x.r.i1,.int .u8 x.r.i2,.int .u8 x.r.i3,.int .u8 x.r.i4,.int .u8 x.r.i5,.int .u8 x.r.i6,.int .u8 x.r.i7,.int .i16 x.r.fx,.int .i16 x.r.fy,.int .i16 x.r.tx,.int .i16 x.r.ty,.int .u8 x.r.seats,.int .u8 x.r.classes,.int .i64 x.r.base,.int .i64 x.r.ttl,.int .i64 x.since,.int .i64 x.number] ?_ ?_ x.cells ?_ ?_ ?_ x.cells_one ?_);rfl;rfl;rfl;rfl;rfl;exact aK;rfl))
      go_ret
      exact ⟨by rw [HF.out];rfl,(HR1.out.one _).below⟩
    · have HA:=yA (aX HALL.out (show jM v.x.tick v.x.ws k=true by rw [HEQ.out];exact decide_eq_true (by omega)))
      have HN:=yA (HR1.out.one (.cells #[.int .u8 x.r.i0,.int .u8 x.r.i1,.int .u8 x.r.i2,.int .u8 x.r.i3,.int .u8 x.r.i4,.int .u8 x.r.i5,.int .u8 x.r.i6,.int .u8 x.r.i7,.int .i16 x.r.fx,.int .i16 x.r.fy,.int .i16 x.r.tx,.int .i16 x.r.ty,.int .u8 x.r.seats,.int .u8 x.r.classes,.int .i64 x.r.base,.int .i64 x.r.ttl,.int .i64 x.since,.int .i64 x.number] 79));go_wp2_with (first | ((with_reducible refine aa (o:=⟨some 35,_,_,_,_,_⟩) ?_ 79 (.tmp 34) ?_ b (o+k*18) ?_ x.cells #[.int .u8 x.r.i0,.int .u8 x.r.i1,.int .u8 x.r.i2,.int .u8 x.r.i3,.int .u8 x.r.i4,.int .u8 x.r.i5,.int .u8 x.r.i6,.int .u8 x.r.i7,.int .i16 x.r.fx,.int .i16 x.r.fy,.int .i16 x.r.tx,.int .i16 x.r.ty,.int .u8 x.r.seats,.int .u8 x.r.classes,.int .i64 x.r.base,.int .i64 x.r.ttl,.int .i64 x.since,.int .i64 x.number] ?_ _ HCE.out Tryz.underlying79 ?_ ?_ ?_);rfl;rfl;rfl;rfl;rfl;exact aK) | ((with_reducible refine ah (o:=⟨none,.store 79 (.tmp 5) (.tmp 35),_,_,_,_⟩) ?_ 79 (.tmp 5) (.tmp 35) ?_ _ #[.int .u8 x.r.i0,.int .u8 x.r.i1,.int .u8 x.r.i2,.int .u8 x.r.i3,.int .u8 x.r.i4,.int .u8 x.r.i5,.int .u8 x.r.i6,.int .u8 x.r.i7,.int .i16 x.r.fx,.int .i16 x.r.fy,.int .i16 x.r.tx,.int .i16 x.r.ty,.int .u8 x.r.seats,.int .u8 x.r.classes,.int .i64 x.r.base,.int .i64 x.r.ttl,.int .i64 x.since,.int .i64 x.number] ?_ ?_ x.cells ?_ ?_ ?_ x.cells_one ?_);rfl;rfl;rfl;rfl;rfl;exact aK;rfl))
      go_roundw
      case rel=>exact yA ⟨k+1,by rw [HP.out],by go_num,by omega,HA.out,HN.out⟩
      case measure=>simp [intOf];omega
  · obtain rfl:v.wn=k:=by omega
    have HS2:=yA (show dI v.x=true from aU (fun j hj=>HALL.out j (by rw [HIN.out.wl] at hj;exact hj)));clear HALL hlt hk
    as_aux_lemma=>
     go_wp2_with fail
     obtain ⟨ko,hko⟩:∃ ko,v.ko=ko:=⟨_,rfl⟩;rw [hko];have HKO:=yA hko;clear hko;go_loopw [3,58] (fun a i wr=>Hid (∃ k:Nat,a = .int .i64 (iu v.x.ds k)∧i = .int .i64 k∧k≤v.kn∧(∀ j,j<k→jN v.x.ds j=true)∧ee w v H0 wr)) (fun _ i _=>v.kn - (intOf i).toNat)
     case atStart=>exact yA ⟨0,rfl,rfl,yQ _,bB,HR1.out⟩
     case round=>
      clear g0 g1 g2 g3 g4 g5 g6 g7 g8 hs0;obtain ⟨k,rfl,rfl,hk,hall,hrel1⟩:=hrel.out;clear hrel;obtain ⟨g0,g1,g2,g3,g4,g5,g6,g7,g8⟩:=cells9 hrel1.g;have hs0:H0<wr.heap.size:=yK hrel1.g;have HR2:=yA hrel1;have HALL:=yA hall;clear hrel1 hall;by_cases hlt:k<v.kn
      · obtain ⟨x,hx⟩:∃ x,v.x.ds[k]?=some x:=⟨v.x.ds[k]'(by rw [HIN.out.kl];exact hlt),yC _⟩
        obtain ⟨b,o,hbo,_⟩:=HIN.out.kr.place (by rw [cellsOf_length _ 14 ak.cells_length,HIN.out.kl];omega);have hrd:=HIN.out.kr.keep (Keep.of_below HR2.out.below (yB _) (fun _=>False)) (fun _ _ _=>id);rw [hbo] at hrd;obtain rfl:ko=some ⟨b,o,none⟩:=by rw [←HKO.out];exact hbo
        have HCE:=yA (dz hrd hx);have HX:=yA hx;have HP:=yA (gU hx);have HBAD:=yA (fun h=>rR HS1.out HS2.out (mV hx h));have HEQ:=yA (fp hx);clear hx hrd hbo;generalize iu v.x.ds k=pv at *;by_cases h1:x.number≤pv
        · have HF:=yA (HBAD.out (by omega))
          go_wp2_with (first | ((with_reducible refine aa (o:=⟨some 61,_,_,_,_,_⟩) ?_ 83 (.tmp 60) ?_ b (o+k*14) ?_ x.cells #[.int .u8 x.d.i0,.int .u8 x.d.i1,.int .u8 x.d.i2,.int .u8 x.d.i3,.int .u8 x.d.i4,.int .u8 x.d.i5,.int .u8 x.d.i6,.int .u8 x.d.i7,.int .i16 x.d.ax,.int .i16 x.d.ay,.int .u8 x.d.seats,.int .u8 x.d.cls,.int .i64 x.d.radius,.int .i64 x.number] ?_ _ HCE.out Tryz.underlying83 ?_ ?_ ?_);rfl;rfl;rfl;rfl;rfl;exact dF) | ((with_reducible refine ah (o:=⟨none,.store 83 (.tmp 7) (.tmp 61),_,_,_,_⟩) ?_ 83 (.tmp 7) (.tmp 61) ?_ _ #[.int .u8 x.d.i0,.int .u8 x.d.i1,.int .u8 x.d.i2,.int .u8 x.d.i3,.int .u8 x.d.i4,.int .u8 x.d.i5,.int .u8 x.d.i6,.int .u8 x.d.i7,.int .i16 x.d.ax,.int .i16 x.d.ay,.int .u8 x.d.seats,.int .u8 x.d.cls,.int .i64 x.d.radius,.int .i64 x.number] ?_ ?_ x.cells ?_ ?_ ?_ x.cells_one ?_);rfl;rfl;rfl;rfl;rfl;exact dF;rfl))
          go_ret
          exact ⟨by rw [HF.out];rfl,(HR2.out.one _).below⟩
        · have h1':pv<x.number:=by omega
          have HA:=yA (aX HALL.out (show jN v.x.ds k=true by rw [HEQ.out];exact decide_eq_true h1'));have HN:=yA (HR2.out.one (.cells #[.int .u8 x.d.i0,.int .u8 x.d.i1,.int .u8 x.d.i2,.int .u8 x.d.i3,.int .u8 x.d.i4,.int .u8 x.d.i5,.int .u8 x.d.i6,.int .u8 x.d.i7,.int .i16 x.d.ax,.int .i16 x.d.ay,.int .u8 x.d.seats,.int .u8 x.d.cls,.int .i64 x.d.radius,.int .i64 x.number] 83));clear h1;go_wp2_with (first | ((with_reducible refine aa (o:=⟨some 61,_,_,_,_,_⟩) ?_ 83 (.tmp 60) ?_ b (o+k*14) ?_ x.cells #[.int .u8 x.d.i0,.int .u8 x.d.i1,.int .u8 x.d.i2,.int .u8 x.d.i3,.int .u8 x.d.i4,.int .u8 x.d.i5,.int .u8 x.d.i6,.int .u8 x.d.i7,.int .i16 x.d.ax,.int .i16 x.d.ay,.int .u8 x.d.seats,.int .u8 x.d.cls,.int .i64 x.d.radius,.int .i64 x.number] ?_ _ HCE.out Tryz.underlying83 ?_ ?_ ?_);rfl;rfl;rfl;rfl;rfl;exact dF) | ((with_reducible refine ah (o:=⟨none,.store 83 (.tmp 7) (.tmp 61),_,_,_,_⟩) ?_ 83 (.tmp 7) (.tmp 61) ?_ _ #[.int .u8 x.d.i0,.int .u8 x.d.i1,.int .u8 x.d.i2,.int .u8 x.d.i3,.int .u8 x.d.i4,.int .u8 x.d.i5,.int .u8 x.d.i6,.int .u8 x.d.i7,.int .i16 x.d.ax,.int .i16 x.d.ay,.int .u8 x.d.seats,.int .u8 x.d.cls,.int .i64 x.d.radius,.int .i64 x.number] ?_ ?_ x.cells ?_ ?_ ?_ x.cells_one ?_);rfl;rfl;rfl;rfl;rfl;exact dF;rfl))
          go_roundw
          case rel=>exact yA ⟨k+1,by rw [HP.out],by go_num,by omega,HA.out,HN.out⟩
          case measure=>simp [intOf];omega
      · obtain rfl:v.kn=k:=by omega
        have HS3:=yA (show dY v.x=true from aU (fun j hj=>HALL.out j (by rw [HIN.out.kl] at hj;exact hj)));clear HALL hlt hk;have HIW:=yA (HIN.out.keep HR2.out.below);have HSH:=yA (show dm v.x=(aQ v.x.rows v.x.cols v.x.es && decide (v.x.rows=v.wn) && decide (v.x.cols=v.kn)) by unfold dm;rw [HIN.out.wl,HIN.out.kl]);go_wp2_with fail
        refine (mR wr v.x.rows v.x.cols v.eo v.en v.ec v.x.es HIW.out.el HIW.out.er (by omega)).mono ?_;rintro e w1 ⟨rfl,hb1⟩;have HR3:=yA (HR2.out.keep hb1);clear hb1 HIW g0 g1 g2 g3 g4 g5 g6 g7 g8 hs0;obtain ⟨g0,g1,g2,g3,g4,g5,g6,g7,g8⟩:=cells9 HR3.out.g;cases hgf:aQ v.x.rows v.x.cols v.x.es with
        | false=>
          have HF:=yA (gV HS1.out HS2.out HS3.out (by rw [HSH.out,hgf];rfl));rw [show aY v.x.rows v.x.cols v.x.es=170 by simp [aY,hgf]];clear hgf;go_wp2_with fail
          go_ret
          exact ⟨by rw [HF.out];rfl,HR3.out.below⟩
        | true=>
          rw [show aY v.x.rows v.x.cols v.x.es=0 by simp [aY,hgf]];rw [hgf] at HSH;have HGF:=yA hgf;clear hgf;by_cases h5:v.x.rows=v.wn
          · by_cases h6:v.x.cols=v.kn
            · have HS4:=yA (show dm v.x=true by rw [HSH.out,decide_eq_true h5,decide_eq_true h6];rfl)
              have b5:(v.x.rows != (v.wn:Int))=false:=by simp [h5]
              have b6:(v.x.cols != (v.kn:Int))=false:=by simp [h6]
              clear h5 h6;go_wp2_with fail
              have HIW:=yA (HIN.out.keep HR3.out.below)
              as_aux_lemma=>
               refine (nM w1 v.x.rows v.x.cols v.eo v.po v.en v.ec v.pn v.pc v.x.es v.x.ps HIW.out.el HIW.out.er (by omega) HIW.out.pl HIW.out.pr (by omega)).mono ?_;rintro e w2 ⟨rfl,hb2⟩;have HR4:=yA (HR3.out.keep hb2);clear hb2 HIW g0 g1 g2 g3 g4 g5 g6 g7 g8;obtain ⟨g0,g1,g2,g3,g4,g5,g6,g7,g8⟩:=cells9 HR4.out.g;rw [kB HGF.out];cases hm:cw v.x.es v.x.ps with
               | false=>
                 have HF:=yA (rS HS1.out HS2.out HS3.out HS4.out hm);rw [ld hm];clear hm;go_wp2_with fail
                 go_ret
                 exact ⟨by rw [HF.out];rfl,HR4.out.below⟩
               | true=>
                 have HS5:=yA hm;rw [jP hm];clear hm
                 as_aux_lemma=>
                  have HLB:=yA (show bH v.x.rows v.x.cols v.x.ys v.x.zs=(decide ((v.yn:Int)=v.x.rows) && decide ((v.zn:Int)=v.x.cols)) by unfold bH;rw [HIN.out.yl,HIN.out.zl]);by_cases h7:(v.yn:Int)=v.x.rows
                  · have b7:((v.yn:Int) != v.x.rows)=false:=by simp [h7]
                    by_cases h8:(v.zn:Int)=v.x.cols
                    · have HF:=yA (rT HS1.out HS2.out HS3.out HS4.out HS5.out (by rw [HLB.out,decide_eq_true h7,decide_eq_true h8];rfl))
                      have b8:((v.zn:Int) != v.x.cols)=false:=by simp [h8]
                      clear h7 h8;go_wp2_with fail
                      go_ret
                      exact ⟨by rw [HF.out];rfl,HR4.out.below⟩
                    · have HF:=yA (la HS1.out HS2.out HS3.out HS4.out HS5.out (by rw [HLB.out,decide_eq_false h8];simp))
                      have b8:((v.zn:Int) != v.x.cols)=true:=by simp [h8]
                      clear h7 h8;go_wp2_with fail
                      go_ret
                      exact ⟨by rw [HF.out];rfl,HR4.out.below⟩
                  · have HF:=yA (la HS1.out HS2.out HS3.out HS4.out HS5.out (by rw [HLB.out,decide_eq_false h7];simp))
                    have b7:((v.yn:Int) != v.x.rows)=true:=by simp [h7]
                    clear h7;go_wp2_with fail
                    go_ret
                    exact ⟨by rw [HF.out];rfl,HR4.out.below⟩
            · have HF:=yA (gV HS1.out HS2.out HS3.out (by rw [HSH.out,decide_eq_false h6];simp))
              have b5:(v.x.rows != (v.wn:Int))=false:=by simp [h5]
              have b6:(v.x.cols != (v.kn:Int))=true:=by simp [h6]
              clear h5 h6;go_wp2_with fail
              go_ret
              exact ⟨by rw [HF.out];rfl,HR3.out.below⟩
          · have HF:=yA (gV HS1.out HS2.out HS3.out (by rw [HSH.out,decide_eq_false h5];simp))
            have b5:(v.x.rows != (v.wn:Int))=true:=by simp [h5]
            clear h5;go_wp2_with fail
            go_ret
            exact ⟨by rw [HF.out];rfl,HR3.out.below⟩
end Go.Proofs.YtcaicgipibcicaaGreat
