/- The pieces of a log: the iterator, walked. -/
import Derived.Test.YtcaicgipibcicaaGreatQRdPs0
set_option maxRecDepth 100000
set_option maxHeartbeats 16000000
set_option linter.unusedSimpArgs false
set_option linter.unusedVariables false
open Go renaming bodyPost_ret→xe,cell_of_row→wG,frozen_of_row→wZ
open Go.Lib renaming hid→wB
open List renaming getElem?_take→xI,length_take→wV
namespace Go.Proofs.YtcaicgipibcicaaGreat
open Go.RowKit Go.Sort Go.Shelf
attribute [local go_sem] Oper.semAt_some
theorem pi (l B C:Nat) (l0:List Int) (J:List Int→Nat→World→Prop) (Jx:World→Prop) (W:World) (hgo:PsGo l B C W.heap.size l0 J Jx) (ao:Option Addr) (n cap:Nat) (hn:l0.length=n) (hb:Byt l0) (hm:n≤1000000000) (hcap:n≤cap)
 (hr:RdC W ao (cellsOf ah l0)) (hlow:∀ a,ao=some a→a.block<C) (hB:W.heap[B]?=some (.cells #[.slice ao n cap] 59 (0,0))) (hC:C≤B) (h0:J (be4 0) 0 W) :
 CallsIn Fence.wide 4 Tryz.prog 154 #[.func (.yield l) #[] #[],.pointer (some ⟨B,0,none⟩)] W (PsPost B C W.heap.size l0 J Jx):=by
 refine callsIn_wide.2 ?_;have HGO:=wB hgo;have HBY:=wB hb;have HM:=wB (show l0.length≤1000000000 from by rw [hn];exact hm);have HC:=wB hC;have HBT:=wB (lt_of_block hB)
 have HP0:=wB (show PsAt B C W.heap.size l0 J 0 0 ao n cap W (W.alloc (.cells #[.int .u8 0,.int .u8 0,.int .u8 0,.int .u8 0] 139)) from by
  have hk:=Keep.alloc (fun _=>False) W (.cells #[.int .u8 0,.int .u8 0,.int .u8 0,.int .u8 0] 139);exact ⟨by omega,Nat.zero_le _,by omega,h0,hk.mono (fun _ _ h=>h.elim),hk.old hB id,heap_alloc_new W _,by rw [List.drop_zero];exact hr.keep hk (fun _ _ _=>id),hcap,hlow⟩)
 clear hgo hn hb hm hcap hr hlow hB hC h0;go_enter Tryz.func154,Tryz.ntmps154
 go_wp2_with fail
 obtain ⟨T,hT⟩:∃ T,W.heap.size=T:=⟨_,rfl⟩;rw [hT] at HP0 HGO HBT ⊢;have HTE:=wB hT;generalize W.alloc (.cells #[.int .u8 0,.int .u8 0,.int .u8 0,.int .u8 0] 139)=W1 at *;clear hT;go_loopw [4] (fun i wr=>Hid (∃ (sa pos:Nat) (ao:Option Addr) (n cap:Nat) (W0:World),PsAt B C T l0 J sa pos ao n cap W0 wr)) (fun i wr=>pj wr B)
 case atStart=>exact wB ⟨0,0,ao,n,cap,W,HP0.out⟩
 case round=>
  clear HP0;obtain ⟨sa,pos,ao,n,cap,W0,hp⟩:=hrel.out;clear hrel;have HP:=wB hp;clear hp;have hnle:n≤1000000000:=by have:=HP.out.len;have:=HM.out;omega
  have cB:wr.cell? ⟨B,0,none⟩=some (.slice ao n cap):=by rw [wG _ _ _ _ _ (0,0) HP.out.box];rfl
  have fB:=fun j=>wZ wr B j _ _ HP.out.box
  have hncap:n≤cap:=HP.out.cap;have hnn:(l0.drop pos).length=n:=by rw [List.length_drop,HP.out.len];omega
  have HNN:=wB hnn;clear hnn;have HBYP:=wB (HBY.out.drop pos);go_upto_region 1 with fail
  go_cut [4] from 10 to 69 (fun v wx=>Hid (∃ R G:Nat,v = .pointer (some ⟨R,0,none⟩)∧Below wr.heap.size wr wx∧RdS wx R G (some ((l0.drop pos).take 8))∧wr.heap.size≤R∧wr.heap.size≤G∧R≠G∧G<wx.heap.size))
  case first=>
   go_wp2_with fail
   · rename_i h
     refine (ez wr ao 8 cap ((l0.drop pos).take 8) (by rw [wV,HNN.out];omega) (by
      rcases HP.out.rd with h0 | ⟨b,o,h1,h2⟩
      · have:=congrArg List.length h0
        rw [aI,HNN.out] at this;have:n=0:=by simpa using this
        omega
      · refine .inr ⟨b,o,h1,fun j u hu=>h2 j u ?_⟩
        rw [fZ,xI] at hu;split at hu
        · exact hu
        · cases hu) (HBYP.out.take 8) (by omega)).mono ?_
     rintro e w1 ⟨R,G,rfl,hb1,hrd,hR,hG,hRG,hGlt⟩;have HE:=wB (show ∃ R' G':Nat,Value.pointer (some ⟨R,0,none⟩) = .pointer (some ⟨R',0,none⟩)∧Below wr.heap.size wr w1∧RdS w1 R' G' (some ((l0.drop pos).take 8))∧wr.heap.size≤R'∧wr.heap.size≤G'∧R'≠G'∧G' < w1.heap.size from ⟨R,G,rfl,hb1,hrd,hR,hG,hRG,hGlt⟩);clear hb1 hrd hR hG hRG hGlt cB fB;go_wp2_with fail
     go_meet
     case rel=>exact HE
   · rename_i h
     refine (ez wr ao n cap (l0.drop pos) HNN.out HP.out.rd HBYP.out hnle).mono ?_;rintro e w1 ⟨R,G,rfl,hb1,hrd,hR,hG,hRG,hGlt⟩;have HE:=wB (show ∃ R' G':Nat,Value.pointer (some ⟨R,0,none⟩) = .pointer (some ⟨R',0,none⟩)∧Below wr.heap.size wr w1∧RdS w1 R' G' (some ((l0.drop pos).take 8))∧wr.heap.size≤R'∧wr.heap.size≤G'∧R'≠G'∧G' < w1.heap.size from ⟨R,G,rfl,hb1,by rw [List.take_of_length_le (by rw [HNN.out];omega)];exact hrd,hR,hG,hRG,hGlt⟩);clear hb1 hrd hR hG hRG hGlt cB fB;go_wp2_with fail
     go_meet
     case rel=>exact HE
  case rest=>
   obtain ⟨R,G,rfl,hb1,hrd,hR,hG,hRG,hGlt⟩:=hcut.out;have HB1:=wB hb1;have HRD:=wB hrd;have HRN:=wB (And.intro hR (And.intro hG (And.intro hRG hGlt)));clear hcut hb1 hrd hR hG hRG hGlt cB fB;go_wp2_with fail
   refine (pg wc R G _ HRN.out.2.2.1 HRD.out).mono ?_;rintro e w2 ⟨x1,rfl,hx1,s1,hrd1,hst1,hk1⟩;obtain ⟨q1,rfl⟩:∃ q1:Nat,x1=q1:=⟨x1.toNat,by omega⟩;have hq1:q1<4294967296:=by omega
   have HR1:=wB hrd1;have HS1:=wB hst1;have HB2:=wB (HB1.out.trans (hk1.below HB1.out.size (fun i hi he=>by have:=HRN.out.1;omega)));clear hx1 hrd1 hst1 hk1 HB1 HRD;go_wp2_with fail
   refine (pg w2 R G s1 HRN.out.2.2.1 HR1.out).mono ?_;rintro e w3 ⟨x2,rfl,hx2,s2,hrd2,hst2,hk2⟩;obtain ⟨q2,rfl⟩:∃ q2:Nat,x2=q2:=⟨x2.toNat,by omega⟩;have hq2:q2<4294967296:=by omega
   have HR2:=wB hrd2;have HS2:=wB hst2;have HB3:=wB (HB2.out.trans (hk2.below HB2.out.size (fun i hi he=>by have:=HRN.out.1;omega)));clear hx2 hrd2 hst2 hk2 HB2 HR1;go_wp2_with fail
   refine (qV w3 R G s2 HR2.out).mono ?_;rintro e w4 ⟨er,rfl,hE,rfl⟩;have HF:=wB (vZ HBYP.out HS1.out HS2.out hE);have HP3:=wB (HP.out.below HB3.out);clear hE HR2 HS1 HS2;by_cases her:er=0
   · subst her
     have HF8:=wB (show 8≤n from by have:=HF.out.1.1 rfl;rwa [HNN.out] at this);have HFQ:=wB (HF.out.2 rfl);clear HF;obtain ⟨q3,hx,hq3⟩:∃ q3:Nat,bits .xor .u32 IntKind.u32.max (q2:Int)=(q3:Int)∧q3=4294967295 - q2:=⟨_,ph q2 hq2,rfl⟩;have HQ3:=wB hq3;clear hq3;have cB:w4.cell? ⟨B,0,none⟩=some (.slice ao n cap):=by rw [wG _ _ _ _ _ (0,0) HP3.out.box];rfl
     have fB:=fun j=>wZ w4 B j _ _ HP3.out.box
     have hsg:IntKind.u32.signed=false:=rfl;by_cases hqq:q1=q3
     · subst hqq
       by_cases hlt:n<q1+12
       · have b3:decide ((n:Int)<(q1:Int)+12)=true:=decide_eq_true (by omega)
         have b3':decide (n<q1+12)=true:=decide_eq_true hlt;have HNX:=wB (show aR (be4 sa) (l0.drop pos)=none from mV (by rw [HNN.out];exact HF8.out) HFQ.out.1 HFQ.out.2 (.inr (by rw [HNN.out];exact hlt)) ⟨hq1,hq2⟩);go_wp2_with fail
         exact xe (v:=.tuple #[]) (by simp [results,Tryz.results154,go_sem]) rfl ⟨⟨_,rfl⟩,.inl ⟨sa,pos,W0,HP3.out.j,HNX.out,HP3.out.keep⟩⟩
       · have b3:decide ((n:Int)<(q1:Int)+12)=false:=decide_eq_false (by omega)
         have b3':decide (n<q1+12)=false:=decide_eq_false hlt;rcases HP3.out.rd with h0 | ⟨b,o,rfl,hcell⟩
         · exfalso
           have:=congrArg List.length h0;rw [aI,HNN.out] at this;have:n=0:=by simpa using this
           have:=HF8.out;omega
         have HCL:=wB hcell;obtain ⟨c,hc⟩:∃ c,((l0.drop pos).drop 8).take q1=c:=⟨_,rfl⟩;have HCE:=wB hc;have HCN:=wB (show c.length=q1 from by rw [←hc,wV,List.length_drop,HNN.out];omega);have HCB:=wB (show Byt c from by rw [←hc];exact (HBYP.out.drop 8).take q1)
         have HCR:=wB (show RdC w4 (some ⟨b,o+8,none⟩) (cellsOf ah c) from .inr ⟨b,o+8,rfl,fun j u hu=>by
          rw [←hc,fZ,lU,xI] at hu;split at hu
          · rw [List.getElem?_drop] at hu
            have:=hcell _ u hu;rwa [←Nat.add_assoc] at this
          · cases hu⟩)
         have HGD:=wB (qS (a:=be4 sa) HBYP.out (by rw [HNN.out];exact HF8.out) HFQ.out.1 HFQ.out.2 HQ3.out (by rw [HNN.out];omega) ⟨hq1,hq2⟩);rw [hc] at HGD;clear hcell hc;obtain ⟨a0,a1,a2,a3,ha⟩:∃ a0 a1 a2 a3,be4 sa=[a0,a1,a2,a3]:=⟨_,_,_,_,rfl⟩;have HA:=wB ha;have HAB:=wB (show Byt [a0,a1,a2,a3] from by rw [←ha];exact kR HP.out.four);have HTR:=wB (show w4.heap[T]?=some (.cells #[.int .u8 a0,.int .u8 a1,.int .u8 a2,.int .u8 a3] 139 (0,0)) from by have:=HP3.out.last;rw [ha] at this;exact this);clear ha;have t0:w4.cell? ⟨T,0,none⟩=some (.int .u8 a0):=by rw [wG _ _ _ _ _ (0,0) HTR.out];rfl
         have t1:w4.cell? ⟨T,1,none⟩=some (.int .u8 a1):=by rw [wG _ _ _ _ _ (0,0) HTR.out];rfl
         have t2:w4.cell? ⟨T,2,none⟩=some (.int .u8 a2):=by rw [wG _ _ _ _ _ (0,0) HTR.out];rfl
         have t3:w4.cell? ⟨T,3,none⟩=some (.int .u8 a3):=by rw [wG _ _ _ _ _ (0,0) HTR.out];rfl
         go_upto_region 5 with fail
         simp only [Nat.add_sub_cancel_left];go_wp2_with fail
         refine (jJ w4 a0 a1 a2 a3 HAB.out (some ⟨b,o+8,none⟩) q1 (cap - 8) c HCN.out HCR.out HCB.out (by omega)).mono ?_;rintro e w5 ⟨pb,pc,rfl,hb5,hpb,hpc,hcells,_⟩;obtain ⟨z0,z1,z2,z3,hz⟩:∃ z0 z1 z2 z3,be4 (dA (be4 sa++c))=[z0,z1,z2,z3]:=⟨_,_,_,_,rfl⟩;have hagg:(cellsOf ah (be4 (dA (be4 sa++c)))).toArray=#[.int .u8 z0,.int .u8 z1,.int .u8 z2,.int .u8 z3]:=by rw [hz];rfl
         have HAGG:=wB hagg;have HZB:=wB (show ∀ u ∈ ([.int .u8 z0,.int .u8 z1,.int .u8 z2,.int .u8 z3]:List Value),u.oneCell'=true from by intro v hv;simp only [List.mem_cons,List.not_mem_nil,or_false] at hv;rcases hv with rfl | rfl | rfl | rfl <;> rfl);rw [show (cellsOf ah (be4 (dA ([a0,a1,a2,a3]++c)))).toArray=#[.int .u8 z0,.int .u8 z1,.int .u8 z2,.int .u8 z3] from by rw [←HA.out];exact hagg];obtain ⟨lw,hlw⟩:∃ lw,8+q1+4=lw:=⟨_,rfl⟩;have hlwn:lw≤n:=by omega
         have hlwc:lw≤cap:=by omega
         rw [hlw] at hpc HGD ⊢;have HLW:=wB hlw;have HHC:=wB hcells;have HPB:=wB hpb
         have HPL:=wB (show (aC [a0,a1,a2,a3] c).length=lw from by
          rw [←hlw];simp only [aC,List.length_append,dB,HCN.out])
         have HP5:=wB (HP3.out.below hb5);have HK45:=wB (Keep.of_below hb5 (Nat.le_refl _) (fun _=>False));have HB5:=wB (HB3.out.trans (hb5.mono HB3.out.size));have szA:(Tryz.prog.info? 139).map (·.size)=some (#[Value.int .u8 z0,.int .u8 z1,.int .u8 z2,.int .u8 z3]:Array Value).size:=fH
         clear hz hagg hlw hcells hpb hb5 t0 t1 t2 t3 cB fB HTR HP3 HB3;go_upto_region 6 with (first | ((with_reducible refine aj (o:=⟨none,.store 139 (.tmp 9) (.tmp 49),_,_,_,_⟩) ?_ 139 (.tmp 9) (.tmp 49) ?_ _ #[.int .u8 z0,.int .u8 z1,.int .u8 z2,.int .u8 z3] ?_ ?_ [.int .u8 z0,.int .u8 z1,.int .u8 z2,.int .u8 z3] ?_ ?_ ?_ HZB.out ?_);rfl;rfl;rfl;rfl;rfl;exact fH;rfl))
         have HK6:=wB (Keep.alloc (fun _=>False) w5 (.cells #[.int .u8 z0,.int .u8 z1,.int .u8 z2,.int .u8 z3] 139));have HD6:=wB (heap_alloc_new w5 (.cells #[.int .u8 z0,.int .u8 z1,.int .u8 z2,.int .u8 z3] 139));have HP6:=wB (HP5.out.below ((Below.refl w5.heap.size w5).alloc (Nat.le_refl _) (.cells #[.int .u8 z0,.int .u8 z1,.int .u8 z2,.int .u8 z3] 139)));obtain ⟨D,hD⟩:∃ D,w5.heap.size=D:=⟨_,rfl⟩;have HDS:=wB hD;have HDL:=wB (show W0.heap.size≤D from by rw [←hD];exact Nat.le_trans HP.out.keep.size HB5.out.size);rw [hD] at HD6;try rw [hD]
         generalize w5.alloc (.cells #[.int .u8 z0,.int .u8 z1,.int .u8 z2,.int .u8 z3] 139)=w6 at *;clear hD;simp only [Act.put];have HRW:=wB (show RdC w6.drew (some ⟨pb,0,none⟩) (cellsOf ah (aC [a0,a1,a2,a3] c)) from .inr ⟨pb,0,rfl,fun j u hu=>by rw [Nat.zero_add];exact HK6.out.cell (HHC.out j u hu) id⟩)
         have HRI:=wB (show RdC w6.drew (some ⟨b,o,none⟩) (cellsOf ah ((l0.drop pos).take lw)) from by
          rcases HP6.out.rd with h0 | ⟨b',o',h1,h2⟩
          · exfalso
            have:=congrArg List.length h0;rw [aI,HNN.out] at this;have:n=0:=by simpa using this
            have:=HF8.out;omega
          · cases h1
            refine .inr ⟨b,o,rfl,fun j u hu=>h2 j u ?_⟩;rw [fZ,xI] at hu;split at hu
            · exact hu
            · cases hu)
         have HPB2:=wB (show Byt (aC [a0,a1,a2,a3] c) from sT HAB.out HCB.out (by rw [HCN.out];omega));have HCW:=wB (oW (P:=Tryz.prog) w6.drew 59 9 5 Tryz.underlying59 Tryz.underlying5 Tryz.underlying9 (some ⟨pb,0,none⟩) lw pc (u8s (aC [a0,a1,a2,a3] c)) (by simp only [u8s,List.length_map,HPL.out]) (jH HRW.out HPB2.out));have HCI:=wB (oW (P:=Tryz.prog) w6.drew 59 9 5 Tryz.underlying59 Tryz.underlying5 Tryz.underlying9 (some ⟨b,o,none⟩) lw cap (u8s ((l0.drop pos).take lw)) (by simp only [u8s,List.length_map,wV,HNN.out];omega) (jH HRI.out (HBYP.out.take lw)));have cB:w6.cell? ⟨B,0,none⟩=some (.slice (some ⟨b,o,none⟩) n cap):=by rw [wG _ _ _ _ _ (0,0) HP6.out.box];rfl
         have fB:=fun j=>wZ w6 B j _ _ HP6.out.box
         have d0:w6.cell? ⟨D,0,none⟩=some (.int .u8 z0):=by rw [wG _ _ _ _ _ (0,0) HD6.out];rfl
         have d1:w6.cell? ⟨D,1,none⟩=some (.int .u8 z1):=by rw [wG _ _ _ _ _ (0,0) HD6.out];rfl
         have d2:w6.cell? ⟨D,2,none⟩=some (.int .u8 z2):=by rw [wG _ _ _ _ _ (0,0) HD6.out];rfl
         have d3:w6.cell? ⟨D,3,none⟩=some (.int .u8 z3):=by rw [wG _ _ _ _ _ (0,0) HD6.out];rfl
         obtain ⟨SW,hSW⟩:∃ SW:ByteArray,(⟨(u8s (aC [a0,a1,a2,a3] c)).toArray⟩:ByteArray)=SW:=⟨_,rfl⟩;have hcw:=HCW.out;rw [hSW] at hcw;by_cases hpe:aC (be4 sa) c=(l0.drop pos).take lw
         · have hci:=HCI.out
           rw [←hpe,HA.out,hSW] at hci;have HNX:=wB (HGD.out.1 hpe);clear hpe hSW;have hmix:Tryz.prog.follows .mixedOrders=true:=by kernel_rfl
           have hY:=HGO.out.round sa pos c (dA (be4 sa++c)) W0 w6.drew (some ⟨b,o+8,none⟩) (cap - 8) HP.out.j (HP6.out.keep.trans (Keep.drew (fun _=>False) _) (fun _ _ h=>h) (fun _ _ h=>h.elim)) HNX.out (HCR.out.keep ((HK45.out.trans HK6.out (Z:=fun _=>False) (fun _ _ h=>h) (fun _ _ h=>h)).trans (Keep.drew (fun _=>False) _) (Z:=fun _=>False) (fun _ _ h=>h) (fun _ _ h=>h)) (fun _ _ _=>id)) (by rw [HCN.out];omega) (fun a h=>by cases h;exact HP.out.low ⟨b,o,none⟩ rfl);rw [HCN.out,HAGG.out] at hY;obtain ⟨fn,tm,asg,bod,hy,hR⟩:=hY;go_cut [64] from 50 to 69 (fun v wx=>Hid (∃ bv:Bool,v = .bool (!bv)∧Keep (fun k=>C≤k∧k<W0.heap.size∧k≠B∧k≠T) w6.drew wx∧(bv=true→J (be4 (dA (be4 sa++c))) (pos+(q1+12)) wx)∧(bv=false→Jx wx)))
           case first=>
            refine (wpIn_wide (n:=4)).1 ?_
            gi_region_with_o (first | (refine hR.mono ?_;rintro e W3 ⟨bv,rfl,hk3,hj3,hx3⟩))
            all_goals
             go_wp2_with fail
             go_meet
             case rel=>exact wB ⟨bv,rfl,hk3,hj3,hx3⟩
           case rest=>
            obtain ⟨bv,rfl,hk3,hj3,hx3⟩:=hcut.out;clear hcut hy hR cB fB d0 d1 d2 d3 hcw hci;have HJ3:=wB hj3;have HX3:=wB hx3;have HKY:=wB ((Keep.drew (fun _=>False) w6).trans hk3 (Z:=fun k=>C≤k∧k<W0.heap.size∧k≠B∧k≠T) (fun _ _ h=>h.elim) (fun _ _ h=>h));clear hk3 hj3 hx3;cases bv with
            | false=>
              have HXX:=wB (HX3.out rfl);go_wp2_with fail
              exact xe (v:=.tuple #[]) (by simp [results,Tryz.results154,go_sem]) rfl ⟨⟨_,rfl⟩,.inr ⟨wc,HXX.out,Keep.refl _ _⟩⟩
            | true=>
              have HJJ:=wB (HJ3.out rfl)
              have hDne:D≠T:=fun e=>by
               have h1:=HK6.out.size;have h2:=lt_of_block HP5.out.last;have h3:=HDS.out;omega
              have hDne2:D≠B:=fun e=>by
               have h2:=lt_of_block HP5.out.box;have h3:=HDS.out;omega
              have HD7:=wB (HKY.out.old HD6.out (fun h=>by have:=HDL.out;omega));have HB7:=wB (HKY.out.old HP6.out.box (fun h=>h.2.2.1 rfl));have HT7:=wB (HKY.out.old HP6.out.last (fun h=>h.2.2.2 rfl));have hBT:=HBT.out;have d0:wc.cell? ⟨D,0,none⟩=some (.int .u8 z0):=by rw [wG _ _ _ _ _ (0,0) HD7.out];rfl
              have d1:wc.cell? ⟨D,1,none⟩=some (.int .u8 z1):=by rw [wG _ _ _ _ _ (0,0) HD7.out];rfl
              have d2:wc.cell? ⟨D,2,none⟩=some (.int .u8 z2):=by rw [wG _ _ _ _ _ (0,0) HD7.out];rfl
              have d3:wc.cell? ⟨D,3,none⟩=some (.int .u8 z3):=by rw [wG _ _ _ _ _ (0,0) HD7.out];rfl
              have HTH:=wB (show wc.there T 0 (#[.int .u8 z0,.int .u8 z1,.int .u8 z2,.int .u8 z3]:Array Value).size from aP HT7.out (Nat.le_refl 4));have HAL:=wB (show (#[.int .u8 z0,.int .u8 z1,.int .u8 z2,.int .u8 z3]:Array Value).all (·.oneCell')=true from all_oneCell_toArray HZB.out)
              go_upto_region 8 with (first | ((with_reducible refine wpList_store_mid (op:=⟨none,.store 139 (.tmp 3) (.tmp 65),_,_,_,_⟩) ?_ 139 (.tmp 3) (.tmp 65) ?_ T 0 #[.int .u8 z0,.int .u8 z1,.int .u8 z2,.int .u8 z3] ?_ ?_ HTH.out szA HAL.out ?_);rfl;rfl;rfl;rfl))
              have HK8:=wB (Keep.setCells wc T 0 [.int .u8 z0,.int .u8 z1,.int .u8 z2,.int .u8 z3])
              have HT8:=wB (show (wc.setCells T 0 [.int .u8 z0,.int .u8 z1,.int .u8 z2,.int .u8 z3]).heap[T]?=some (.cells #[.int .u8 z0,.int .u8 z1,.int .u8 z2,.int .u8 z3] 139 (0,0)) from by
               have q:=(ae (ae (ae (ae HT7.out 0 (.int .u8 z0)) 1 (.int .u8 z1)) 2 (.int .u8 z2)) 3 (.int .u8 z3));simp only [List.setIfInBounds_toArray,List.set_cons_zero,List.set_cons_succ,cellsOf,be4,ah,List.flatMap_cons,List.flatMap_nil,List.append_nil,List.cons_append,List.nil_append] at q;exact q)
              have HB8:=wB (HK8.out.old HB7.out (by omega));clear d0 d1 d2 d3 HTH;generalize wc.setCells T 0 [.int .u8 z0,.int .u8 z1,.int .u8 z2,.int .u8 z3]=w8 at *;have cB:w8.cell? ⟨B,0,none⟩=some (.slice (some ⟨b,o,none⟩) n cap):=by rw [wG _ _ _ _ _ (0,0) HB8.out];rfl
              have fB:=fun j=>wZ w8 B j _ _ HB8.out
              have HNEXT:=wB (fun (ao':Option Addr) (c':Nat) (hlow:∀ a',ao'=some a'→a'.block=b) (hc':n - lw≤c') (hrd:RdC w8 ao' (cellsOf ah ((l0.drop pos).drop lw)))=>show PsAt B C T l0 J (dA (be4 sa++c)) (pos+(q1+12)) ao' (n - lw) c' wc (w8.setCell ⟨B,0,none⟩ (.slice ao' (n - lw) c')) from by
               have hk:=aJ w8 B 0 (.slice ao' (n - lw) c');have hlen:=HP.out.len;have hlw:=HLW.out;have hbC:b<C:=HP.out.low ⟨b,o,none⟩ rfl;have hCB:=HC.out;refine ⟨fd _,by omega,by omega,HJJ.out,HK8.out.trans hk (fun _ _ h=>.inr h) (fun _ _ h=>.inl h),ae HB8.out 0 _,?_,?_,hc',fun a h=>by rw [hlow a h];exact hbC⟩
               · rw [HAGG.out]
                 exact hk.old HT8.out (by omega)
               · rw [show l0.drop (pos+(q1+12))=(l0.drop pos).drop lw by rw [List.drop_drop];congr 1;omega]
                 exact hrd.keep hk (fun b' o' e=>by have:=hlow _ e;have h':b'=b:=this;show ¬ b'=B;omega))
              have HRD8:=wB (show RdC w8 (some ⟨b,o,none⟩) (cellsOf ah (l0.drop pos)) from (HP6.out.rd.keep HKY.out (fun b' o' e=>by cases e;have hbC:b<C:=HP.out.low ⟨b,o,none⟩ rfl;omega)).keep HK8.out (fun b' o' e=>by cases e;have hbC:b<C:=HP.out.low ⟨b,o,none⟩ rfl;have:=HC.out;show ¬ b=T;omega));have HLEN:=wB (show pj wr B=n from pk HP.out.box);have HLEN2:=wB (fun (ao':Option Addr) (c':Nat)=>show pj (w8.setCell ⟨B,0,none⟩ (.slice ao' (n - lw) c')) B=n - lw from pk (ae HB8.out 0 (.slice ao' (n - lw) c')));by_cases hcl:cap=lw
              · have HE:=wB (HNEXT.out (some ⟨b,o,none⟩) 0 (fun a' h=>by cases h;rfl) (by omega) (.inl (by rw [List.drop_eq_nil_of_le (by rw [HNN.out];omega)];rfl)))
                go_wp2_with fail
                go_roundw
                case rel=>exact wB ⟨_,_,_,_,_,wc,HE.out⟩
                case measure=>rw [HLEN.out,HLEN2.out];have:=HLW.out;omega
              · have HE:=wB (HNEXT.out (some ⟨b,o+lw,none⟩) (cap - lw) (fun a' h=>by cases h;rfl) (by omega) (by
                 rcases HRD8.out with h0 | ⟨b',o',h1,h2⟩
                 · exfalso
                   have:=congrArg List.length h0;rw [aI,HNN.out] at this;have:n=0:=by simpa using this
                   have:=HF8.out;omega
                 · cases h1
                   refine .inr ⟨b,o+lw,rfl,fun j u hu=>?_⟩;rw [lU,List.getElem?_drop] at hu;have:=h2 _ u hu;rwa [←Nat.add_assoc] at this))
                go_wp2_with fail
                go_roundw
                case rel=>exact wB ⟨_,_,_,_,_,wc,HE.out⟩
                case measure=>rw [HLEN.out,HLEN2.out];have:=HLW.out;omega
         · have hci:=HCI.out
           obtain ⟨SI,hSI⟩:∃ SI:ByteArray,(⟨(u8s ((l0.drop pos).take lw)).toArray⟩:ByteArray)=SI:=⟨_,rfl⟩
           have hne:¬ SW=SI:=fun e=>hpe (by
            rw [HA.out];refine rD HPB2.out (HBYP.out.take lw) ?_;rw [←hSW,←hSI] at e;have e1:=congrArg ByteArray.data e;have e2:=congrArg Array.toList e1
            simpa using e2)
           rw [hSI] at hci;have HNX:=wB (HGD.out.2 hpe);clear hpe hSI hSW
           have bne0:¬ SW.toList=SI.toList:=fun e=>hne (by
            rw [Go.ByteArray.toList_eq,Go.ByteArray.toList_eq] at e;have e2:=Array.toList_inj.1 e;cases SW;cases SI
            simp only at e2;rw [e2])
           have bne1:(SW.toList==SI.toList)=false:=by simp [bne0]
           go_region
           go_wp2_with fail
           exact xe (v:=.tuple #[]) (by simp [results,Tryz.results154,go_sem]) rfl ⟨⟨_,rfl⟩,.inl ⟨sa,pos,W0,HP.out.j,HNX.out,HP6.out.keep.trans (Keep.drew (fun _=>False) _) (fun _ _ h=>h) (fun _ _ h=>h.elim)⟩⟩
     · have b2:((q1:Int) != (q3:Int))=true:=by simp;omega
       have b2':(q1 != q3)=true:=by simp [hqq]
       have HNX:=wB (show aR (be4 sa) (l0.drop pos)=none from mV (by rw [HNN.out];exact HF8.out) HFQ.out.1 HFQ.out.2 (.inl (by rw [←HQ3.out];exact hqq)) ⟨hq1,hq2⟩);clear hqq;go_wp2_with fail
       exact xe (v:=.tuple #[]) (by simp [results,Tryz.results154,go_sem]) rfl ⟨⟨_,rfl⟩,.inl ⟨sa,pos,W0,HP3.out.j,HNX.out,HP3.out.keep⟩⟩
   · have b1:(er != 0)=true:=by simp [her]
     have HNX:=wB (show aR (be4 sa) (l0.drop pos)=none from pm (by
      have:=HF.out.1;have h2:¬ 8≤(l0.drop pos).length:=fun h=>her (this.2 h)
      omega))
     clear her HF;go_wp2_with fail
     exact xe (v:=.tuple #[]) (by simp [results,Tryz.results154,go_sem]) rfl ⟨⟨_,rfl⟩,.inl ⟨sa,pos,W0,HP3.out.j,HNX.out,HP3.out.keep⟩⟩
end Go.Proofs.YtcaicgipibcicaaGreat
