/- ref26.Log. -/
import Derived.Test.YtcaicgipibcicaaGreatQAuLog
import Derived.Test.YtcaicgipibcicaaGreatQLives
import Derived.Test.YtcaicgipibcicaaGreatQRowB
import Derived.Lib.QuietBelow
import Derived.Test.YtcaicgipibcicaaGreatQHeldTail
set_option maxRecDepth 100000
set_option maxHeartbeats 16000000
set_option linter.unusedSimpArgs false
set_option linter.unusedVariables false
open Go renaming all_oneCell_toArray→yU,bodyPost_ret→yS,cell_of_row→yI,heap_alloc_new→yE,wpList_store_mid→ze
open Go.Calls renaming regrown_of→zP
open Go.Lib renaming hid→yA
open Go.World renaming rangeAt_setCells_same→yJ
open List renaming getElem?_eq_getElem→yC,getElem?_map→zW,mem_of_getElem?→yP
open Nat renaming le_refl→yB,le_trans→yV,lt_of_lt_of_le→za,zero_add→yO
namespace Go.Proofs.YtcaicgipibcicaaGreat
open Go.RowKit Go.Sort
structure RgAt (W1:World) (R:Nat) (vs:List RV) (c:ae) (k:Int) (tot:Nat × Int) (j:Nat) (wr:World):Prop where
 ex:∃ a ts sv tn,di W1.heap.size c ts R sv tn wr∧Alike a ts∧a.c=c∧tn≤j∧mp a ((vs.map (·.x)).drop j) j k=tot
 keep:Keep (fun _=>False) W1 wr
theorem vS:(Tryz.prog.info? 50).map (·.size)=some 6:=by kernel_rfl
theorem ew.lowV {lo:Nat} {sv:Value} {vs:List RV} {W:World} (h:ew lo sv vs W):∀ v ∈ vs,v.Low W.heap.size:=fun v hv=>by
 obtain ⟨N,M,h1,h2,h3,h4⟩:=h.zone v hv;exact fun X w w' hi hk hx=>h1.low X w w' hi hk (fun k hX=>yV h3 (hx k hX))
theorem vT (w:World) (ao:Option Addr) (n cap:Nat) (l0:List Int) (hn:l0.length=n) (hb:Byt l0) (hm:n≤1048576) (hcap:n≤cap) (hr:RdC w ao (cellsOf ai l0)) (hlow:∀ a,ao=some a→a.block<w.heap.size) :
 Calls Tryz.prog 25 #[.slice ao n cap] w (mz w l0):=by
 have HN:=yA hn;have HBY:=yA hb;have HM:=yA hm;have HCP:=yA hcap;have hb0:=(Below.refl w.heap.size w).alloc (yB _) (.cells #[.int .i64 0,.int .i64 0,.int .i64 0] 62);have HT0:=yA (yE w (.cells #[.int .i64 0,.int .i64 0,.int .i64 0] 62));have HB0:=yA hb0;have HR0:=yA (hr.below hb0);have HLO:=yA (fun a e=>za (hlow a e) hb0.size);clear hn hb hm hcap hr hlow hb0;go_enter Tryz.func25,Tryz.ntmps25
 go_wp2_with fail
 generalize w.alloc (.cells #[.int .i64 0,.int .i64 0,.int .i64 0] 62)=W at *;obtain ⟨B,hBE⟩:∃ B,w.heap.size=B:=⟨_,rfl⟩;have HBE:=yA hBE;rw [hBE] at HT0 ⊢;clear hBE
 obtain ⟨G,hG1,hG2⟩:∃ G,(∀ a,ao=some a→a.block=G)∧G<W.heap.size:=by
  cases ao with
  | none=>exact ⟨B,fun a e=>(by cases e),lt_of_block HT0.out⟩
  | some a=>exact ⟨a.block,fun a' e=>(by cases e;rfl),HLO.out a rfl⟩
 refine (uQ W ao n cap l0 G HN.out HBY.out (by have:=HM.out;omega) HCP.out HR0.out hG1 hG2).mono ?_;rintro e w1 ⟨hb1,st,hst,hif⟩;have HT1:=yA ((Keep.of_below hb1 (yB _) (fun _=>False)).old HT0.out id);have HB1:=yA (Below.next HB0.out hb1);have HWW:=yA (show w.heap.size≤W.heap.size from HB0.out.size);have HST:=yA hst;have HINV:=yA (oJ l0);rw [hst] at HINV;clear hb1 hst HT0 HB0
 have HPUT:=yA (fun (wX:World) (X:Nat→Prop) (hk:Keep X w1 wX) (hx:∀ k,X k→w1.heap.size≤k) (p:Nat × Int) (hlg:fm l0=p)=>show mz w l0 (.returned (.agg #[.int .i64 (p.1:Int),.int .i64 (p.1:Int),.int .i64 p.2])) (wX.setCells B 0 [.int .i64 (p.1:Int),.int .i64 (p.1:Int),.int .i64 p.2]) from by
  have hkB:=Keep.setCells wX B 0 [.int .i64 (p.1:Int),.int .i64 (p.1:Int),.int .i64 p.2];have h1:=hk.below HB1.out.size (fun i hi e=>by have:=hx i e;have:=HB1.out.size;omega);refine ⟨(HB1.out.trans h1).trans (hkB.below (yV HB1.out.size hk.size) (fun i hi e=>by have:=HBE.out;omega)),?_⟩;rw [hlg])
 by_cases hp:st.pos=0
 · rw [if_pos hp] at hif
   obtain ⟨s,er,rfl,her⟩:=hif;have b1:(er != 0)=true:=by simp [her]
   have HLG:=yA (show fm l0=(0,250) from by unfold fm;rw [HST.out,if_pos hp]);have HKA:=yA (Keep.alloc (fun _=>False) w1 (.cells #[.int .i64 0,.int .i64 0,.int .i64 0,.int .i64 0,.int .i64 0] 23));have HTH:=yA (show (w1.alloc (.cells #[.int .i64 0,.int .i64 0,.int .i64 0,.int .i64 0,.int .i64 0] 23)).there B 0 (#[.int .i64 0,.int .i64 0,.int .i64 250]:Array Value).size from aw (HKA.out.old HT1.out id) (yB 3));have szv:(Tryz.prog.info? 62).map (·.size)=some (#[.int .i64 0,.int .i64 0,.int .i64 250]:Array Value).size:=bF
   clear hp;go_wp2_with (first | ((with_reducible refine ah (o:=⟨none,.store 23 (.tmp 3) (.tmp 16),_,_,_,_⟩) ?_ 23 (.tmp 3) (.tmp 16) ?_ _ #[.int .i64 dB.q,.int .i64 dB.d,.int .i64 dB.w,.int .i64 dB.ttl,.int .i64 dB.b] ?_ ?_ dB.cells ?_ ?_ ?_ dB.cells_one ?_);rfl;rfl;rfl;rfl;rfl;exact aE;rfl) | ((with_reducible refine ze (op:=⟨none,.store 62 (.tmp 2) (.tmp 23),_,_,_,_⟩) ?_ 62 (.tmp 2) (.tmp 23) ?_ B 0 #[.int .i64 0,.int .i64 0,.int .i64 250] ?_ ?_ HTH.out szv ?_ ?_);rfl;rfl;rfl;rfl;exact yU (mC 0 0 250)))
   exact yS (v:=.agg #[.int .i64 0,.int .i64 0,.int .i64 250]) (aW 2 62 Tryz.results25 B rfl [.int .i64 0,.int .i64 0,.int .i64 250] _ rfl _ (yJ _ B 0 [.int .i64 0,.int .i64 0,.int .i64 250] HTH.out) Tryz.underlying62 rfl bF) rfl (HPUT.out _ (fun _=>False) HKA.out (fun _ h=>h.elim) (0,250) HLG.out)
 · rw [if_neg hp] at hif
   obtain ⟨so,sc,vs,s,rfl,hvs,hrs,hle⟩:=hif;obtain ⟨k,hk⟩:∃ k:Int,(if st.pos<n then (250:Int) else 0)=k:=⟨_,rfl⟩;have HKK:=yA hk;have HLG:=yA (show fm l0=mp ⟨st.c,0,[]⟩ ((vs.map (·.x)).drop 0) 0 k from by unfold fm;rw [HST.out,if_neg hp,HN.out,hk,hvs,List.drop_zero])
   have HCF0:=yA (nD (HINV.out.1 hp));have HVN:=yA (show vs.length≤n from by have h1:=HINV.out.2;rw [←hvs,List.length_map] at h1;rw [←HN.out];omega);have hpn:st.pos≤n:=by rw [←HN.out];exact hle
   obtain ⟨W1,hW1⟩:∃ W1,w1.alloc (.cells #[.int .i64 st.c.q,.int .i64 st.c.d,.int .i64 st.c.w,.int .i64 st.c.ttl,.int .i64 st.c.b] 23)=W1:=⟨_,rfl⟩;have HW1E:=yA hW1;have HKA:=yA (show Keep (fun _=>False) w1 W1 from by rw [←hW1];exact Keep.alloc _ _ _);obtain ⟨CB,hCB⟩:∃ CB,w1.heap.size=CB:=⟨_,rfl⟩;have HCFR:=yA (show W1.heap[CB]?=some (.cells #[.int .i64 st.c.q,.int .i64 st.c.d,.int .i64 st.c.w,.int .i64 st.c.ttl,.int .i64 st.c.b] 23 (0,0)) from by rw [←hW1,←hCB];exact yE w1 _)
   have HCF:=yA (fun (j:Nat) (u:Value) (hu:st.c.cells[j]?=some u)=>show (w1.alloc (.cells #[.int .i64 st.c.q,.int .i64 st.c.d,.int .i64 st.c.w,.int .i64 st.c.ttl,.int .i64 st.c.b] 23)).cell? ⟨w1.heap.size,0+j,none⟩=some u from by
    rw [yO,hW1,hCB,yI _ _ _ _ _ (0,0) HCFR.out,←hu];simp [ae.cells])
   have HT2:=yA (HKA.out.old HT1.out id);have HRS:=yA (hrs.keepA HKA.out (fun _ h=>h.elim));clear hvs hrs hle hp hk hW1 hCB;go_wp2_with (first | ((with_reducible refine ah (o:=⟨none,.store 23 (.tmp 3) (.tmp 16),_,_,_,_⟩) ?_ 23 (.tmp 3) (.tmp 16) ?_ _ #[.int .i64 st.c.q,.int .i64 st.c.d,.int .i64 st.c.w,.int .i64 st.c.ttl,.int .i64 st.c.b] ?_ ?_ st.c.cells ?_ ?_ ?_ st.c.cells_one ?_);rfl;rfl;rfl;rfl;rfl;exact aE;rfl) | ((with_reducible refine aa (o:=⟨some 25,_,_,_,_,_⟩) ?_ 23 (.tmp 3) ?_ w1.heap.size (0) ?_ st.c.cells #[.int .i64 st.c.q,.int .i64 st.c.d,.int .i64 st.c.w,.int .i64 st.c.ttl,.int .i64 st.c.b] ?_ _ HCF.out Tryz.underlying23 ?_ ?_ ?_);rfl;rfl;rfl;rfl;rfl;exact aE))
   rw [HW1E.out];clear HCF;refine (sH W1 st.c).mono ?_;rintro e w2 ⟨rfl,hb2⟩;have hE0:al st.c=0:=by unfold al;rw [HCF0.out];rfl
   rw [show nB st.c = .agg #[.int .i64 st.c.q,.int .i64 st.c.d,.int .i64 st.c.w,.int .i64 st.c.ttl,.int .i64 st.c.b,.slice none 0 0] from by unfold nB;rw [if_pos HCF0.out],hE0];obtain ⟨R,hR⟩:∃ R,w2.heap.size=R:=⟨_,rfl⟩
   have HL0:=yA (show RgAt W1 R vs st.c k (fm l0) 0 (w2.alloc (.cells #[.int .i64 st.c.q,.int .i64 st.c.d,.int .i64 st.c.w,.int .i64 st.c.ttl,.int .i64 st.c.b,.slice none 0 0] 50)) from
    ⟨⟨_,[],.slice none 0 0,0,⟨by rw [←hR];exact yE w2 _,rfl,by simpa [cellsOf] using Own.nil _ 9,(fun v hv=>by cases hv),(fun v hv=>by cases hv),by rw [←hR];exact hb2.size,(fun g e=>by simp [Value.ownBlock] at e)⟩,Alike.new HCF0.out,rfl,yB _,HLG.out.symm⟩,
     (Keep.of_below hb2 (yB _) (fun _=>False)).trans (Keep.alloc (fun _=>False) w2 _) (fun _ _ h=>h) (fun _ _ h=>h)⟩)
   have HRE:=yA hR;clear hb2 hE0 hR
   have hone:∀ u ∈ [.int .i64 st.c.q,.int .i64 st.c.d,.int .i64 st.c.w,.int .i64 st.c.ttl,.int .i64 st.c.b,.slice none 0 0],Value.oneCell' u=true:=fun u hu=>by
    simp only [List.mem_cons,List.not_mem_nil,or_false] at hu;rcases hu with rfl | rfl | rfl | rfl | rfl | rfl <;> rfl
   go_upto_region 5 with (first | ((with_reducible refine ah (o:=⟨none,.store 50 (.tmp 8) (.tmp 27),_,_,_,_⟩) ?_ 50 (.tmp 8) (.tmp 27) ?_ _ #[.int .i64 st.c.q,.int .i64 st.c.d,.int .i64 st.c.w,.int .i64 st.c.ttl,.int .i64 st.c.b,.slice none 0 0] ?_ ?_ [.int .i64 st.c.q,.int .i64 st.c.d,.int .i64 st.c.w,.int .i64 st.c.ttl,.int .i64 st.c.b,.slice none 0 0] ?_ ?_ ?_ hone ?_);rfl;rfl;rfl;rfl;rfl;exact vS;rfl))
   clear hone;try rw [HRE.out]
   generalize w2.alloc (.cells #[.int .i64 st.c.q,.int .i64 st.c.d,.int .i64 st.c.w,.int .i64 st.c.ttl,.int .i64 st.c.b,.slice none 0 0] 50)=w3 at *;go_wp2_with fail
   go_loopw [10] (fun i wr=>Hid (∃ j:Nat,i = .int .i64 j∧j≤vs.length∧RgAt W1 R vs st.c k (fm l0) j wr)) (fun i _=>vs.length - (intOf i).toNat)
   case atStart=>exact yA ⟨0,rfl,Nat.zero_le _,HL0.out⟩
   case round=>
    clear HL0;obtain ⟨j,rfl,hj,hl⟩:=hrel.out;clear hrel;have HRJ:=yA (HRS.out.keepA hl.keep (fun _ h=>h.elim));have HTJ:=yA (hl.keep.old HT2.out id);have HLJ:=yA hl;have hvn:=HVN.out;have hm9:=HM.out;clear hl;by_cases hlt:j<vs.length
    · obtain ⟨v,hv⟩:∃ v,vs[j]?=some v:=⟨vs[j],yC hlt⟩
      obtain ⟨b,o,hbo,_⟩:=HRJ.out.own.rdc.place (by rw [cellsOf_length _ 9 RV.cells_length];omega);have HCE:=yA (fun (i:Nat) (u:Value) (hu:v.cells[i]?=some u)=>show wr.cell? ⟨b,o+j*9+i,none⟩=some u from bf RV.cells_length (by rw [←hbo];exact HRJ.out.own.rdc) hv i u hu);have HIN:=yA (HRJ.out.ins v (yP hv));have HLW:=yA (HRS.out.lowV v (yP hv));have HVX:=yA (show (vs.map (·.x))[j]?=some v.x from by rw [zW,hv];rfl)
      obtain ⟨a,ts,tv,tn,hro,hal,hac,htn,hvf⟩:=HLJ.out.ex;have HAL:=yA hal;have HAC:=yA hac;have HVF:=yA hvf;have HRO:=yA hro;have HNX:=yA (hal.see v);have hso:=hbo;clear hv hro hal hac hvf hbo;subst hso;go_wp2_with (first | ((with_reducible refine aa (o:=⟨some 38,_,_,_,_,_⟩) ?_ 34 (.tmp 37) ?_ b (o+j*9) ?_ v.cells #[.int .i64 v.x.tick,.slice v.wo v.wn v.wc,.slice v.ko v.kn v.kc,.int .i64 v.x.rows,.int .i64 v.x.cols,.slice v.eo v.en v.ec,.slice v.po v.pn v.pc,.slice v.yo v.yn v.yc,.slice v.zo v.zn v.zc] ?_ _ HCE.out Tryz.underlying34 ?_ ?_ ?_);rfl;rfl;rfl;rfl;rfl;exact bt))
      refine (vw W1.heap.size wr st.c ts R tv tn v HRO.out HIN.out HLW.out HLJ.out.keep.size HCF0.out (fun u hu=>fH HAL.out.cf (HAL.out.good u hu)) (by omega)).mono ?_;rintro e w4 ⟨rfl,tv2,tn2,hro2,hk4,_⟩
      have HK4:=yA (show Keep (fun _=>False) W1 w4 from HLJ.out.keep.trans hk4 (fun _ _ h=>h) (fun i hi e=>by
       rcases e with e | e
       · have h1:=HRO.out.rN
         omega
       · have h1:=(HRO.out.oN _ e).1
         omega))
      have HRO4:=yA hro2;have HEQ:=yA (show (fF st.c ts v).1=(dj a v.x).1 from by rw [HNX.out.1,HAC.out]);rw [HEQ.out];clear hro2 hk4 HCE;by_cases hz:(dj a v.x).1=0
      · have b1:((dj a v.x).1 != 0)=false:=by simp [hz]
        have HLN:=yA (show RgAt W1 R vs st.c k (fm l0) (j+1) w4 from ⟨⟨_,_,tv2,tn2,HRO4.out,by have h:=HNX.out.2.1;rwa [HAC.out] at h,by rw [HNX.out.2.2.1];exact HAC.out,by
         have h1:=HNX.out.2.2.2;have h2:=HRO4.out.len;have h3:=HRO.out.len;rw [HAC.out] at h1;omega,by rw [←HVF.out];exact (oK HVX.out hz).symm⟩,HK4.out⟩)
        clear hz;go_wp2_with fail
        go_roundw
        case rel=>exact yA ⟨j+1,by go_num,by omega,HLN.out⟩
        case measure=>simp [intOf];omega
      · have b1:((dj a v.x).1 != 0)=true:=by simp [hz]
        have HTOT:=yA (show fm l0=(j,(dj a v.x).1) from by rw [←HVF.out];exact re HVX.out hz);clear hz HEQ;generalize (dj a v.x).1=z at *;have HTH:=yA (show w4.there B 0 (#[.int .i64 (j:Int),.int .i64 (j:Int),.int .i64 z]:Array Value).size from aw (HK4.out.old HT2.out id) (yB 3));have szv:(Tryz.prog.info? 62).map (·.size)=some (#[.int .i64 (j:Int),.int .i64 (j:Int),.int .i64 z]:Array Value).size:=bF
        go_wp2_with (first | ((with_reducible refine ze (op:=⟨none,.store 62 (.tmp 2) (.tmp 45),_,_,_,_⟩) ?_ 62 (.tmp 2) (.tmp 45) ?_ B 0 #[.int .i64 (j:Int),.int .i64 (j:Int),.int .i64 z] ?_ ?_ HTH.out szv ?_ ?_);rfl;rfl;rfl;rfl;exact yU (mC j j z)))
        refine yS (v:=.agg #[.int .i64 (j:Int),.int .i64 (j:Int),.int .i64 z]) (aW 2 62 Tryz.results25 B rfl [.int .i64 (j:Int),.int .i64 (j:Int),.int .i64 z] _ rfl _ (yJ _ B 0 [.int .i64 (j:Int),.int .i64 (j:Int),.int .i64 z] HTH.out) Tryz.underlying62 rfl bF) ?_ (HPUT.out _ (fun _=>False) (HKA.out.trans HK4.out (fun _ _ h=>h) (fun _ _ h=>h)) (fun k hk=>hk.elim) (j,z) HTOT.out);rfl
    · obtain rfl:vs.length=j:=by omega
      have HTOT:=yA (show fm l0=(vs.length,k) from by
       obtain ⟨a,ts,_,_,_,_,_,_,hvf⟩:=HLJ.out.ex;rw [←hvf];exact rc _ _ _ _ (by simp))
      have HKV:=yA (yE wr (.cells #[.int .i64 (vs.length:Int),.int .i64 (vs.length:Int),.int .i64 0] 62));have HKWV:=yA (HLJ.out.keep.trans (Keep.alloc (fun _=>False) wr (.cells #[.int .i64 (vs.length:Int),.int .i64 (vs.length:Int),.int .i64 0] 62)) (Z:=fun _=>False) (fun _ _ h=>h) (fun _ _ h=>h));have hwl:=yA (show W1.heap.size≤wr.heap.size from HLJ.out.keep.size);clear HLJ HRJ hlt hj;obtain ⟨KV,hKV⟩:∃ KV,wr.heap.size=KV:=⟨_,rfl⟩;go_upto_region 12 with (first | ((with_reducible refine ah (o:=⟨none,.store 62 (.tmp 12) (.tmp 50),_,_,_,_⟩) ?_ 62 (.tmp 12) (.tmp 50) ?_ _ #[.int .i64 (vs.length:Int),.int .i64 (vs.length:Int),.int .i64 0] ?_ ?_ [.int .i64 (vs.length:Int),.int .i64 (vs.length:Int),.int .i64 0] ?_ ?_ ?_ (mC vs.length vs.length 0) ?_);rfl;rfl;rfl;rfl;rfl;exact bF;rfl))
      generalize wr.alloc (.cells #[.int .i64 (vs.length:Int),.int .i64 (vs.length:Int),.int .i64 0] 62)=WV at *;rw [hKV] at HKV hwl;have HKVE:=yA hKV
      have HXF:=yA (show ∀ k,(False∨k=KV)→W1.heap.size≤k from fun k hk=>by
       rcases hk with hk | rfl
       · exact hk.elim
       · exact hwl.out)
      clear hKV;by_cases hpl:st.pos<n
      · have b1:((st.pos:Int) != (n:Int))=true:=by simp;omega
        have hpe:¬ st.pos=n:=by omega
        obtain rfl:k=250:=by rw [←HKK.out,if_pos hpl]
        have HKF:=yA (HKWV.out.trans (aS WV KV 2 (.int .i64 250)) (Z:=fun k=>False∨k=KV) (fun _ _ h=>.inl h) (fun _ _ h=>.inr h))
        have HCV:=yA (fun (j:Nat) (u:Value) (hu:[Value.int .i64 (vs.length:Int),.int .i64 (vs.length:Int),.int .i64 250][j]?=some u)=>show (WV.setCell ⟨KV,2,none⟩ (.int .i64 250)).cell? ⟨KV,0+j,none⟩=some u from by
         rw [yO,yI _ _ _ _ _ (0,0) (aj HKV.out 2 (.int .i64 250)),←hu];simp)
        have z2:WV.cell? ⟨KV,2,none⟩=some (.int .i64 0):=by rw [yI _ _ _ _ _ (0,0) HKV.out];rfl
        have zf:=fun j=>frozen_of_row WV KV j _ _ HKV.out
        have HTH:=yA (show (WV.setCell ⟨KV,2,none⟩ (.int .i64 250)).there B 0 (#[.int .i64 (vs.length:Int),.int .i64 (vs.length:Int),.int .i64 250]:Array Value).size from aw (HKF.out.old HT2.out (fun e=>by have h1:=HXF.out B e;have h2:=lt_of_block HT2.out;omega)) (yB 3));have szv:(Tryz.prog.info? 62).map (·.size)=some (#[.int .i64 (vs.length:Int),.int .i64 (vs.length:Int),.int .i64 250]:Array Value).size:=bF
        go_wp2_with (first | ((with_reducible refine aa (o:=⟨some 56,_,_,_,_,_⟩) ?_ 62 (.tmp 12) ?_ KV 0 ?_ [.int .i64 (vs.length:Int),.int .i64 (vs.length:Int),.int .i64 250] #[.int .i64 (vs.length:Int),.int .i64 (vs.length:Int),.int .i64 250] ?_ _ HCV.out Tryz.underlying62 ?_ ?_ ?_);rfl;rfl;rfl;rfl;rfl;exact bF) | ((with_reducible refine ze (op:=⟨none,.store 62 (.tmp 2) (.tmp 56),_,_,_,_⟩) ?_ 62 (.tmp 2) (.tmp 56) ?_ B 0 #[.int .i64 (vs.length:Int),.int .i64 (vs.length:Int),.int .i64 250] ?_ ?_ HTH.out szv ?_ ?_);rfl;rfl;rfl;rfl;exact yU (mC vs.length vs.length 250)))
        refine yS (v:=.agg #[.int .i64 (vs.length:Int),.int .i64 (vs.length:Int),.int .i64 250]) (aW 2 62 Tryz.results25 B rfl [.int .i64 (vs.length:Int),.int .i64 (vs.length:Int),.int .i64 250] _ rfl _ (yJ _ B 0 [.int .i64 (vs.length:Int),.int .i64 (vs.length:Int),.int .i64 250] HTH.out) Tryz.underlying62 rfl bF) ?_ (HPUT.out _ (fun k=>False∨k=KV) (HKA.out.trans HKF.out (fun _ _ h=>h.elim) (fun _ _ h=>h)) (fun k hk=>by have h1:=HXF.out k hk;have h2:=HKA.out.size;omega) (vs.length,250) HTOT.out);rfl
      · have hpe:st.pos=n:=by omega
        have b1:((st.pos:Int) != (n:Int))=false:=by simp [hpe]
        obtain rfl:k=0:=by rw [←HKK.out,if_neg hpl]
        have HKF:=yA (HKWV.out.mono (Z:=fun k=>False∨k=KV) (fun _ _ h=>.inl h))
        have HCV:=yA (fun (j:Nat) (u:Value) (hu:[Value.int .i64 (vs.length:Int),.int .i64 (vs.length:Int),.int .i64 0][j]?=some u)=>show WV.cell? ⟨KV,0+j,none⟩=some u from by
         rw [yO,yI _ _ _ _ _ (0,0) HKV.out,←hu];simp)
        have HTH:=yA (show (WV).there B 0 (#[.int .i64 (vs.length:Int),.int .i64 (vs.length:Int),.int .i64 0]:Array Value).size from aw (HKF.out.old HT2.out (fun e=>by have h1:=HXF.out B e;have h2:=lt_of_block HT2.out;omega)) (yB 3));have szv:(Tryz.prog.info? 62).map (·.size)=some (#[.int .i64 (vs.length:Int),.int .i64 (vs.length:Int),.int .i64 0]:Array Value).size:=bF
        go_wp2_with (first | ((with_reducible refine aa (o:=⟨some 56,_,_,_,_,_⟩) ?_ 62 (.tmp 12) ?_ KV 0 ?_ [.int .i64 (vs.length:Int),.int .i64 (vs.length:Int),.int .i64 0] #[.int .i64 (vs.length:Int),.int .i64 (vs.length:Int),.int .i64 0] ?_ _ HCV.out Tryz.underlying62 ?_ ?_ ?_);rfl;rfl;rfl;rfl;rfl;exact bF) | ((with_reducible refine ze (op:=⟨none,.store 62 (.tmp 2) (.tmp 56),_,_,_,_⟩) ?_ 62 (.tmp 2) (.tmp 56) ?_ B 0 #[.int .i64 (vs.length:Int),.int .i64 (vs.length:Int),.int .i64 0] ?_ ?_ HTH.out szv ?_ ?_);rfl;rfl;rfl;rfl;exact yU (mC vs.length vs.length 0)))
        refine yS (v:=.agg #[.int .i64 (vs.length:Int),.int .i64 (vs.length:Int),.int .i64 0]) (aW 2 62 Tryz.results25 B rfl [.int .i64 (vs.length:Int),.int .i64 (vs.length:Int),.int .i64 0] _ rfl _ (yJ _ B 0 [.int .i64 (vs.length:Int),.int .i64 (vs.length:Int),.int .i64 0] HTH.out) Tryz.underlying62 rfl bF) ?_ (HPUT.out _ (fun k=>False∨k=KV) (HKA.out.trans HKF.out (fun _ _ h=>h.elim) (fun _ _ h=>h)) (fun k hk=>by have h1:=HXF.out k hk;have h2:=HKA.out.size;omega) (vs.length,0) HTOT.out);rfl
def jw (b:List UInt8):List Int:=b.map fun x=>(x.toNat:Int)
theorem qw (b:List UInt8):cellsOf ai (jw b)=bh b:=by
 induction b with
 | nil=>rfl
 | cons x b ih=>simpa [jw,bh,cellsOf,ai] using ih
theorem ur (b:List UInt8):(jw b).length=b.length:=by simp [jw]
theorem ow (b:List UInt8):Byt (jw b):=fun x hx=>by
 obtain ⟨y,_,rfl⟩:=List.mem_map.1 hx;have:=y.toNat_lt
 show (0:Int)≤(y.toNat:Int)∧(y.toNat:Int)≤255
 omega
theorem qx {w:World} {ao:Option Addr} {b:List UInt8} (h:Rd w ao b):RdC w ao (cellsOf ai (jw b)):=by
 rw [qw];rcases h with rfl | ⟨c,o,rfl,hc⟩
 · exact .inl rfl
 · refine .inr ⟨c,o,rfl,fun j u hu=>?_⟩
   simp only [bh,zW] at hu;by_cases hj:j<b.length
   · rw [yC hj] at hu
     cases hu
     exact hc j hj
   · rw [List.getElem?_eq_none (by omega)] at hu
     cases hu
theorem xR {w:World} {g k:Nat} {b:List UInt8} {s:UInt8} (h:Row w g (k+1) 1 (bh (b++[s]))):Rd w (some ⟨g,0,none⟩) b:=by
 refine .inr ⟨g,0,rfl,fun i hi=>?_⟩;rw [yO];refine h.cell i _ ?_;simp only [bh,zW];rw [List.getElem?_append_left hi,yC hi];rfl
theorem xS (d:Nat) (w:World) (x0 y0 x1 y1 x2 y2:Int):(Op.equalIn (d+2) 62 (.agg #[.int .i64 x0,.int .i64 x1,.int .i64 x2]) (.agg #[.int .i64 y0,.int .i64 y1,.int .i64 y2])).run Tryz.prog w = .ok ((x0==y0 && (x1==y1 && x2==y2))) w:=by
 refine qi Tryz.underlying62 (by kernel_rfl) ?_;refine dp (by rfl) (by go_simp;rfl) (by go_simp;rfl) (by go_simp) ?_;refine dp (by rfl) (by go_simp;rfl) (by go_simp;rfl) (by go_simp) ?_;exact kx (by rfl) (by go_simp;rfl) (by go_simp;rfl) (by go_simp)
theorem vU (x0 x1 x2:Int) (w:World):(Op.equalIn 10000 62 (.agg #[.int .i64 x0,.int .i64 x1,.int .i64 x2]) (.agg #[.int .i64 x0,.int .i64 x1,.int .i64 x2])).run Tryz.prog w = .ok true w:=by
 rw [xS 9998 w x0 x0 x1 x1 x2 x2];simp
theorem vV (w:World) (ao:Option Addr) (n cap:Nat) (b:List UInt8) (hbk:b.length=n) (hrb:Rd w ao b) (hcap:n≤cap) (hn:n≤9223372036854775807) (hlow:∀ a,ao=some a→a.block<w.heap.size) :
 Calls Tryz.prog 5 #[.slice ao n cap] w fun e w'=>e = .returned (.bool true)∧Below w.heap.size w w':=by
 have HL:=yA hbk;have HRB:=yA hrb;have HCP:=yA hcap;have HLO:=yA hlow;have HCE:=yA (show (w.alloc (.cells #[.int .i64 (n:Int)] 3)).cell? ⟨w.heap.size,0,none⟩=some (.int .i64 (n:Int)) by rw [yI _ _ _ _ _ (0,0) (yE w _)];rfl);have HB0:=yA (gO w (.cells #[.int .i64 (n:Int)] 3));clear hbk hrb hcap hlow;go_enter Tryz.func5,Tryz.ntmps5
 go_wp2_with fail
 refine (rC _ w.heap.size n HCE.out ⟨by omega,by omega⟩).mono ?_;rintro e w1 ⟨rfl,rfl⟩;generalize w.alloc (.cells #[.int .i64 (n:Int)] 3)=w1 at *;by_cases hbig:1048576<n
 · have b1:decide ((1048576:Int)<(n:Int))=true:=decide_eq_true (by omega)
   go_wp2_with fail
   go_ret
   exact ⟨rfl,HB0.out⟩
 · have b1:decide ((1048576:Int)<(n:Int))=false:=decide_eq_false (by omega)
   have HM:=yA (show n≤1048576 by omega);clear hn;go_wp2_with fail
   refine (vc w1 ao n cap b HL.out (Below.rd HB0.out HRB.out (yB _)) (by omega)).mono ?_;rintro e w2 ⟨rfl,hrow,hb2⟩;obtain ⟨G,hG⟩:∃ G,w1.heap.size=G:=⟨_,rfl⟩;have HROW:=yA hrow;rw [hG] at HROW;try rw [hG]
   have HB2:=yA (Below.next HB0.out hb2);clear hrow hb2 hG b1;go_wp2_with fail
   obtain ⟨p1,p2,hp⟩:∃ (p1:Nat) (p2:Int),fm (jw b)=(p1,p2):=⟨_,_,rfl⟩;have HLB:=yA (show (jw b).length=n from by rw [ur,HL.out])
   have HGL:=yA (show ∀ wx,Below w2.heap.size w2 wx→∀ a,some (⟨G,0,none⟩:Addr)=some a→a.block<wx.heap.size from fun wx hb a e=>by
    cases e
    exact za HROW.out.lt hb.size)
   have HA1:=yA (fun (wx:World) (hb:Below w2.heap.size w2 wx)=>show Calls Tryz.prog 24 #[.slice (some ⟨G,0,none⟩) n (n+1)] wx fun e w''=>e = .returned (.agg #[.int .i64 (p1:Int),.int .i64 (p1:Int),.int .i64 p2])∧Below wx.heap.size wx w'' from
    (vk wx (some ⟨G,0,none⟩) n (n+1) (jw b) HLB.out (ow b) HM.out (Nat.le_succ n) (qx (xR (HROW.out.keep (Keep.of_below hb (yB _) (fun _=>False)) id))) (HGL.out wx hb)).mono fun e w'' h=>by
      refine ⟨?_,h.1⟩;have h2:=h.2;rw [hp] at h2;exact h2)
   have HA2:=yA (fun (wx:World) (hb:Below w2.heap.size w2 wx)=>show Calls Tryz.prog 25 #[.slice ao n cap] wx fun e w''=>e = .returned (.agg #[.int .i64 (p1:Int),.int .i64 (p1:Int),.int .i64 p2])∧Below wx.heap.size wx w'' from
    (vT wx ao n cap (jw b) HLB.out (ow b) HM.out HCP.out (qx (Below.rd (Below.next HB2.out hb) HRB.out (yB _))) (fun a e=>za (HLO.out a e) (yV HB2.out.size hb.size))).mono fun e w'' h=>by
      refine ⟨?_,h.1⟩;have h2:=h.2;rw [hp] at h2;exact h2)
   have HA3:=yA (fun (wx:World) (hb:Below w2.heap.size w2 wx)=>vd wx G ao n cap b HL.out (HROW.out.keep (Keep.of_below hb (yB _) (fun _=>False)) id) (Below.rd (Below.next HB2.out hb) HRB.out (yB _)) (by have:=HM.out;omega));clear hp;refine (HA1.out w2 (Below.refl _ _)).mono ?_;rintro e w3 ⟨rfl,hb3⟩;have HB3:=yA hb3;clear hb3;have HB4:=yA (show Below w2.heap.size w2 (w3.alloc (.cells #[.int .i64 (p1:Int),.int .i64 (p1:Int),.int .i64 p2] 62)) from Below.next HB3.out (gO w3 _));have HT4:=yA (yE w3 (.cells #[.int .i64 (p1:Int),.int .i64 (p1:Int),.int .i64 p2] 62));go_upto_region 5 with (first | ((with_reducible refine ah (o:=⟨none,.store 62 (.tmp 4) (.tmp 12),_,_,_,_⟩) ?_ 62 (.tmp 4) (.tmp 12) ?_ _ #[.int .i64 (p1:Int),.int .i64 (p1:Int),.int .i64 p2] ?_ ?_ [.int .i64 (p1:Int),.int .i64 (p1:Int),.int .i64 p2] ?_ ?_ ?_ (mC p1 p1 p2) ?_);rfl;rfl;rfl;rfl;rfl;exact bF;rfl))
   obtain ⟨T,hT⟩:∃ T,w3.heap.size=T:=⟨_,rfl⟩;rw [hT] at HT4;try rw [hT]
   clear hT;generalize w3.alloc (.cells #[.int .i64 (p1:Int),.int .i64 (p1:Int),.int .i64 p2] 62)=w4 at *;have k0:=cell_regrown (show w4.cell? ⟨T,0,none⟩=some (.int .i64 (p1:Int)) by rw [yI _ _ _ _ _ (0,0) HT4.out];rfl);have k1:=cell_regrown (show w4.cell? ⟨T,1,none⟩=some (.int .i64 (p1:Int)) by rw [yI _ _ _ _ _ (0,0) HT4.out];rfl);have k2:=cell_regrown (show w4.cell? ⟨T,2,none⟩=some (.int .i64 p2) by rw [yI _ _ _ _ _ (0,0) HT4.out];rfl);have heq:=vU (p1:Int) (p1:Int) p2;have HBG:=yA (fun dd os=>show Below w2.heap.size w2 (grow (redrawn w4 dd) os) from Below.next HB4.out (below_regrown w4 dd os));have cQ1:=fun dd os=>zP (HA1.out (grow (redrawn w4 dd) os) (HBG.out dd os))
   have cQ2:=fun dd os=>zP (HA2.out (grow (redrawn w4 dd) os) (HBG.out dd os))
   have cQ3:=fun dd os=>zP (HA3.out (grow (redrawn w4 dd) os) (HBG.out dd os))
   have cQ4:=fun dd os=>zP (uq (grow (redrawn w4 dd) os))
   simp only [Act.put];refine wp_region_quiet_below (by kernel_rfl) (by kernel_rfl) ?_
   iterate 2 (go_big_quiet_step (fail))
   go_big_quiet_step (exact cQ2 _ _)
   iterate 3 (go_big_quiet_step (fail))
   go_big_quiet_step (exact cQ1 _ _)
   iterate 6 (go_big_quiet_step (fail))
   go_big_quiet_step (exact cQ3 _ _)
   iterate 2 (go_big_quiet_step (fail))
   go_big_quiet_step (exact cQ4 _ _)
   iterate 2 (go_big_quiet_step (fail))
   refine wpQuiet_nil ?_;rintro _ ⟨⟨dq,osq⟩,rfl⟩;have HE:=yA (Below.next HB2.out (HBG.out dq osq));clear k0 k1 k2 heq cQ1 cQ2 cQ3 cQ4;generalize grow (redrawn w4 dq) osq=w5 at *;go_wp2_with fail
   go_ret
   exact ⟨rfl,HE.out⟩
end Go.Proofs.YtcaicgipibcicaaGreat
