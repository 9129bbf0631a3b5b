/- audit.Log. -/
import Derived.Test.YtcaicgipibcicaaGreatQBegins
import Derived.Test.YtcaicgipibcicaaGreatQRdJr
import Derived.Test.YtcaicgipibcicaaGreatQRowB
import Derived.Test.YtcaicgipibcicaaGreatQAuSee
import Derived.Test.YtcaicgipibcicaaGreatQAuMap
import Derived.Test.YtcaicgipibcicaaGreatQRdPs0
import Derived.Test.YtcaicgipibcicaaGreatQSumA
import Derived.Deep.RegionLaw
import Derived.Test.YtcaicgipibcicaaGreatQRdM
import Derived.Test.YtcaicgipibcicaaGreatQRdX
import Derived.Test.YtcaicgipibcicaaGreatQRdY
import Derived.BigRegion
import Derived.Test.YtcaicgipibcicaaGreatQRdG5
import Derived.Test.YtcaicgipibcicaaGreatQRdR1
import Derived.Test.YtcaicgipibcicaaGreatQAuRef6
import Derived.Test.YtcaicgipibcicaaGreatQApp2
import Derived.Test.YtcaicgipibcicaaGreatQRdD2
import Derived.Test.YtcaicgipibcicaaGreatQRdPl
import Derived.Test.YtcaicgipibcicaaGreatQRdP2
import Derived.Test.YtcaicgipibcicaaGreatQRecCk2
import Derived.Test.YtcaicgipibcicaaGreatQHeldTail
import Derived.Test.YtcaicgipibcicaaGreatQLoadE
import Derived.Test.YtcaicgipibcicaaGreatQRGraph
import Derived.Test.YtcaicgipibcicaaGreatQRdRg
import Derived.Test.YtcaicgipibcicaaGreatQRdJ
set_option maxRecDepth 100000
set_option maxHeartbeats 16000000
set_option linter.unusedSimpArgs false
set_option linter.unusedVariables false
open Go renaming all_oneCell_toArray→xz,bodyPost_ret→xe,cell_of_row→wG,heap_alloc_new→wF,lt_of_block→wJ,wpList_store_mid→xG
open Go.Lib renaming hid→wB
open Go.World renaming rangeAt_setCells_same→wT
open List renaming mem_of_getElem?→wM
open Nat renaming le_refl→wC,zero_add→wL
namespace Go.Proofs.YtcaicgipibcicaaGreat
open Go.RowKit Go.Sort
theorem cA:(Tryz.prog.info? 62).map (·.size)=some 3:=by kernel_rfl
theorem pU (a b c:Int):∀ u ∈ [Value.int .i64 a,.int .i64 b,.int .i64 c],u.oneCell'=true:=by
 intro u hu;simp only [List.mem_cons,List.not_mem_nil,or_false] at hu;rcases hu with rfl | rfl | rfl <;> rfl
theorem ck (w:World) (o:Obj):Below w.heap.size w (w.alloc o):=(Below.refl w.heap.size w).alloc (wC _) o
theorem eF (w:World) (ao:Option Addr) (n cap:Nat) (l0:List Int) (hn:l0.length=n) (hb:Byt l0) (hm:n≤1048576) (hcap:n≤cap) (hr:RdC w ao (cellsOf ah l0)) (hlow:∀ a,ao=some a→a.block<w.heap.size) :
 Calls Tryz.prog 24 #[.slice ao n cap] w (rt w l0):=by
 have HN:=wB hn;have HBY:=wB hb;have HM:=wB hm;have HCP:=wB hcap;have hb0:=(Below.refl w.heap.size w).alloc (wC _) (.cells #[.int .i64 0,.int .i64 0,.int .i64 0] 62);have HT0:=wB (wF w (.cells #[.int .i64 0,.int .i64 0,.int .i64 0] 62));have HB0:=wB hb0;have HR0:=wB (hr.below hb0);have HLO:=wB (fun a e=>Nat.lt_of_lt_of_le (hlow a e) hb0.size);clear hn hb hm hcap hr hlow hb0;go_enter Tryz.func24,Tryz.ntmps24
 go_wp2_with fail
 generalize w.alloc (.cells #[.int .i64 0,.int .i64 0,.int .i64 0] 62)=W at *;obtain ⟨B,hBE⟩:∃ B,w.heap.size=B:=⟨_,rfl⟩;have HBE:=wB hBE;rw [hBE] at HT0 ⊢;clear hBE;refine (mS W ao n cap l0 HN.out HBY.out (by have:=HM.out;omega) HCP.out HR0.out HLO.out).mono ?_;rintro e w1 ⟨hb1,st,hst,hif⟩;have HT1:=wB ((Keep.of_below hb1 (wC _) (fun _=>False)).old HT0.out id);have HB1:=wB (Below.next HB0.out hb1);have HWW:=wB (show w.heap.size≤W.heap.size from HB0.out.size);have HST:=wB hst;have HINV:=wB (jw l0);rw [hst] at HINV;clear hb1 hst HT0 HB0
 have HPUT:=wB (fun (wX:World) (X:Nat→Prop) (hk:Keep X w1 wX) (hx:∀ k,X k→w1.heap.size≤k) (p:Nat × Int) (hlg:bR l0=p)=>show rt w l0 (.returned (.agg #[.int .i64 (p.1:Int),.int .i64 (p.1:Int),.int .i64 p.2])) (wX.setCells B 0 [.int .i64 (p.1:Int),.int .i64 (p.1:Int),.int .i64 p.2]) from by
  have hkB:=Keep.setCells wX B 0 [.int .i64 (p.1:Int),.int .i64 (p.1:Int),.int .i64 p.2];have h1:=hk.below HB1.out.size (fun i hi e=>by have:=hx i e;have:=HB1.out.size;omega);refine ⟨(HB1.out.trans h1).trans (hkB.below (Nat.le_trans HB1.out.size hk.size) (fun i hi e=>by have:=HBE.out;omega)),?_⟩;rw [hlg])
 by_cases hp:st.pos=0
 · rw [if_pos hp] at hif
   subst hif;have HLG:=wB (show bR l0=(0,250) from by unfold bR;rw [HST.out,if_pos hp]);have HKA:=wB (Keep.alloc (fun _=>False) w1 (.cells #[.int .i64 0,.int .i64 0,.int .i64 0,.int .i64 0,.int .i64 0] 23));have HTH:=wB (show (w1.alloc (.cells #[.int .i64 0,.int .i64 0,.int .i64 0,.int .i64 0,.int .i64 0] 23)).there B 0 (#[.int .i64 0,.int .i64 0,.int .i64 250]:Array Value).size from aP (HKA.out.old HT1.out id) (wC 3));have szv:(Tryz.prog.info? 62).map (·.size)=some (#[.int .i64 0,.int .i64 0,.int .i64 250]:Array Value).size:=cA
   clear hp;go_wp2_with (first | ((with_reducible refine aj (o:=⟨none,.store 23 (.tmp 3) (.tmp 16),_,_,_,_⟩) ?_ 23 (.tmp 3) (.tmp 16) ?_ _ #[.int .i64 gi.q,.int .i64 gi.d,.int .i64 gi.w,.int .i64 gi.ttl,.int .i64 gi.b] ?_ ?_ gi.cells ?_ ?_ ?_ gi.cells_one ?_);rfl;rfl;rfl;rfl;rfl;exact cg;rfl) | ((with_reducible refine xG (op:=⟨none,.store 62 (.tmp 2) (.tmp 23),_,_,_,_⟩) ?_ 62 (.tmp 2) (.tmp 23) ?_ B 0 #[.int .i64 0,.int .i64 0,.int .i64 250] ?_ ?_ HTH.out szv ?_ ?_);rfl;rfl;rfl;rfl;exact xz (pU 0 0 250)))
   exact xe (v:=.agg #[.int .i64 0,.int .i64 0,.int .i64 250]) (bV 2 62 Tryz.results24 B rfl [.int .i64 0,.int .i64 0,.int .i64 250] _ rfl _ (wT _ B 0 [.int .i64 0,.int .i64 0,.int .i64 250] HTH.out) Tryz.underlying62 rfl cA) rfl (HPUT.out _ (fun _=>False) HKA.out (fun _ h=>h.elim) (0,250) HLG.out)
 · rw [if_neg hp] at hif
   obtain ⟨so,sc,vs,rfl,hvs,hrs,hle⟩:=hif;obtain ⟨k,hk⟩:∃ k:Int,(if st.pos<n then (250:Int) else 0)=k:=⟨_,rfl⟩;have HKK:=wB hk;have HLG:=wB (show bR l0=eR ⟨st.c,0,[]⟩ ((vs.map (·.x)).drop 0) 0 k from by unfold bR;rw [HST.out,if_neg hp,HN.out,hk,hvs,List.drop_zero])
   have HCF0:=wB (iz (HINV.out.1 hp));have HVN:=wB (show vs.length≤n from by have h1:=HINV.out.2;rw [←hvs,List.length_map] at h1;rw [←HN.out];omega);have hpn:st.pos≤n:=by rw [←HN.out];exact hle
   obtain ⟨W1,hW1⟩:∃ W1,w1.alloc (.cells #[.int .i64 st.c.q,.int .i64 st.c.d,.int .i64 st.c.w,.int .i64 st.c.ttl,.int .i64 st.c.b] 23)=W1:=⟨_,rfl⟩;have HW1E:=wB hW1;have HKA:=wB (show Keep (fun _=>False) w1 W1 from by rw [←hW1];exact Keep.alloc _ _ _);obtain ⟨CB,hCB⟩:∃ CB,w1.heap.size=CB:=⟨_,rfl⟩;have HCFR:=wB (show W1.heap[CB]?=some (.cells #[.int .i64 st.c.q,.int .i64 st.c.d,.int .i64 st.c.w,.int .i64 st.c.ttl,.int .i64 st.c.b] 23 (0,0)) from by rw [←hW1,←hCB];exact wF w1 _)
   have HCF:=wB (fun (j:Nat) (u:Value) (hu:st.c.cells[j]?=some u)=>show (w1.alloc (.cells #[.int .i64 st.c.q,.int .i64 st.c.d,.int .i64 st.c.w,.int .i64 st.c.ttl,.int .i64 st.c.b] 23)).cell? ⟨w1.heap.size,0+j,none⟩=some u from by
    rw [wL,hW1,hCB,wG _ _ _ _ _ (0,0) HCFR.out,←hu];simp [ag.cells])
   have HT2:=wB (HKA.out.old HT1.out id);have HRS:=wB (hrs.keepA HKA.out (fun _ h=>h.elim));clear hvs hrs hle hp hk hW1 hCB;go_wp2_with (first | ((with_reducible refine aj (o:=⟨none,.store 23 (.tmp 3) (.tmp 16),_,_,_,_⟩) ?_ 23 (.tmp 3) (.tmp 16) ?_ _ #[.int .i64 st.c.q,.int .i64 st.c.d,.int .i64 st.c.w,.int .i64 st.c.ttl,.int .i64 st.c.b] ?_ ?_ st.c.cells ?_ ?_ ?_ st.c.cells_one ?_);rfl;rfl;rfl;rfl;rfl;exact cg;rfl) | ((with_reducible refine ad (o:=⟨some 25,_,_,_,_,_⟩) ?_ 23 (.tmp 3) ?_ w1.heap.size (0) ?_ st.c.cells #[.int .i64 st.c.q,.int .i64 st.c.d,.int .i64 st.c.w,.int .i64 st.c.ttl,.int .i64 st.c.b] ?_ _ HCF.out Tryz.underlying23 ?_ ?_ ?_);rfl;rfl;rfl;rfl;rfl;exact cg))
   rw [HW1E.out];clear HCF;refine (my W1 st.c).mono ?_;rintro e w2 (⟨hc,_⟩ | ⟨hc,A,M,rfl,hb2,hau,hA,hM,hAM⟩)
   · rw [HCF0.out] at hc;cases hc
   have HAM:=wB (show W1.heap.size≤A∧W1.heap.size≤M∧A≠M from ⟨hA,hM,hAM⟩);have HL0:=wB (show LgAt W1 A M vs st.c k (bR l0) 0 w2 from ⟨⟨_,[],hau,Alike.new hc,rfl,HLG.out.symm⟩,Keep.of_below hb2 (wC _) _⟩);clear hc hb2 hau hA hM hAM;go_wp2_with fail
   go_loopw [31] (fun i wr=>Hid (∃ j:Nat,i = .int .i64 j∧j≤vs.length∧LgAt W1 A M vs st.c k (bR l0) j wr)) (fun i _=>vs.length - (intOf i).toNat)
   case atStart=>exact wB ⟨0,rfl,Nat.zero_le _,HL0.out⟩
   case round=>
    clear HL0;obtain ⟨j,rfl,hj,hl⟩:=hrel.out;clear hrel;have HX1:=wB (show ∀ k,(k=A∨k=M)→W1.heap.size≤k from fun k hk=>by have:=HAM.out;omega);have HRJ:=wB (HRS.out.keepA hl.keep HX1.out);have HTJ:=wB (hl.keep.old HT2.out (fun e=>by have h1:=HX1.out B e;have h2:=wJ HT2.out;omega));have HLJ:=wB hl;have hvn:=HVN.out;have hm9:=HM.out;clear hl;by_cases hlt:j<vs.length
    · obtain ⟨v,hv⟩:∃ v,vs[j]?=some v:=⟨vs[j],List.getElem?_eq_getElem hlt⟩
      obtain ⟨b,o,hbo,_⟩:=HRJ.out.own.rdc.place (by rw [cellsOf_length _ 9 RV.cells_length];omega);have HCE:=wB (fun (i:Nat) (u:Value) (hu:v.cells[i]?=some u)=>show wr.cell? ⟨b,o+j*9+i,none⟩=some u from bl RV.cells_length (by rw [←hbo];exact HRJ.out.own.rdc) hv i u hu);have HIN:=wB (HRJ.out.ins v (wM hv));have HAP:=wB (HRS.out.apart HAM.out.1 HAM.out.2.1 v (wM hv));have HVX:=wB (show (vs.map (·.x))[j]?=some v.x from by rw [List.getElem?_map,hv];rfl)
      obtain ⟨a,ts,hau,hal,hac,hvf⟩:=HLJ.out.ex;have HAL:=wB hal;have HAC:=wB hac;have HVF:=wB hvf;have HAU:=wB (hau.keep (ck wr (.cells #[.int .i64 v.x.tick,.slice v.wo v.wn v.wc,.slice v.ko v.kn v.kc,.int .i64 v.x.rows,.int .i64 v.x.cols,.slice v.eo v.en v.ec,.slice v.po v.pn v.pc,.slice v.yo v.yn v.yc,.slice v.zo v.zn v.zc] 34)));have HNX:=wB (hal.see v);have HKW:=wB (HLJ.out.keep.trans (Keep.alloc (fun _=>False) wr (.cells #[.int .i64 v.x.tick,.slice v.wo v.wn v.wc,.slice v.ko v.kn v.kc,.int .i64 v.x.rows,.int .i64 v.x.cols,.slice v.eo v.en v.ec,.slice v.po v.pn v.pc,.slice v.yo v.yn v.yc,.slice v.zo v.zn v.zc] 34)) (Z:=fun k=>k=A∨k=M) (fun _ _ h=>h) (fun _ _ h=>h.elim));have HIN3:=wB (HIN.out.below (ck wr (.cells #[.int .i64 v.x.tick,.slice v.wo v.wn v.wc,.slice v.ko v.kn v.kc,.int .i64 v.x.rows,.int .i64 v.x.cols,.slice v.eo v.en v.ec,.slice v.po v.pn v.pc,.slice v.yo v.yn v.yc,.slice v.zo v.zn v.zc] 34)))
      have HCE2:=wB (fun (i:Nat) (u:Value) (hu:v.cells[i]?=some u)=>show (wr.alloc (.cells #[.int .i64 v.x.tick,.slice v.wo v.wn v.wc,.slice v.ko v.kn v.kc,.int .i64 v.x.rows,.int .i64 v.x.cols,.slice v.eo v.en v.ec,.slice v.po v.pn v.pc,.slice v.yo v.yn v.yc,.slice v.zo v.zn v.zc] 34)).cell? ⟨wr.heap.size,0+i,none⟩=some u from by
       rw [wL,wG _ _ _ _ _ (0,0) (wF wr _),←hu];simp [RV.cells])
      have hso:=hbo;clear hv hau hal hac hvf hbo;subst hso;go_wp2_with (first | ((with_reducible refine ad (o:=⟨some 35,_,_,_,_,_⟩) ?_ 34 (.tmp 34) ?_ b (o+j*9) ?_ v.cells #[.int .i64 v.x.tick,.slice v.wo v.wn v.wc,.slice v.ko v.kn v.kc,.int .i64 v.x.rows,.int .i64 v.x.cols,.slice v.eo v.en v.ec,.slice v.po v.pn v.pc,.slice v.yo v.yn v.yc,.slice v.zo v.zn v.zc] ?_ _ HCE.out Tryz.underlying34 ?_ ?_ ?_);rfl;rfl;rfl;rfl;rfl;exact da) | ((with_reducible refine aj (o:=⟨none,.store 34 (.tmp 10) (.tmp 35),_,_,_,_⟩) ?_ 34 (.tmp 10) (.tmp 35) ?_ _ #[.int .i64 v.x.tick,.slice v.wo v.wn v.wc,.slice v.ko v.kn v.kc,.int .i64 v.x.rows,.int .i64 v.x.cols,.slice v.eo v.en v.ec,.slice v.po v.pn v.pc,.slice v.yo v.yn v.yc,.slice v.zo v.zn v.zc] ?_ ?_ v.cells ?_ ?_ ?_ (RV.cells_one v) ?_);rfl;rfl;rfl;rfl;rfl;exact da;rfl) | ((with_reducible refine ad (o:=⟨some 37,_,_,_,_,_⟩) ?_ 34 (.tmp 10) ?_ wr.heap.size 0 ?_ v.cells #[.int .i64 v.x.tick,.slice v.wo v.wn v.wc,.slice v.ko v.kn v.kc,.int .i64 v.x.rows,.int .i64 v.x.cols,.slice v.eo v.en v.ec,.slice v.po v.pn v.pc,.slice v.yo v.yn v.yc,.slice v.zo v.zn v.zc] ?_ _ HCE2.out Tryz.underlying34 ?_ ?_ ?_);rfl;rfl;rfl;rfl;rfl;exact da))
      refine (nf _ a A M (128*j) v HAU.out HIN3.out HAP.out HAM.out.2.2 HAL.out.cf HAL.out.range (by omega)).mono ?_;rintro e w4 ⟨rfl,hau4,hk4⟩;have HK4:=wB (HKW.out.trans hk4 (Z:=fun k=>k=A∨k=M) (fun _ _ h=>h) (fun _ _ h=>h));have HAU4:=wB hau4;clear hau4 hk4 HKW HAU HIN3 HCE HCE2;generalize wr.alloc (.cells #[.int .i64 v.x.tick,.slice v.wo v.wn v.wc,.slice v.ko v.kn v.kc,.int .i64 v.x.rows,.int .i64 v.x.cols,.slice v.eo v.en v.ec,.slice v.po v.pn v.pc,.slice v.yo v.yn v.yc,.slice v.zo v.zn v.zc] 34)=w3 at *;by_cases hz:(db a v.x).1=0
      · have b1:((db a v.x).1 != 0)=false:=by simp [hz]
        have HLN:=wB (show LgAt W1 A M vs st.c k (bR l0) (j+1) w4 from ⟨⟨_,_,by have h:=HAU4.out;rwa [show 128*j+128=128*(j+1) by omega] at h,HNX.out.2.1,by rw [HNX.out.2.2.1];exact HAC.out,by rw [←HVF.out];exact (sk HVX.out hz).symm⟩,HK4.out⟩);clear hz;go_wp2_with fail
        go_roundw
        case rel=>exact wB ⟨j+1,by go_num,by omega,HLN.out⟩
        case measure=>simp [intOf];omega
      · have b1:((db a v.x).1 != 0)=true:=by simp [hz]
        have HTOT:=wB (show bR l0=(j,(db a v.x).1) from by rw [←HVF.out];exact tJ HVX.out hz);clear hz;generalize (db a v.x).1=z at *;have HTH:=wB (show w4.there B 0 (#[.int .i64 (j:Int),.int .i64 (j:Int),.int .i64 z]:Array Value).size from aP (HK4.out.old HT2.out (fun e=>by have h1:=HX1.out B e;have h2:=wJ HT2.out;omega)) (wC 3));have szv:(Tryz.prog.info? 62).map (·.size)=some (#[.int .i64 (j:Int),.int .i64 (j:Int),.int .i64 z]:Array Value).size:=cA
        go_wp2_with (first | ((with_reducible refine xG (op:=⟨none,.store 62 (.tmp 2) (.tmp 44),_,_,_,_⟩) ?_ 62 (.tmp 2) (.tmp 44) ?_ B 0 #[.int .i64 (j:Int),.int .i64 (j:Int),.int .i64 z] ?_ ?_ HTH.out szv ?_ ?_);rfl;rfl;rfl;rfl;exact xz (pU j j z)))
        refine xe (v:=.agg #[.int .i64 (j:Int),.int .i64 (j:Int),.int .i64 z]) (bV 2 62 Tryz.results24 B rfl [.int .i64 (j:Int),.int .i64 (j:Int),.int .i64 z] _ rfl _ (wT _ B 0 [.int .i64 (j:Int),.int .i64 (j:Int),.int .i64 z] HTH.out) Tryz.underlying62 rfl cA) ?_ (HPUT.out _ (fun k=>k=A∨k=M) (HKA.out.trans HK4.out (fun _ _ h=>h.elim) (fun _ _ h=>h)) (fun k hk=>by have h1:=HX1.out k hk;have h2:=HKA.out.size;omega) (j,z) HTOT.out);rfl
    · obtain rfl:vs.length=j:=by omega
      have HTOT:=wB (show bR l0=(vs.length,k) from by
       obtain ⟨a,ts,_,_,_,hvf⟩:=HLJ.out.ex;rw [←hvf];exact tI _ _ _ _ (by simp))
      have HKV:=wB (wF wr (.cells #[.int .i64 (vs.length:Int),.int .i64 (vs.length:Int),.int .i64 0] 62));have HKWV:=wB (HLJ.out.keep.trans (Keep.alloc (fun _=>False) wr (.cells #[.int .i64 (vs.length:Int),.int .i64 (vs.length:Int),.int .i64 0] 62)) (Z:=fun k=>k=A∨k=M) (fun _ _ h=>h) (fun _ _ h=>h.elim));have hwl:=wB (show W1.heap.size≤wr.heap.size from HLJ.out.keep.size);clear HLJ HRJ hlt hj;obtain ⟨KV,hKV⟩:∃ KV,wr.heap.size=KV:=⟨_,rfl⟩;go_upto_region 13 with (first | ((with_reducible refine aj (o:=⟨none,.store 62 (.tmp 12) (.tmp 50),_,_,_,_⟩) ?_ 62 (.tmp 12) (.tmp 50) ?_ _ #[.int .i64 (vs.length:Int),.int .i64 (vs.length:Int),.int .i64 0] ?_ ?_ [.int .i64 (vs.length:Int),.int .i64 (vs.length:Int),.int .i64 0] ?_ ?_ ?_ (pU vs.length vs.length 0) ?_);rfl;rfl;rfl;rfl;rfl;exact cA;rfl))
      generalize wr.alloc (.cells #[.int .i64 (vs.length:Int),.int .i64 (vs.length:Int),.int .i64 0] 62)=WV at *;rw [hKV] at HKV hwl;have HKVE:=wB hKV
      have HXF:=wB (show ∀ k,((k=A∨k=M)∨k=KV)→W1.heap.size≤k from fun k hk=>by
       rcases hk with hk | rfl
       · exact HX1.out k hk
       · exact hwl.out)
      clear hKV;by_cases hpl:st.pos<n
      · have b1:decide ((st.pos:Int)<(n:Int))=true:=decide_eq_true (by omega)
        obtain rfl:k=250:=by rw [←HKK.out,if_pos hpl]
        have HKF:=wB (HKWV.out.trans (aJ WV KV 2 (.int .i64 250)) (Z:=fun k=>(k=A∨k=M)∨k=KV) (fun _ _ h=>.inl h) (fun _ _ h=>.inr h))
        have HCV:=wB (fun (j:Nat) (u:Value) (hu:[Value.int .i64 (vs.length:Int),.int .i64 (vs.length:Int),.int .i64 250][j]?=some u)=>show (WV.setCell ⟨KV,2,none⟩ (.int .i64 250)).cell? ⟨KV,0+j,none⟩=some u from by
         rw [wL,wG _ _ _ _ _ (0,0) (ae HKV.out 2 (.int .i64 250)),←hu];simp)
        have z2:WV.cell? ⟨KV,2,none⟩=some (.int .i64 0):=by rw [wG _ _ _ _ _ (0,0) HKV.out];rfl
        have zf:=fun j=>frozen_of_row WV KV j _ _ HKV.out
        have HTH:=wB (show (WV.setCell ⟨KV,2,none⟩ (.int .i64 250)).there B 0 (#[.int .i64 (vs.length:Int),.int .i64 (vs.length:Int),.int .i64 250]:Array Value).size from aP (HKF.out.old HT2.out (fun e=>by have h1:=HXF.out B e;have h2:=wJ HT2.out;omega)) (wC 3));have szv:(Tryz.prog.info? 62).map (·.size)=some (#[.int .i64 (vs.length:Int),.int .i64 (vs.length:Int),.int .i64 250]:Array Value).size:=cA
        go_wp2_with (first | ((with_reducible refine ad (o:=⟨some 56,_,_,_,_,_⟩) ?_ 62 (.tmp 12) ?_ KV 0 ?_ [.int .i64 (vs.length:Int),.int .i64 (vs.length:Int),.int .i64 250] #[.int .i64 (vs.length:Int),.int .i64 (vs.length:Int),.int .i64 250] ?_ _ HCV.out Tryz.underlying62 ?_ ?_ ?_);rfl;rfl;rfl;rfl;rfl;exact cA) | ((with_reducible refine xG (op:=⟨none,.store 62 (.tmp 2) (.tmp 56),_,_,_,_⟩) ?_ 62 (.tmp 2) (.tmp 56) ?_ B 0 #[.int .i64 (vs.length:Int),.int .i64 (vs.length:Int),.int .i64 250] ?_ ?_ HTH.out szv ?_ ?_);rfl;rfl;rfl;rfl;exact xz (pU vs.length vs.length 250)))
        refine xe (v:=.agg #[.int .i64 (vs.length:Int),.int .i64 (vs.length:Int),.int .i64 250]) (bV 2 62 Tryz.results24 B rfl [.int .i64 (vs.length:Int),.int .i64 (vs.length:Int),.int .i64 250] _ rfl _ (wT _ B 0 [.int .i64 (vs.length:Int),.int .i64 (vs.length:Int),.int .i64 250] HTH.out) Tryz.underlying62 rfl cA) ?_ (HPUT.out _ (fun k=>(k=A∨k=M)∨k=KV) (HKA.out.trans HKF.out (fun _ _ h=>h.elim) (fun _ _ h=>h)) (fun k hk=>by have h1:=HXF.out k hk;have h2:=HKA.out.size;omega) (vs.length,250) HTOT.out);rfl
      · have b1:decide ((st.pos:Int)<(n:Int))=false:=decide_eq_false (by omega)
        obtain rfl:k=0:=by rw [←HKK.out,if_neg hpl]
        have HKF:=wB (HKWV.out.mono (Z:=fun k=>(k=A∨k=M)∨k=KV) (fun _ _ h=>.inl h))
        have HCV:=wB (fun (j:Nat) (u:Value) (hu:[Value.int .i64 (vs.length:Int),.int .i64 (vs.length:Int),.int .i64 0][j]?=some u)=>show WV.cell? ⟨KV,0+j,none⟩=some u from by
         rw [wL,wG _ _ _ _ _ (0,0) HKV.out,←hu];simp)
        have HTH:=wB (show (WV).there B 0 (#[.int .i64 (vs.length:Int),.int .i64 (vs.length:Int),.int .i64 0]:Array Value).size from aP (HKF.out.old HT2.out (fun e=>by have h1:=HXF.out B e;have h2:=wJ HT2.out;omega)) (wC 3));have szv:(Tryz.prog.info? 62).map (·.size)=some (#[.int .i64 (vs.length:Int),.int .i64 (vs.length:Int),.int .i64 0]:Array Value).size:=cA
        go_wp2_with (first | ((with_reducible refine ad (o:=⟨some 56,_,_,_,_,_⟩) ?_ 62 (.tmp 12) ?_ KV 0 ?_ [.int .i64 (vs.length:Int),.int .i64 (vs.length:Int),.int .i64 0] #[.int .i64 (vs.length:Int),.int .i64 (vs.length:Int),.int .i64 0] ?_ _ HCV.out Tryz.underlying62 ?_ ?_ ?_);rfl;rfl;rfl;rfl;rfl;exact cA) | ((with_reducible refine xG (op:=⟨none,.store 62 (.tmp 2) (.tmp 56),_,_,_,_⟩) ?_ 62 (.tmp 2) (.tmp 56) ?_ B 0 #[.int .i64 (vs.length:Int),.int .i64 (vs.length:Int),.int .i64 0] ?_ ?_ HTH.out szv ?_ ?_);rfl;rfl;rfl;rfl;exact xz (pU vs.length vs.length 0)))
        refine xe (v:=.agg #[.int .i64 (vs.length:Int),.int .i64 (vs.length:Int),.int .i64 0]) (bV 2 62 Tryz.results24 B rfl [.int .i64 (vs.length:Int),.int .i64 (vs.length:Int),.int .i64 0] _ rfl _ (wT _ B 0 [.int .i64 (vs.length:Int),.int .i64 (vs.length:Int),.int .i64 0] HTH.out) Tryz.underlying62 rfl cA) ?_ (HPUT.out _ (fun k=>(k=A∨k=M)∨k=KV) (HKA.out.trans HKF.out (fun _ _ h=>h.elim) (fun _ _ h=>h)) (fun k hk=>by have h1:=HXF.out k hk;have h2:=HKA.out.size;omega) (vs.length,0) HTOT.out);rfl
end Go.Proofs.YtcaicgipibcicaaGreat
