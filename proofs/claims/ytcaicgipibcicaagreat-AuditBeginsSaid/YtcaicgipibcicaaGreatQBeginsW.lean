/- AuditBegins: the walk. -/
import Derived.Test.YtcaicgipibcicaaGreatQJBytes
import Derived.Test.YtcaicgipibcicaaGreatQNamesF
import Derived.Test.YtcaicgipibcicaaGreatQRowB
set_option maxRecDepth 100000
set_option maxHeartbeats 16000000
set_option linter.unusedSimpArgs false
set_option linter.unusedVariables false
open Go.Lib renaming hid→wB
open List renaming getElem?_eq_some_iff→wD
open Nat renaming le_refl→wC
namespace Go.Proofs.YtcaicgipibcicaaGreat
open Go.RowKit Go.Sort
def BgAt (W1:World) (J:Nat) (c:ag) (recs:List aw) (i:Nat) (wr:World):Prop:=
 ∃ sv,lF wr J sv (co c (recs.take i)) (qh c (recs.take i)) (iB (recs.take i))∧(∀ g,sv.ownBlock=some g→W1.heap.size≤g)∧Keep (fun b=>W1.heap.size≤b) W1 wr
structure qj (n:Nat) (c:ag) (recs:List aw) (i:Nat) (x:aw):Prop where
 log:(co c (recs.take i)).length≤n
 len:(bu x).length≤n
 byt:Byt (bu x)
 ok:bh x=0
 tick:iB (recs.take i)<x.tick
theorem gy {α:Type} {l:List α} {i:Nat} {x:α} (h:l[i]?=some x):l.take (i+1)=l.take i++[x]:=by
 obtain ⟨hi,rfl⟩:=wD.1 h;rw [List.take_succ_eq_append_getElem hi]
theorem tS (c:ag):co c []=aC (be4 0) (bJ c):=List.append_nil _
theorem qj.of {l:List Int} {c:ag} {recs:List aw} (hall:∀ n,n≤recs.length→Byt (co c (recs.take n))∧(co c (recs.take n)).length≤l.length∧bR (co c (recs.take n))=(n,0)) (hr:qg recs) {i:Nat} {x:aw} (hx:recs[i]?=some x):qj l.length c recs i x:=by
 have hi:=(wD.1 hx).1;have h0:=hall i (by omega);have h1:=hall (i+1) hi;rw [gy hx,mD] at h1;have hlen:=h1.2.1;rw [List.length_append,bi] at hlen;refine ⟨h0.2.1,by omega,fun y hy=>h1.1 y ?_,(hr i x hx).2,(hr i x hx).1⟩;unfold aC;simp only [List.mem_append];exact .inr (.inl (.inr hy))
theorem BgAt.next {W1:World} {J:Nat} {c:ag} {recs:List aw} {i:Nat} {x:aw} {sv:Value} {wr w':World} (hx:recs[i]?=some x) (hs:∀ g,sv.ownBlock=some g→W1.heap.size≤g) (hk:Keep (fun b=>W1.heap.size≤b) W1 wr) (hJ:W1.heap.size≤J)
 (hp:lE wr J sv (co c (recs.take i)) (qh c (recs.take i)) x w'):BgAt W1 J c recs (i+1) w':=by
 obtain ⟨sv',h1,h2,h3⟩:=hp;refine ⟨sv',?_,fun g hg=>?_,hk.trans h2 (fun _ _ h=>h) (fun k _ h=>?_)⟩
 · rw [gy hx,mD,su]
   have:iB (recs.take i++[x])=x.tick:=by simp [iB]
   rw [this];exact h1
 · rcases h3 g hg with h | h
   · exact hs g h
   · exact Nat.le_trans hk.size h
 · rcases h with h | h
   · omega
   · exact hs k h
theorem oy (w:World) (ao:Option Addr) (n cap:Nat) (b:List UInt8) (many:Int) (hmy:ar many) (hbk:b.length=n) (hrb:Rd w ao b) (hcap:n≤cap) (hn:n≤9223372036854775807) (hlow:∀ a,ao=some a→a.block<w.heap.size) :
 Calls Tryz.prog 8 #[.slice ao n cap,.int .i64 many] w fun e w'=>e = .returned (.bool true)∧Below w.heap.size w w':=by
 have HL:=wB hbk;have HRB:=wB hrb;have HCP:=wB hcap;have HLO:=wB hlow;have HMY:=wB hmy;have HCE:=wB (show (w.alloc (.cells #[.int .i64 (n:Int)] 3)).cell? ⟨w.heap.size,0,none⟩=some (.int .i64 (n:Int)) by rw [cell_of_row _ _ _ _ _ (0,0) (heap_alloc_new w _)];rfl);have HB0:=wB (ck w (.cells #[.int .i64 (n:Int)] 3));clear hbk hrb hcap hlow hmy;go_enter Tryz.func8,Tryz.ntmps8
 go_wp2_with fail
 refine (kU _ w.heap.size n HCE.out ⟨by omega,by omega⟩).mono ?_;rintro e w1 ⟨rfl,rfl⟩;generalize w.alloc (.cells #[.int .i64 (n:Int)] 3)=w1 at *;by_cases hbig:1048576<n
 · have b1:decide ((1048576:Int)<(n:Int))=true:=decide_eq_true (by omega)
   go_wp2_with fail
   go_ret
   exact ⟨rfl,HB0.out⟩
 · have b1:decide ((1048576:Int)<(n:Int))=false:=decide_eq_false (by omega)
   have HM:=wB (show n≤1048576 by omega);clear hn;go_wp2_with fail
   refine (jO w1 ao n cap b HL.out (Below.rd HB0.out HRB.out (wC _)) (by omega)).mono ?_;rintro e w2 ⟨rfl,hrow,hb2⟩;obtain ⟨G,hG⟩:∃ G,w1.heap.size=G:=⟨_,rfl⟩;have HROW:=wB hrow;rw [hG] at HROW;try rw [hG]
   have HB2:=wB (Below.next HB0.out hb2);clear hrow hb2 hG b1;go_wp2_with fail
   obtain ⟨p1,p2,hp⟩:∃ (p1:Nat) (p2:Int),bR (bS b)=(p1,p2):=⟨_,_,rfl⟩;have HLP:=wB hp;have HLB:=wB (show (bS b).length=n from by rw [mQ,HL.out]);refine (eF w2 (some ⟨G,0,none⟩) n (n+1) (bS b) HLB.out (dR b) HM.out (Nat.le_succ n) (lL (nu HROW.out)) (fun a e=>by cases e;exact HROW.out.lt)).mono ?_;rintro e w3 ⟨hb3,rfl⟩;rw [hp];clear hp;have HB3:=wB (Below.next HB2.out hb3);clear hb3 HROW;have HLV:=wB (fun (wx:World)=>jN wx);have hfd:∀ W:World,(Instr.field 62 (.agg #[.int .i64 (p1:Int),.int .i64 (p1:Int),.int .i64 p2]) 2).run Tryz.prog W = .ok (.int .i64 p2) W:=fun _=>by kernel_rfl
   by_cases hz2:p2=0
   · have b3:(p2 != 0)=false:=by simp [hz2]
     have HPZ:=wB (show (bR (bS b)).2=0 from by rw [HLP.out,hz2]);clear hz2;have hbeg:=qi (dR b) (by rw [HLB.out];exact HM.out) HPZ.out;have HCF:=wB hbeg.2.1;have HNE:=wB hbeg.1;have HALL:=wB hbeg.2.2;have HRI:=wB (nj (bS b));clear hbeg;go_wp2_with fail
     refine (jO w3 ao n cap b HL.out (Below.rd HB3.out HRB.out (wC _)) (by have:=HM.out;omega)).mono ?_;rintro e w4 ⟨rfl,hrow,hb4⟩;obtain ⟨G2,hG⟩:∃ G2,w3.heap.size=G2:=⟨_,rfl⟩;have HROW:=wB hrow;rw [hG] at HROW;try rw [hG]
     have HB4:=wB (Below.next HB3.out hb4);clear hrow hb4 hG b3;go_wp2_with fail
     refine (mS w4 (some ⟨G2,0,none⟩) n (n+1) (bS b) HLB.out (dR b) (by have:=HM.out;omega) (Nat.le_succ n) (lL (nu HROW.out)) (fun a e=>by cases e;exact HROW.out.lt)).mono ?_;rintro e w5 ⟨hb5,st,hst,hif⟩;rw [hst] at HCF HNE HALL HRI;rw [if_neg HNE.out] at hif;obtain ⟨so,sc,vs,rfl,hvs,hrs,hle⟩:=hif;have HB5:=wB (Below.next HB4.out hb5);have HVS:=wB hvs;have HRS:=wB hrs;have HLE:=wB hle
     have HVN:=wB (show vs.length≤n from by
      have h1:=(jw (bS b)).2;rw [hst,←hvs,List.length_map] at h1;have:=HLB.out;omega)
     clear hb5 hst hvs hrs hle HROW;have HRN:=wB (show st.recs.length=vs.length from by rw [←HVS.out,List.length_map]);obtain ⟨W1,hW1⟩:∃ W1,w5.alloc (.cells #[.int .i64 st.c.q,.int .i64 st.c.d,.int .i64 st.c.w,.int .i64 st.c.ttl,.int .i64 st.c.b] 23)=W1:=⟨_,rfl⟩;have HW1E:=wB hW1;have HKA:=wB (show Keep (fun _=>False) w5 W1 from by rw [←hW1];exact Keep.alloc _ _ _);obtain ⟨CB,hCB⟩:∃ CB,w5.heap.size=CB:=⟨_,rfl⟩;have HCFR:=wB (show W1.heap[CB]?=some (.cells #[.int .i64 st.c.q,.int .i64 st.c.d,.int .i64 st.c.w,.int .i64 st.c.ttl,.int .i64 st.c.b] 23 (0,0)) from by rw [←hW1,←hCB];exact heap_alloc_new w5 _)
     have HCF2:=wB (fun (j:Nat) (u:Value) (hu:st.c.cells[j]?=some u)=>show (w5.alloc (.cells #[.int .i64 st.c.q,.int .i64 st.c.d,.int .i64 st.c.w,.int .i64 st.c.ttl,.int .i64 st.c.b] 23)).cell? ⟨w5.heap.size,0+j,none⟩=some u from by
      rw [Nat.zero_add,hW1,hCB,cell_of_row _ _ _ _ _ (0,0) HCFR.out,←hu];simp [ag.cells])
     have HBW:=wB (HB5.out.trans (HKA.out.below HB5.out.size (fun _ _ h=>h)));have HRS1:=wB (HRS.out.keepA HKA.out (fun _ h=>h.elim));clear hW1 hCB;go_wp2_with (first | ((with_reducible refine aj (o:=⟨none,.store 23 (.tmp 5) (.tmp 27),_,_,_,_⟩) ?_ 23 (.tmp 5) (.tmp 27) ?_ _ #[.int .i64 st.c.q,.int .i64 st.c.d,.int .i64 st.c.w,.int .i64 st.c.ttl,.int .i64 st.c.b] ?_ ?_ st.c.cells ?_ ?_ ?_ st.c.cells_one ?_);rfl;rfl;rfl;rfl;rfl;exact cg;rfl) | ((with_reducible refine ad (o:=⟨some 32,_,_,_,_,_⟩) ?_ 23 (.tmp 5) ?_ w5.heap.size (0) ?_ st.c.cells #[.int .i64 st.c.q,.int .i64 st.c.d,.int .i64 st.c.w,.int .i64 st.c.ttl,.int .i64 st.c.b] ?_ _ HCF2.out Tryz.underlying23 ?_ ?_ ?_);rfl;rfl;rfl;rfl;rfl;exact cg))
     rw [HW1E.out];clear HCF2 HW1E;refine (oS W1 st.c HCF.out).mono ?_;rintro e w6 ⟨J,sv0,rfl,hb6,hJ,hs6,hjn⟩;have HJ:=wB hJ;have HB6:=wB (Below.next HBW.out hb6);have HBG0:=wB (show BgAt W1 J st.c st.recs 0 w6 from ⟨sv0,by rw [List.take_zero,tS];exact hjn,hs6,Keep.of_below hb6 (wC _) _⟩);clear hb6 hJ hs6 hjn HRS HKA HCFR hfd;have hvn:=HVN.out;have hm9:=HM.out;go_wp2_with fail
     rw [show ((vs.length:Int)+1)=((vs.length+1:Nat):Int) from by omega];refine (m6 w6 many (vs.length+1) (by omega) (by omega) HMY.out).mono ?_;rintro e w7 ⟨⟨k,hk,rfl⟩,hb7⟩;have HK:=wB (show k≤vs.length by omega)
     have HBG:=wB (show BgAt W1 J st.c st.recs 0 w7 from by
      obtain ⟨sv,h1,h2,h3⟩:=HBG0.out;have hk7:=Keep.of_below hb7 (wC _) (fun _=>False);exact ⟨sv,h1.keep hk7 id (fun _ _=>id),h2,h3.trans hk7 (fun _ _ h=>h) (fun _ _ h=>h.elim)⟩)
     clear hb7 HBG0 hk
     have HLL:=wB (fun (j:Nat) (hj:j≤vs.length)=>show Byt (co st.c (st.recs.take j))∧(co st.c (st.recs.take j)).length≤n∧bR (co st.c (st.recs.take j))=(j,0) from by
      have h:=HALL.out j (by have:=HRN.out;omega);have:=HLB.out;exact ⟨h.1,by omega,h.2.2⟩)
     have HNX:=wB (fun (j:Nat) (x:aw) (hx:st.recs[j]?=some x)=>qj.of HALL.out HRI.out hx);go_wp2_with fail
     go_loopw [12] (fun i wr=>Hid (∃ j:Nat,i = .int .i64 j∧j≤k∧BgAt W1 J st.c st.recs j wr)) (fun i _=>k - (intOf i).toNat)
     case atStart=>exact wB ⟨0,rfl,Nat.zero_le _,HBG.out⟩
     case round=>
      clear HBG;obtain ⟨j,rfl,hj,hbg⟩:=hrel.out;clear hrel;obtain ⟨sv,hjn,hsv,hkp⟩:=hbg;have HJN:=wB hjn;have HSV:=wB hsv;have HKP:=wB hkp;clear hjn hsv hkp;by_cases hlt:j<k
      · have hjv:j<vs.length:=by have:=HK.out;omega
        have HRJ:=wB (HRS1.out.keepA HKP.out (fun _ h=>h));obtain ⟨v,hv⟩:∃ v,vs[j]?=some v:=⟨vs[j],List.getElem?_eq_getElem hjv⟩;obtain ⟨bb,o,hbo,_⟩:=HRJ.out.own.rdc.place (by rw [cellsOf_length _ 9 RV.cells_length];omega);have HCE:=wB (fun (i:Nat) (u:Value) (hu:v.cells[i]?=some u)=>show wr.cell? ⟨bb,o+j*9+i,none⟩=some u from bl RV.cells_length (by rw [←hbo];exact HRJ.out.own.rdc) hv i u hu);have HIN:=wB (HRJ.out.ins v (List.mem_of_getElem? hv));have HVX:=wB (show st.recs[j]?=some v.x from by rw [←HVS.out,List.getElem?_map,hv];rfl);have HN:=wB (HNX.out j v.x HVX.out);have hso:=hbo;clear hv hbo;subst hso;go_wp2_with (first | ((with_reducible refine ad (o:=⟨some 60,_,_,_,_,_⟩) ?_ 34 (.tmp 59) ?_ bb (o+j*9) ?_ v.cells #[.int .i64 v.x.tick,.slice v.wo v.wn v.wc,.slice v.ko v.kn v.kc,.int .i64 v.x.rows,.int .i64 v.x.cols,.slice v.eo v.en v.ec,.slice v.po v.pn v.pc,.slice v.yo v.yn v.yc,.slice v.zo v.zn v.zc] ?_ _ HCE.out Tryz.underlying34 ?_ ?_ ?_);rfl;rfl;rfl;rfl;rfl;exact da))
        refine (oQ wr J sv _ _ _ HJN.out v HIN.out HN.out.ok HN.out.tick (by have:=HN.out.log;have:=HLB.out;omega) (by have:=HN.out.len;have:=HLB.out;omega) HN.out.byt).mono ?_;rintro e w8 ⟨rfl,hp8⟩;have HBN:=wB (BgAt.next HVX.out HSV.out HKP.out HJ.out hp8);clear hp8 HCE;go_wp2_with fail
        go_roundw
        case rel=>exact wB ⟨j+1,by go_num,by omega,HBN.out⟩
        case measure=>simp [intOf];omega
      · obtain rfl:k=j:=by omega
        have HBR:=wB (HBW.out.trans (HKP.out.below HBW.out.size (fun i hi e=>by have:=HBW.out.size;have e2:W1.heap.size≤i:=e;omega)));have HL9:=wB (HLL.out k HK.out);obtain ⟨L,hL⟩:∃ L,co st.c (st.recs.take k)=L:=⟨_,rfl⟩;rw [hL] at HJN HL9;clear hL;go_wp2_with fail
        refine (lH wr J sv L _ _ HJN.out (by have:=HL9.out.2.1;omega)).mono ?_;rintro e w8 ⟨g,cap2,rfl,hg,hcap2,_,hrow2,hb8⟩;have HB8:=wB (Below.next HBR.out hb8);have HC2:=wB hcap2;have HROW2:=wB hrow2;clear hg hcap2 hrow2 hb8;go_wp2_with fail
        refine (eF w8 (some ⟨g,0,none⟩) L.length cap2 L rfl HL9.out.1 (by have:=HL9.out.2.1;omega) HC2.out (.inr ⟨g,0,rfl,fun j u hu=>by rw [Nat.zero_add];exact HROW2.out.cell j u hu⟩) (fun a e=>by cases e;exact HROW2.out.lt)).mono ?_;rintro e w9 ⟨hb9,rfl⟩;rw [HL9.out.2.2];have HB9:=wB (Below.next HB8.out hb9);have heq:=jd (k:Int) (k:Int) 0;clear hb9;go_wp2_with fail
        refine (HLV.out _).mono ?_;rintro e w10 ⟨rfl,hb10⟩;have HE:=wB (Below.next HB9.out hb10);clear hb10;go_wp2_with fail
        go_ret
        exact ⟨rfl,HE.out⟩
   · have b3:(p2 != 0)=true:=by simp [hz2]
     clear hz2;go_wp2_with fail
     refine (HLV.out _).mono ?_;rintro e w5 ⟨rfl,hb5⟩;have HE:=wB (Below.next HB3.out hb5);clear hb5;go_wp2_with fail
     go_ret
     exact ⟨rfl,HE.out⟩
end Go.Proofs.YtcaicgipibcicaaGreat
