/- AuditNames: the walk. Printed by wip/gennames.py. -/
import Derived.Test.YtcaicgipibcicaaGreatQNamesF
import Derived.Test.YtcaicgipibcicaaGreatQJBytes
set_option maxRecDepth 100000
set_option maxHeartbeats 16000000
set_option linter.unusedSimpArgs false
set_option linter.unusedVariables false
open Go renaming frozen_of_row→wZ,heap_alloc_new→wF
open Go.Lib renaming hid→wB
open Nat renaming le_refl→wC,le_trans→xc,zero_add→wL
namespace Go.Proofs.YtcaicgipibcicaaGreat
open Go.RowKit Go.Sort
def cG (B:Nat) (t:Int):RV:={ de B 13 5 with x:=ej t }
theorem cw.inT {B:Nat} {w:World} (h:cw B 13 5 w) {t:Int} (ht:ar t):(cG B t).In w:=
 ⟨rfl,cI h.ws rfl,(show (2:Nat)≤1048576 by decide),rfl,cI h.ds rfl,(show (1:Nat)≤1048576 by decide),rfl,cI h.es rfl,(show (2:Nat)≤1048576 by decide),rfl,cI h.ps rfl,(show (1:Nat)≤1048576 by decide),rfl,cI h.ys rfl,(show (2:Nat)≤1048576 by decide),rfl,cI h.zs rfl,(show (1:Nat)≤1048576 by decide),{ pG 13 5 ⟨by decide,by decide⟩ ⟨by decide,by decide⟩ with tick:=ht }⟩
structure iq (B T D:Nat) (t q wd b:Int) (w0 wr:World):Prop where
 c:wr.heap[T]?=some (.cells #[.int .i64 2,.int .i64 2,.int .i64 2,.int .i64 10,.int .i64 5] 23 (0,0))
 x:wr.heap[T+1]?=some (.cells #[.int .i64 t,.slice (some ⟨B+5,0,none⟩) 2 2,.slice (some ⟨B+7,0,none⟩) 1 1,.int .i64 2,.int .i64 1,.slice (some ⟨B+8,0,none⟩) 2 2,.slice (some ⟨B+9,0,none⟩) 1 1,.slice (some ⟨B+10,0,none⟩) 2 2,.slice (some ⟨B+11,0,none⟩) 1 1] 34 (0,0))
 d:wr.heap[D]?=some (.cells #[.int .i64 q,.int .i64 2,.int .i64 wd,.int .i64 10,.int .i64 b] 23 (0,0))
 s:cw B 13 5 wr
 below:Below w0.heap.size w0 wr
 old:w0.heap.size≤B∧B+11<T∧T+1<D
section
variable {B T D:Nat} {t q wd b:Int} {w0 wr:World}
theorem iq.next (h:iq B T D t q wd b w0 wr) {w':World} (hb:Below wr.heap.size wr w'):iq B T D t q wd b w0 w':=by
 have hk:=Keep.of_below hb (wC _) (fun _=>False);exact ⟨hk.old h.c id,hk.old h.x id,hk.old h.d id,h.s.keep hk (fun _ _ _=>id),Below.next h.below hb,h.old⟩
theorem iq.setD (h:iq B T D t q wd b w0 wr) {w':World} (hk:Keep (fun k=>k=D) wr w') {q' wd' b':Int} (hd:w'.heap[D]?=some (.cells #[.int .i64 q',.int .i64 2,.int .i64 wd',.int .i64 10,.int .i64 b'] 23 (0,0))):iq B T D t q' wd' b' w0 w':=by
 have ho:=h.old;exact ⟨hk.old h.c (by omega),hk.old h.x (by omega),hd,h.s.keep hk (fun k h1 h2=>by omega),h.below.trans (hk.below h.below.size (fun i hi e=>by omega)),ho⟩
theorem iq.setX (h:iq B T D t q wd b w0 wr) (t':Int):iq B T D t' q wd b w0 (wr.setCell ⟨T+1,0,none⟩ (.int .i64 t')):=by
 have ho:=h.old;have hk:=aJ wr (T+1) 0 (.int .i64 t');exact ⟨hk.old h.c (by omega),ae h.x 0 _,hk.old h.d (by omega),h.s.keep hk (fun k h1 h2=>by omega),h.below.trans (hk.below h.below.size (fun i hi e=>by omega)),ho⟩
end
theorem cZ {w:World} {b:Nat} {a0 a1 a2 a3 a4:Value} {t:TypeId} (h:w.heap[b]?=some (.cells #[a0,a1,a2,a3,a4] t (0,0))) :
 w.cell? ⟨b,0,none⟩=some a0∧w.cell? ⟨b,1,none⟩=some a1∧w.cell? ⟨b,2,none⟩=some a2∧w.cell? ⟨b,3,none⟩=some a3∧w.cell? ⟨b,4,none⟩=some a4:=by
 refine ⟨?_,?_,?_,?_,?_⟩ <;> (rw [cell_of_row _ _ _ _ _ (0,0) h];rfl)
theorem dS:cv.length=105∧(bu (ej 2)).length=76:=by decide +kernel
theorem gW:Byt cv∧Byt (bu (ej 2)):=by
 constructor <;> (unfold Byt;decide +kernel)
theorem sK:bh (cG 0 2).x=0:=by decide +kernel
theorem qF:(aC (be4 0) (bJ aM)).length≤2000000:=by decide +kernel
theorem sL:cv=aC (be4 0) (bJ aM)++aC (fg (be4 0) (bJ aM)) (bu (ej 2)):=by simp [cv,co,wrF]
theorem sM:bR (cv.take 104)=(0,250):=by decide +kernel
theorem sN (w:World):Calls Tryz.prog 9 #[] w fun e w'=>e = .returned (.bool true)∧Below w.heap.size w w':=by
 go_enter Tryz.func9,Tryz.ntmps9
 go_wp2_with fail
 refine (m5 w).mono ?_;rintro e w2 ⟨rfl,hs,hb2⟩;have hlt2:w.heap.size+11<w2.heap.size:=lt_of_block hs.zs
 obtain ⟨W,hW,hc,hx,hbW,hsz⟩:∃ W,(w2.alloc (.cells #[.int .i64 2,.int .i64 2,.int .i64 2,.int .i64 10,.int .i64 5] 23)).alloc (.cells #[.int .i64 2,.slice (some ⟨w.heap.size+5,0,none⟩) 2 2,.slice (some ⟨w.heap.size+7,0,none⟩) 1 1,.int .i64 2,.int .i64 1,.slice (some ⟨w.heap.size+8,0,none⟩) 2 2,.slice (some ⟨w.heap.size+9,0,none⟩) 1 1,.slice (some ⟨w.heap.size+10,0,none⟩) 2 2,.slice (some ⟨w.heap.size+11,0,none⟩) 1 1] 34)=W∧W.heap[w2.heap.size]?=some (.cells #[.int .i64 2,.int .i64 2,.int .i64 2,.int .i64 10,.int .i64 5] 23 (0,0))∧W.heap[w2.heap.size+1]?=some (.cells #[.int .i64 2,.slice (some ⟨w.heap.size+5,0,none⟩) 2 2,.slice (some ⟨w.heap.size+7,0,none⟩) 1 1,.int .i64 2,.int .i64 1,.slice (some ⟨w.heap.size+8,0,none⟩) 2 2,.slice (some ⟨w.heap.size+9,0,none⟩) 1 1,.slice (some ⟨w.heap.size+10,0,none⟩) 2 2,.slice (some ⟨w.heap.size+11,0,none⟩) 1 1] 34 (0,0))∧Below w2.heap.size w2 W∧W.heap.size=w2.heap.size+2:=by
  refine ⟨_,rfl,(Keep.alloc (fun _=>False) _ _).old (wF w2 _) id,?_,((Below.refl _ _).alloc (wC _) _).alloc (by simp) _,by simp⟩;have:=wF (w2.alloc (.cells #[.int .i64 2,.int .i64 2,.int .i64 2,.int .i64 10,.int .i64 5] 23)) (.cells #[.int .i64 2,.slice (some ⟨w.heap.size+5,0,none⟩) 2 2,.slice (some ⟨w.heap.size+7,0,none⟩) 1 1,.int .i64 2,.int .i64 1,.slice (some ⟨w.heap.size+8,0,none⟩) 2 2,.slice (some ⟨w.heap.size+9,0,none⟩) 1 1,.slice (some ⟨w.heap.size+10,0,none⟩) 2 2,.slice (some ⟨w.heap.size+11,0,none⟩) 1 1] 34);rw [show (w2.alloc (.cells #[.int .i64 2,.int .i64 2,.int .i64 2,.int .i64 10,.int .i64 5] 23)).heap.size=w2.heap.size+1 by simp] at this;exact this
 have HW:=wB hW;have HS:=wB (cw.keep (w:=w2) ⟨hs.ws,hs.ds,hs.es,hs.ps,hs.ys,hs.zs⟩ (Keep.of_below hbW (wC _) (fun _=>False)) (fun _ _ _=>id));have HBW:=wB (Below.next hb2 hbW);have HC:=wB hc;have HX:=wB hx;have HSZ:=wB hsz;have HLT:=wB hlt2;clear hs hb2 hlt2 hW hc hx hbW hsz;go_upto_region 2 with fail
 rw [HW.out];obtain ⟨B,hB⟩:∃ B,w.heap.size=B:=⟨_,rfl⟩;obtain ⟨T,hT⟩:∃ T,w2.heap.size=T:=⟨_,rfl⟩;have HBB:=wB hB;rw [hB] at HS HX HLT ⊢;rw [hT] at HC HX HSZ HLT ⊢;clear hB hT HW;obtain ⟨c0,c1,c2,c3,c4⟩:=cZ HC.out;go_upto_region 3 with fail
 have HR0:=wB (show iq B T W.heap.size 2 2 2 5 w (W.alloc (.cells #[.int .i64 2,.int .i64 2,.int .i64 2,.int .i64 10,.int .i64 5] 23)) from by
  have hk:=Keep.alloc (fun _=>False) W (.cells #[.int .i64 2,.int .i64 2,.int .i64 2,.int .i64 10,.int .i64 5] 23);have hb:=HBW.out;have hsz:=HSZ.out;have hlt:=HLT.out;have hbb:=HBB.out;refine ⟨hk.old HC.out id,hk.old HX.out id,wF W _,HS.out.keep hk (fun _ _ _=>id),hb.trans (hk.below hb.size (fun _ _=>id)),?_,?_,?_⟩ <;> omega)
 clear c0 c1 c2 c3 c4;obtain ⟨D,hD⟩:∃ D,W.heap.size=D:=⟨_,rfl⟩;rw [hD] at HR0 ⊢;generalize W.alloc (.cells #[.int .i64 2,.int .i64 2,.int .i64 2,.int .i64 10,.int .i64 5] 23)=w3 at *;clear hD HC HX HS HBW HSZ HLT;have z2:ar 2:=⟨by decide,by decide⟩;have z3:ar 3:=⟨by decide,by decide⟩;have z4:ar 4:=⟨by decide,by decide⟩;obtain ⟨d0,d1,d2,d3,d4⟩:=cZ HR0.out.d;have df:=fun k=>wZ w3 D k _ _ HR0.out.d
 go_upto_region 4 with fail
 have HR1:=wB (HR0.out.setD (aJ w3 D 4 (.int .i64 4)) (q':=2) (wd':=2) (b':=4) (ae HR0.out.d 4 _));clear HR0 df d0 d1 d2 d3 d4;generalize w3.setCell ⟨D,4,none⟩ (.int .i64 4)=w4 at *;obtain ⟨d0,d1,d2,d3,d4⟩:=cZ HR1.out.d;obtain ⟨x0,x1,x2,x3,x4,x5,x6,x7,x8⟩:=cells9 HR1.out.x;go_wp2_with fail
 clear d0 d1 d2 d3 d4 x0 x1 x2 x3 x4 x5 x6 x7 x8;refine (cC w4 ⟨2,2,2,10,4⟩ (cG B 2) (HR1.out.s.inT z2)).mono ?_;rintro e w5 ⟨rfl,hb⟩;rw [show aL ⟨2,2,2,10,4⟩ (cG B 2).x=1 from dw.1];have HR2:=wB (HR1.out.next hb);clear hb HR1;obtain ⟨c0,c1,c2,c3,c4⟩:=cZ HR2.out.c;obtain ⟨d0,d1,d2,d3,d4⟩:=cZ HR2.out.d;have df:=fun k=>wZ w5 D k _ _ HR2.out.d
 go_upto_region 6 with fail
 have HR3:=wB (HR2.out.setD (mM w5 D (.int .i64 2) (.int .i64 2) (.int .i64 2) (.int .i64 10) (.int .i64 5)) (q':=2) (wd':=2) (b':=5) (ae (ae (ae (ae (ae HR2.out.d 0 _) 1 _) 2 _) 3 _) 4 _));clear HR2 df c0 c1 c2 c3 c4 d0 d1 d2 d3 d4;generalize (((((w5.setCell ⟨D,0,none⟩ (.int .i64 2)).setCell ⟨D,1,none⟩ (.int .i64 2)).setCell ⟨D,2,none⟩ (.int .i64 2)).setCell ⟨D,3,none⟩ (.int .i64 10)).setCell ⟨D,4,none⟩ (.int .i64 5))=w6 at *;obtain ⟨d0,d1,d2,d3,d4⟩:=cZ HR3.out.d;have df:=fun k=>wZ w6 D k _ _ HR3.out.d
 go_upto_region 7 with fail
 have HR4:=wB (HR3.out.setD (aJ w6 D 0 (.int .i64 1)) (q':=1) (wd':=2) (b':=5) (ae HR3.out.d 0 _));clear HR3 df d0 d1 d2 d3 d4;generalize w6.setCell ⟨D,0,none⟩ (.int .i64 1)=w7 at *;obtain ⟨d0,d1,d2,d3,d4⟩:=cZ HR4.out.d;obtain ⟨x0,x1,x2,x3,x4,x5,x6,x7,x8⟩:=cells9 HR4.out.x;go_wp2_with fail
 clear d0 d1 d2 d3 d4 x0 x1 x2 x3 x4 x5 x6 x7 x8;refine (cC w7 ⟨1,2,2,10,5⟩ (cG B 2) (HR4.out.s.inT z2)).mono ?_;rintro e w8 ⟨rfl,hb⟩;rw [show aL ⟨1,2,2,10,5⟩ (cG B 2).x=1 from dw.2.1];have HR5:=wB (HR4.out.next hb);clear hb HR4;obtain ⟨d0,d1,d2,d3,d4⟩:=cZ HR5.out.d;have df:=fun k=>wZ w8 D k _ _ HR5.out.d
 go_upto_region 9 with fail
 have HR6:=wB (HR5.out.setD (aJ w8 D 2 (.int .i64 0)) (q':=1) (wd':=0) (b':=5) (ae HR5.out.d 2 _));clear HR5 df d0 d1 d2 d3 d4;generalize w8.setCell ⟨D,2,none⟩ (.int .i64 0)=w9 at *;obtain ⟨d0,d1,d2,d3,d4⟩:=cZ HR6.out.d;obtain ⟨x0,x1,x2,x3,x4,x5,x6,x7,x8⟩:=cells9 HR6.out.x;go_wp2_with fail
 clear d0 d1 d2 d3 d4 x0 x1 x2 x3 x4 x5 x6 x7 x8;refine (cC w9 ⟨1,2,0,10,5⟩ (cG B 2) (HR6.out.s.inT z2)).mono ?_;rintro e w10 ⟨rfl,hb⟩;rw [show aL ⟨1,2,0,10,5⟩ (cG B 2).x=160 from dw.2.2.1];have HR7:=wB (HR6.out.next hb);clear hb HR6;obtain ⟨x0,x1,x2,x3,x4,x5,x6,x7,x8⟩:=cells9 HR7.out.x;have xf:=fun k=>wZ w10 (T+1) k _ _ HR7.out.x
 go_upto_region 11 with fail
 have HR8:=wB (HR7.out.setX 3);clear HR7 xf x0 x1 x2 x3 x4 x5 x6 x7 x8;generalize w10.setCell ⟨T+1,0,none⟩ (.int .i64 3)=w11 at *;obtain ⟨c0,c1,c2,c3,c4⟩:=cZ HR8.out.c;obtain ⟨x0,x1,x2,x3,x4,x5,x6,x7,x8⟩:=cells9 HR8.out.x;go_wp2_with fail
 clear c0 c1 c2 c3 c4 x0 x1 x2 x3 x4 x5 x6 x7 x8;refine (cC w11 aM (cG B 3) (HR8.out.s.inT z3)).mono ?_;rintro e w12 ⟨rfl,hb⟩;rw [show aL aM (cG B 3).x=262 from dw.2.2.2.1];have HR9:=wB (HR8.out.next hb);clear hb HR8;obtain ⟨x0,x1,x2,x3,x4,x5,x6,x7,x8⟩:=cells9 HR9.out.x;have xf:=fun k=>wZ w12 (T+1) k _ _ HR9.out.x
 go_upto_region 13 with fail
 have HR10:=wB (HR9.out.setX 4);clear HR9 xf x0 x1 x2 x3 x4 x5 x6 x7 x8;generalize w12.setCell ⟨T+1,0,none⟩ (.int .i64 4)=w13 at *;obtain ⟨c0,c1,c2,c3,c4⟩:=cZ HR10.out.c;obtain ⟨x0,x1,x2,x3,x4,x5,x6,x7,x8⟩:=cells9 HR10.out.x;go_wp2_with fail
 clear c0 c1 c2 c3 c4 x0 x1 x2 x3 x4 x5 x6 x7 x8;refine (cC w13 aM (cG B 4) (HR10.out.s.inT z4)).mono ?_;rintro e w14 ⟨rfl,hb⟩;rw [show aL aM (cG B 4).x=260 from dw.2.2.2.2];have HR11:=wB (HR10.out.next hb);clear hb HR10;obtain ⟨x0,x1,x2,x3,x4,x5,x6,x7,x8⟩:=cells9 HR11.out.x;have xf:=fun k=>wZ w14 (T+1) k _ _ HR11.out.x
 go_upto_region 15 with fail
 have HR12:=wB (HR11.out.setX 2);clear HR11 xf x0 x1 x2 x3 x4 x5 x6 x7 x8;generalize w14.setCell ⟨T+1,0,none⟩ (.int .i64 2)=w15 at *;obtain ⟨c0,c1,c2,c3,c4⟩:=cZ HR12.out.c;go_wp2_with fail
 clear c0 c1 c2 c3 c4;refine (oS w15 aM qE).mono ?_;rintro e w16 ⟨J,sv,rfl,hb,hJ,hsv,hjn⟩;have HJN:=wB hjn;have HR13:=wB (HR12.out.next hb);have HJ:=wB (xc HR12.out.below.size hJ);have HSV:=wB (fun i e=>xc HR12.out.below.size (hsv i e));clear hb hJ hsv hjn HR12;obtain ⟨x0,x1,x2,x3,x4,x5,x6,x7,x8⟩:=cells9 HR13.out.x;go_wp2_with fail
 clear x0 x1 x2 x3 x4 x5 x6 x7 x8;refine (oQ w16 J sv (aC (be4 0) (bJ aM)) (fg (be4 0) (bJ aM)) 0 HJN.out (cG B 2) (HR13.out.s.inT z2) sK (show (0:Int)<2 by decide) qF (by show (bu (ej 2)).length≤2000000;rw [dS.2];decide) gW.2).mono ?_;rintro e w17 ⟨rfl,sv',hjn,hk,_⟩
 have HJ17:=wB (show lF w17 J sv' cv (fg (fg (be4 0) (bJ aM)) (bu (ej 2))) 2 from by
  rw [sL];exact hjn)
 have HB17:=wB (HR13.out.below.trans (hk.below HR13.out.below.size (fun i hi e=>by
  rcases e with e | e
  · have:=HJ.out;omega
  · have:=HSV.out i e;omega)))
 clear hjn hk HR13 HJN;go_wp2_with fail
 refine (lH w17 J sv' cv _ _ HJ17.out (by rw [dS.1];decide)).mono ?_;rintro e w18 ⟨g,cap,rfl,hg,hcap,hmx,hrow,hb18⟩;rw [dS.1] at hcap ⊢;have HCP:=wB hcap;have HMX:=wB hmx;have HROW:=wB hrow;have HB18:=wB (Below.next HB17.out hb18);have HGW:=wB (show w.heap.size≤g from xc HB17.out.size hg);clear hg hcap hmx hrow hb18 HJ17;go_wp2_with fail
 refine (eF w18 (some ⟨g,0,none⟩) 105 cap cv dS.1 gW.1 (by decide) HCP.out (.inr ⟨g,0,rfl,fun j u hu=>by rw [wL];exact HROW.out.cell j u hu⟩) (fun a e=>by cases e;exact HROW.out.lt)).mono ?_;rintro e w19 ⟨hb19,rfl⟩;rw [lM.1];have HB19:=wB (Below.next HB18.out hb19);have HROW19:=wB (HROW.out.keep (Keep.of_below hb19 (wC _) (fun _=>False)) id);have heq1:=jd 1 1 0;have heq2:=jd 0 0 250;have heq3:=jd 1 1 250;have hcap:=HCP.out;have hc104:¬ cap<104:=by omega
 have hsl:∀ W:World,(Instr.slice 59 (.slice (some ⟨g,0,none⟩) 105 cap) none (some (.int .i64 104)) none).run Tryz.prog W = .ok (.slice (some ⟨g,0,none⟩) 104 cap) W:=fun W=>by
  go_simp
  intro h;omega
 clear hb19 HROW;go_wp2_with fail
 refine (eF w19 (some ⟨g,0,none⟩) 104 cap (cv.take 104) (by rw [List.length_take,dS.1];rfl) (gW.1.take 104) (by decide) (by omega) (.inr ⟨g,0,rfl,fun j u hu=>by
  rw [wL];rw [fZ] at hu
  have hj:j<104:=by
   have:=(List.getElem?_eq_some_iff.1 hu).1;rw [List.length_take] at this;omega
  rw [List.getElem?_take_of_lt hj] at hu;exact HROW19.out.cell j u hu⟩) (fun a e=>by cases e;exact HROW19.out.lt)).mono ?_
 rintro e w20 ⟨hb20,rfl⟩;rw [sM];have HB20:=wB (Below.next HB19.out hb20);have HROW20:=wB (HROW19.out.keep (Keep.of_below hb20 (wC _) (fun _=>False)) id);obtain ⟨i5,hi,hz0,hz1,hzz⟩:=dF kM;have HA:=wB (Keep.alloc (fun _=>False) w20 (.cells #[.int .u8 0] 5));have HB21:=wB (Below.next HB20.out (ck w20 (.cells #[.int .u8 0] 5)))
 have HOW:=wB (show Own (w20.alloc (.cells #[.int .u8 0] 5)) 1 (.slice (some ⟨g,0,none⟩) 105 cap) 105 (cellsOf ah cv) from
  ⟨by rw [aI,dS.1],.inr ⟨g,cap,rfl,HCP.out,HMX.out,HROW20.out.keep HA.out id⟩⟩)
 have HRZ:=wB (show RdC (w20.alloc (.cells #[.int .u8 0] 5)) (some ⟨w20.heap.size,0,none⟩) (cellsOf ah [0]) from cI (wF w20 _) rfl);clear hb20 HROW19 hsl heq1 heq2 hcap hc104;go_wp2_with (at_builtin;refine bE rfl (.tmp 73) (.tmp 74) 59 59 rfl 5 i5 (.int .u8 0) 1 1 Tryz.underlying59 hi hz0 hz1 hzz rfl (.slice (some ⟨g,0,none⟩) 105 cap) 105 (cellsOf ah cv) rfl HOW.out (.slice (some ⟨w20.heap.size,0,none⟩) 1 1) 1 (cellsOf ah [0]) rfl (Src.ofRd Tryz.underlying59 (some ⟨w20.heap.size,0,none⟩) 1 1 [0] rfl HRZ.out) (.inl (by decide)) (by decide) (by decide) ?_)
 intro g2 c2 w22 ho22 hk22 hg22;have HB22:=wB (HB21.out.trans (hk22.below HB21.out.size (fun i hi e=>by have e2:g=i:=(by cases e;rfl);have:=HGW.out;omega)))
 obtain ⟨hc2,hrow22⟩:106≤c2∧Row w22 g2 c2 1 (cellsOf ah (cv++[0])):=by
  obtain ⟨_,h1 | ⟨g3,c3,h1,h2,h3,h4⟩⟩:=ho22
  · cases h1.1
  · cases h1
    exact ⟨by simpa using h2,by simpa [cellsOf] using h4⟩
 have HC2:=wB hc2;have HROW22:=wB hrow22;clear hk22 ho22 hg22 hc2 hrow22 hi hz0 hz1 hzz i5 HRZ HOW;go_wp2_with fail
 refine (eF w22 (some ⟨g2,0,none⟩) 106 c2 (cv++[0]) (by rw [List.length_append,dS.1];rfl) (gW.1.app (by unfold Byt;decide)) (by decide) HC2.out (.inr ⟨g2,0,rfl,fun j u hu=>by rw [wL];exact HROW22.out.cell j u hu⟩) (fun a e=>by cases e;exact HROW22.out.lt)).mono ?_;rintro e w23 ⟨hb23,rfl⟩;rw [lM.2.2];have HB23:=wB (Below.next HB22.out hb23);clear hb23;go_wp2_with fail
 refine (jN _).mono ?_;rintro e w24 ⟨rfl,hb24⟩;have HE:=wB (Below.next HB23.out hb24);clear hb24;go_wp2_with fail
 go_ret
 exact ⟨rfl,HE.out⟩
end Go.Proofs.YtcaicgipibcicaaGreat
