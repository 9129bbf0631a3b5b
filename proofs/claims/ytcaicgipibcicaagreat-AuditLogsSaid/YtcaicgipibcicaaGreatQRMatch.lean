/- Chapter 18 in the reference: bounds, the whole check; windows that close. -/
import Derived.Test.YtcaicgipibcicaaGreatQRCert3
import Derived.Test.YtcaicgipibcicaaGreatQHeldTail
set_option maxRecDepth 100000
set_option maxHeartbeats 8000000
set_option linter.unusedSimpArgs false
set_option linter.unusedVariables false
open Go.Lib renaming hid→yA
open List renaming getElem?_eq_getElem→yC,getElem?_eq_some_iff→yD
open Nat renaming le_refl→yB,lt_succ_iff_lt_or_eq→yW,zero_le→yQ
open Prod.mk renaming inj→zZ
namespace Go.Proofs.YtcaicgipibcicaaGreat
open Go.RowKit Go.Sort
def pq (rows cols:Int) (es:List ab) (ys zs:List Int) (m k:Nat):Int × Int:=
 if cd rows cols m k≠0 then (0,1) else if dv es ys zs then (match cY ys zs with
  | none=>(0,3)
  | some n=>(n,0)) else (0,181)
def dx (rows cols:Int) (es:List ab) (ys zs:List Int):Int × Int:=pq rows cols es ys zs ys.length zs.length
theorem lZ {rows cols:Int} {n m:Nat} (h:¬ ((n:Int)=rows∧(m:Int)=cols)):cd rows cols n m=1:=if_neg h
theorem pt {rows cols:Int} {n m:Nat} (h:(n:Int)=rows∧(m:Int)=cols):cd rows cols n m=0:=if_pos h
theorem wB {es:List ab} {ys zs:List Int} (h:dv es ys zs=true):bb ys=true∧bb zs=true:=by
 unfold dv at h;rw [Bool.and_eq_true,Bool.and_eq_true] at h;exact h.1
theorem sr (w:World) (rows cols:Int) (eo yo zo:Option Addr) (n c m c' k c'':Nat) (l:List ab) (ys zs:List Int) (hg:aQ rows cols l=true) (hl:l.length=n) (hr:RdC w eo (cellsOf ab.cells l)) (hn:n≤9007199254740992) (hm:m≤9007199254740992) (hk:k≤9007199254740992)
 (hy:ys.length=m) (hyr:RdC w yo (cellsOf aP ys)) (hz:zs.length=k) (hzr:RdC w zo (cellsOf aP zs)) (hyo:∀ x ∈ ys,ar x) :
 Calls Tryz.prog 102 #[.agg #[.int .i64 rows,.int .i64 cols,.slice eo n c],.slice yo m c',.slice zo k c''] w fun e w'=>e = .returned (.tuple #[.int .i64 (dx rows cols l ys zs).1,.int .i64 (dx rows cols l ys zs).2])∧Below w.heap.size w w':=by
 have hg0:aY rows cols l=0:=by simp [aY,hg]
 have HCH:=yA (fun wx hb=>by have:=iB wx rows cols eo n c l hl (hr.below hb) hn;rw [hg0] at this;exact this);have HHO:=yA (fun wx hb h1 h2=>uv wx rows cols eo yo zo n c m c' k c'' l ys zs hg hl (hr.below hb) hn hy (hyr.below hb) h1 hz (hzr.below hb) h2 hyo);have HSU:=yA (fun wx hb h1 h2=>wv wx yo zo m c' k c'' ys zs hm hk hy (hyr.below hb) hz (hzr.below hb) h1 h2);have HBP:=yA (show dx rows cols l ys zs=pq rows cols l ys zs m k by unfold dx;rw [hy,hz]);clear hl hr hg hg0 hy hyr hz hzr hyo hm hk;obtain ⟨A,E,hAE⟩:∃ A E,dx rows cols l ys zs=(A,E):=⟨_,_,rfl⟩;rw [hAE] at HBP ⊢;clear hAE;unfold pq at HBP;have HW:=yA (bV.begin w rows cols (.slice eo n c));go_enter Tryz.func102,Tryz.ntmps102
 go_wp2_with fail
 generalize w.alloc (.cells #[.int .i64 rows,.int .i64 cols,.slice eo n c] 28)=W at *;have HHE:=yA (show ∃ H0,w.heap.size=H0 from ⟨_,rfl⟩);obtain ⟨H0,hH0⟩:=HHE.out;rw [hH0] at HW;rw [hH0];have HH:=yA hH0;clear hH0 HHE;refine (HCH.out W HW.out.below).mono ?_;rintro e w1 ⟨rfl,hb1⟩;have HW1:=yA (HW.out.keep hb1);obtain ⟨g0,g1,g2,gf⟩:=cells3 HW1.out.g;clear hb1 HW HCH gf;by_cases h1:(m:Int)=rows
 · have b1:((m:Int) != rows)=false:=by simp [h1]
   by_cases h2:(k:Int)=cols
   · have b2:((k:Int) != cols)=false:=by simp [h2]
     have HB2:=yA (HBP.out.trans (if_neg (by rw [pt ⟨h1,h2⟩];simp)));have HHQ:=yA (fun wx hb=>HHO.out wx hb h1 h2);clear h1 h2 HBP HHO;go_wp2_with fail
     refine (HHQ.out w1 HW1.out.below).mono ?_;rintro e w2 ⟨rfl,hb2⟩;have HW2:=yA (HW1.out.keep hb2);clear hb2 HW1 HHQ g0 g1 g2;cases hh:dv l ys zs with
     | false=>
       rw [hh] at HB2;have HE:=yA (zZ HB2.out);clear HB2 hh;go_wp2_with fail
       go_ret2
       exact ⟨by rw [HE.out.1,HE.out.2];rfl,HW2.out.below⟩
     | true=>
       rw [hh] at HB2;have hnn:=wB hh;have HSQ:=yA (HSU.out w2 HW2.out.below hnn.1 hnn.2);clear hh hnn HSU;go_wp2_with fail
       refine HSQ.out.mono ?_;rintro e w3 ⟨rfl,rfl⟩;cases hs:cY ys zs with
       | none=>
         rw [hs] at HB2;have HE:=yA (zZ HB2.out);clear HB2 hs HSQ;simp only [sumV];go_wp2_with fail
         go_ret2
         exact ⟨by rw [HE.out.1,HE.out.2];rfl,HW2.out.below⟩
       | some t=>
         rw [hs] at HB2;have HE:=yA (zZ HB2.out);clear HB2 hs HSQ;simp only [sumV];go_wp2_with fail
         go_ret2
         exact ⟨by rw [HE.out.1,HE.out.2];rfl,HW2.out.below⟩
   · have b2:((k:Int) != cols)=true:=by simp [h2]
     have HB2:=yA (HBP.out.trans (if_pos (by rw [lZ (fun h=>h2 h.2)];simp)));have HE:=yA (zZ HB2.out);clear h1 h2 HBP HHO HSU HB2;go_wp2_with fail
     go_ret2
     exact ⟨by rw [HE.out.1,HE.out.2];rfl,HW1.out.below⟩
 · have b1:((m:Int) != rows)=true:=by simp [h1]
   have HB2:=yA (HBP.out.trans (if_pos (by rw [lZ (fun h=>h1 h.1)];simp)));have HE:=yA (zZ HB2.out);clear h1 HBP HHO HSU HB2;go_wp2_with fail
   go_ret2
   exact ⟨by rw [HE.out.1,HE.out.2];rfl,HW1.out.below⟩
theorem nO {rows cols:Int} {es:List ab} {ps:List ag} {ys zs:List Int} (h:cX rows cols es ps=0):((dx rows cols es ys zs).2=3→fN rows cols es ps ys zs=182)∧((dx rows cols es ys zs).2≠0→(dx rows cols es ys zs).2≠3→fN rows cols es ps ys zs=(dx rows cols es ys zs).2)∧
 ((dx rows cols es ys zs).2=0→(dx rows cols es ys zs).1=bG es ps→fN rows cols es ps ys zs=0)∧((dx rows cols es ys zs).2=0→(dx rows cols es ys zs).1≠bG es ps→fN rows cols es ps ys zs=182):=by
 have hb:cd rows cols ys.length zs.length=if bH rows cols ys zs then 0 else 1:=by
  unfold cd bH;by_cases h1:(ys.length:Int)=rows <;> by_cases h2:(zs.length:Int)=cols <;> simp [h1,h2]
 unfold fN oZ dx pq gapB;rw [hb];cases bH rows cols ys zs <;> cases dv es ys zs <;> cases cY ys zs <;> simp [h]
theorem qH {rows cols:Int} {es:List ab} {ps:List ag} (h:cX rows cols es ps=0):aQ rows cols es=true:=by
 unfold cX at h;cases hg:aQ rows cols es with
 | true=>rfl
 | false=>simp [hg] at h
theorem nh (w:World) (rows cols:Int) (eo po yo zo:Option Addr) (n c q d m c' k c'':Nat) (l:List ab) (ps:List ag) (ys zs:List Int) (hl:l.length=n) (hr:RdC w eo (cellsOf ab.cells l)) (hn:n≤9007199254740992)
 (hp:ps.length=q) (hpr:RdC w po (cellsOf ag.cells ps)) (hq:q≤1048576) (hm:m≤9007199254740992) (hk:k≤9007199254740992)
 (hy:ys.length=m) (hyr:RdC w yo (cellsOf aP ys)) (hz:zs.length=k) (hzr:RdC w zo (cellsOf aP zs)) (hyo:∀ x ∈ ys,ar x) :
 Calls Tryz.prog 58 #[.agg #[.int .i64 rows,.int .i64 cols,.slice eo n c],.agg #[.slice po q d,.slice yo m c',.slice zo k c'']] w fun e w'=>e = .returned (.int .i64 (fN rows cols l ps ys zs))∧Below w.heap.size w w':=by
 have HPA:=yA (fun wx hb=>sf wx rows cols eo po n c q d l ps hl (hr.below hb) hn hp (hpr.below hb) (by omega));have HBO:=yA (fun wx hb hg=>sr wx rows cols eo yo zo n c m c' k c'' l ys zs hg hl (hr.below hb) hn hm hk hy (hyr.below hb) hz (hzr.below hb) hyo);have HWO:=yA (fun wx hb hg=>sd wx rows cols eo po n c q d l ps hg hl (hr.below hb) hn hp (hpr.below hb) hq);have HCB:=yA (fun h=>nO (rows:=rows) (cols:=cols) (es:=l) (ps:=ps) (ys:=ys) (zs:=zs) h);have HCN:=yA (fun (h:cX rows cols l ps≠0)=>show fN rows cols l ps ys zs=cX rows cols l ps by unfold fN;rw [if_pos h]);have HZG:=yA (fun h=>qH (rows:=rows) (cols:=cols) (es:=l) (ps:=ps) h);clear hl hr hn hp hpr hq hm hk hy hyr hz hzr hyo
 have HW:Hid (∃ W,W=(w.alloc (.cells #[.int .i64 rows,.int .i64 cols,.slice eo n c] 28)).alloc (.cells #[.slice po q d,.slice yo m c',.slice zo k c''] 32)∧W.heap[w.heap.size]?=some (.cells #[.int .i64 rows,.int .i64 cols,.slice eo n c] 28 (0,0))∧W.heap[w.heap.size+1]?=some (.cells #[.slice po q d,.slice yo m c',.slice zo k c''] 32 (0,0))∧Below w.heap.size w W):=yA (by
  refine ⟨_,rfl,(Keep.alloc (fun _=>False) _ _).old (heap_alloc_new w _) id,?_,((Below.refl w.heap.size w).alloc (yB _) _).alloc (by simp) _⟩;have:=heap_alloc_new (w.alloc (.cells #[.int .i64 rows,.int .i64 cols,.slice eo n c] 28)) (.cells #[.slice po q d,.slice yo m c',.slice zo k c''] 32);rw [show (w.alloc (.cells #[.int .i64 rows,.int .i64 cols,.slice eo n c] 28)).heap.size=w.heap.size+1 by simp] at this;exact this)
 go_enter Tryz.func58,Tryz.ntmps58
 go_wp2_with fail
 obtain ⟨W,hWE,hg0,hc0,hbW⟩:=HW.out;rw [←hWE];have HG0:=yA hg0;have HC0:=yA hc0;have HBW:=yA hbW;clear HW hWE hg0 hc0 hbW;generalize w.heap.size+1=H1 at *;have HHE:=yA (show ∃ H0,w.heap.size=H0 from ⟨_,rfl⟩);obtain ⟨H0,hH0⟩:=HHE.out;rw [hH0] at HG0;rw [hH0];have HH:=yA hH0;clear hH0 HHE;refine (HPA.out W HBW.out).mono ?_;rintro e w1 ⟨rfl,hb1⟩;have hk1:=Keep.of_below hb1 (yB _) (fun _=>False);have HG1:=yA (hk1.old HG0.out id);have HC1:=yA (hk1.old HC0.out id);have HB1:=yA (Below.next HBW.out hb1);clear hb1 hk1 HG0 HC0 HBW HPA;obtain ⟨g0,g1,g2,gf⟩:=cells3 HG1.out;obtain ⟨d0,d1,d2,df⟩:=cells3 HC1.out;clear gf df;by_cases hpe:cX rows cols l ps=0
 · have hgg:=HZG.out hpe
   have HCC:=yA (HCB.out hpe);have HBQ:=yA (fun wx hb=>HBO.out wx hb hgg);have HWQ:=yA (fun wx hb=>HWO.out wx hb hgg);rw [hpe];clear hpe hgg HCB HBO HWO HCN HZG;go_wp2_with fail
   refine (HBQ.out w1 HB1.out).mono ?_;rintro e w2 ⟨rfl,hb2⟩;have hk2:=Keep.of_below hb2 (yB _) (fun _=>False);have HG2:=yA (hk2.old HG1.out id);have HC2:=yA (hk2.old HC1.out id);have HB2:=yA (Below.next HB1.out hb2);clear hb2 hk2 HG1 HC1 HB1 HBQ g0 g1 g2 d0 d1 d2;obtain ⟨g0,g1,g2,gf⟩:=cells3 HG2.out;obtain ⟨d0,d1,d2,df⟩:=cells3 HC2.out;clear gf df;obtain ⟨A,hA⟩:∃ A,(dx rows cols l ys zs).1=A:=⟨_,rfl⟩;obtain ⟨E,hE⟩:∃ E,(dx rows cols l ys zs).2=E:=⟨_,rfl⟩;rw [hA,hE] at HCC ⊢;clear hA hE;obtain ⟨f1,f2,f3,f4⟩:=HCC.out;by_cases h3:E=3
   · have HF:=yA (f1 h3)
     have b3:(E==3)=true:=by simp [h3]
     clear h3 f1 f2 f3 f4 HCC;go_wp2_with fail
     go_ret
     exact ⟨by rw [HF.out];rfl,HB2.out⟩
   have b3:(E==3)=false:=by simp [h3]
   by_cases h0:E=0
   · have b0:(E==0)=true:=by simp [h0]
     have HF3:=yA (f3 h0);have HF4:=yA (f4 h0);have HE0:=yA h0;clear h3 h0 f1 f2 f3 f4 HCC;go_wp2_with fail
     refine (HWQ.out w2 HB2.out).mono ?_;rintro e w3 ⟨rfl,hb3⟩;have HB3:=yA (Below.next HB2.out hb3);clear hb3 HG2 HC2 HB2 HWQ g0 g1 g2 d0 d1 d2;generalize bG l ps=B at *;by_cases hab:A=B
     · have HF:=yA (HF3.out hab)
       have b5:(A != B)=false:=by simp [hab]
       clear hab HF3 HF4;go_wp2_with fail
       go_ret
       exact ⟨by rw [HF.out,←HE0.out];rfl,HB3.out⟩
     · have HF:=yA (HF4.out hab)
       have b5:(A != B)=true:=by simp [hab]
       clear hab HF3 HF4;go_wp2_with fail
       go_ret
       exact ⟨by rw [HF.out];rfl,HB3.out⟩
   · have b0:(E==0)=false:=by simp [h0]
     have HF:=yA (f2 h0 h3);clear h3 h0 f1 f2 f3 f4 HCC;go_wp2_with fail
     go_ret
     exact ⟨by rw [HF.out];rfl,HB2.out⟩
 · have HF:=yA (HCN.out hpe)
   have b1:(cX rows cols l ps==0)=false:=by simp [hpe]
   have b2:(cX rows cols l ps != 0)=true:=by simp [hpe]
   clear hpe HCN HCB HBO HWO HZG;generalize cX rows cols l ps=E at *;go_wp2_with fail
   go_ret
   exact ⟨by rw [HF.out];rfl,HB1.out⟩
def bz (es:List ab) (r c:Int) (j:Nat):Bool:=(es.take j).any (isE r c)
theorem jy (es:List ab) (r c:Int):bz es r c 0=false:=by simp [bz]
theorem jz {es:List ab} {r c:Int} {j:Nat} {x:ab} (hx:es[j]?=some x):bz es r c (j+1)=(bz es r c j || isE r c x):=by
 have hj:=(yD.1 hx).1;unfold bz;rw [List.take_succ_eq_append_getElem hj,(yD.1 hx).2,List.any_append];simp
theorem kH (es:List ab) (r c:Int):bz es r c es.length=jJ es r c:=by simp [bz,jJ]
theorem nP (w:World) (rows cols:Int) (eo po:Option Addr) (n c q d:Nat) (l:List ab) (ps:List ag) (hg:aQ rows cols l=true) (hl:l.length=n) (hr:RdC w eo (cellsOf ab.cells l)) (hn:n≤9007199254740992)
 (hp:ps.length=q) (hpr:RdC w po (cellsOf ag.cells ps)) (hq:q≤9007199254740992) :
 Calls Tryz.prog 95 #[.agg #[.int .i64 rows,.int .i64 cols,.slice eo n c],.slice po q d] w fun e w'=>e = .returned (.bool (cw l ps))∧Below w.heap.size w w':=by
 have HP:=yA hp;have HPR:=yA hpr;have HL:=yA hl;have HR:=yA hr;have HG:=yA hg;clear hl hr hp hpr hg;have HW:=yA (bV.begin w rows cols (.slice eo n c));go_enter Tryz.func95,Tryz.ntmps95
 go_wp2_with fail
 generalize w.alloc (.cells #[.int .i64 rows,.int .i64 cols,.slice eo n c] 28)=W at *;have HHE:=yA (show ∃ H0,w.heap.size=H0 from ⟨_,rfl⟩);obtain ⟨H0,hH0⟩:=HHE.out;rw [hH0] at HW;rw [hH0];have HH:=yA hH0;clear hH0 HHE;go_loopw [5] (fun i wr=>Hid (∃ k:Nat,i = .int .i64 k∧k≤q∧(∀ j,j<k→cW l ps j=true)∧bV w rows cols (.slice eo n c) H0 wr)) (fun i _=>q - (intOf i).toNat)
 case atStart=>exact yA ⟨0,rfl,yQ _,bB,HW.out⟩
 case round=>
  obtain ⟨k,rfl,hk,hall,hrel1⟩:=hrel.out;clear hrel;have HR1:=yA hrel1;have HALL:=yA hall;clear hrel1 hall;by_cases hlt:k<q
  · obtain ⟨x,hx⟩:∃ x,ps[k]?=some x:=⟨ps[k]'(by rw [HP.out];exact hlt),yC _⟩
    obtain ⟨b,o,rfl,_⟩:=HPR.out.place (by rw [cellsOf_length _ 2 ag.cells_length,HP.out];omega);have HX:=yA hx;have HBAD:=yA (fun h=>gS (es:=l) HX.out h);have HEQ:=yA (gD (es:=l) HX.out);have HIN:=yA (cV HG.out x.r x.c);have HEI:=yA (og HG.out x.r x.c);clear hx;go_wp2_with fail
    go_loopw [6,7] (fun v i wr=>Hid (∃ j:Nat,v = .bool (bz l x.r x.c j)∧i = .int .i64 j∧j≤n∧bV w rows cols (.slice eo n c) H0 wr)) (fun _ i _=>n - (intOf i).toNat)
    case atStart=>exact yA ⟨0,by rw [jy],rfl,yQ _,HR1.out⟩
    case round=>
     obtain ⟨j,rfl,rfl,hj,hrel1⟩:=hrel.out;clear hrel;obtain ⟨g0,g1,g2,gf⟩:=cells3 hrel1.g;have HR2:=yA hrel1;clear hrel1 g0 g1 gf;by_cases hjn:j<n
     · obtain ⟨y,hy⟩:∃ y,l[j]?=some y:=⟨l[j]'(by rw [HL.out];exact hjn),yC _⟩
       obtain ⟨b2,o2,rfl,_⟩:=HR.out.place (by rw [cellsOf_length _ 3 ab.cells_length,HL.out];omega);have hkb:=Keep.of_below HR2.out.below (yB _) (fun _=>False);obtain ⟨y0,y1,y2⟩:=cH (HR.out.keep hkb (fun _ _ _=>id)) hy;obtain ⟨x0,x1⟩:=bi (HPR.out.keep hkb (fun _ _ _=>id)) HX.out;have HSU:=yA (jz (r:=x.r) (c:=x.c) hy);clear hy hkb;cases heu:bz l x.r x.c j with
       | true=>
         have HNX:=yA (show bz l x.r x.c (j+1)=true by rw [HSU.out,heu];rfl);clear heu;go_wp2_with fail
         go_quiet (fail)
         go_wp2_with fail
         go_roundw
         case rel=>exact yA ⟨j+1,by rw [HNX.out],by go_num,by omega,HR2.out.drewN _⟩
         case measure=>simp [intOf];omega
       | false=>
         by_cases h1:y.r=x.r
         · by_cases h2:y.c=x.c
           · have HNX:=yA (show bz l x.r x.c (j+1)=true by rw [HSU.out,heu,isE,decide_eq_true ⟨h1,h2⟩];rfl)
             have b1:(y.r==x.r)=true:=by simp [h1]
             have b2:(y.c==x.c)=true:=by simp [h2]
             clear heu h1 h2;go_wp2_with fail
             go_quiet (fail)
             go_wp2_with fail
             go_roundw
             case rel=>exact yA ⟨j+1,by rw [HNX.out],by go_num,by omega,HR2.out.drewN _⟩
             case measure=>simp [intOf];omega
           · have HNX:=yA (show bz l x.r x.c (j+1)=false by rw [HSU.out,heu,isE,decide_eq_false (fun h=>h2 h.2)];rfl)
             have b1:(y.r==x.r)=true:=by simp [h1]
             have b2:(y.c==x.c)=false:=by simp [h2]
             clear heu h1 h2;go_wp2_with fail
             go_quiet (fail)
             go_wp2_with fail
             go_roundw
             case rel=>exact yA ⟨j+1,by rw [HNX.out],by go_num,by omega,HR2.out.drewN _⟩
             case measure=>simp [intOf];omega
         · have HNX:=yA (show bz l x.r x.c (j+1)=false by rw [HSU.out,heu,isE,decide_eq_false (fun h=>h1 h.1)];rfl)
           have b1:(y.r==x.r)=false:=by simp [h1]
           clear heu h1;go_wp2_with fail
           go_quiet (fail)
           go_wp2_with fail
           go_roundw
           case rel=>exact yA ⟨j+1,by rw [HNX.out],by go_num,by omega,HR2.out.drewN _⟩
           case measure=>simp [intOf];omega
     · obtain rfl:n=j:=by omega
       have HEU:=yA (show bz l x.r x.c n=decide (aJ l x.r x.c≠0) by rw [←HEI.out,←kH,HL.out]);obtain ⟨x0,x1⟩:=bi (HPR.out.keep (Keep.of_below HR2.out.below (yB _) (fun _=>False)) (fun _ _ _=>id)) HX.out;by_cases h1:aJ l x.r x.c=0
       · have HF:=yA (HBAD.out (by rw [HEQ.out,h1];simp))
         rw [HEU.out,decide_eq_false (fun h=>h h1)];clear h1;go_wp2_with fail
         go_quiet (fail)
         go_wp2_with fail
         go_ret
         exact ⟨by rw [HF.out];rfl,(HR2.out.drewN _).below⟩
       · have hrow:0≤x.r:=by
          rcases HIN.out with ⟨h0,_⟩ | ⟨_,_,h3,_⟩
          · exact absurd h0 h1
          · exact h3
         have HEQ2:=yA (show cW l ps k=(decide (dX ps k<x.r) && cO ps k x.c) by rw [HEQ.out,decide_eq_true (show aJ l x.r x.c≠0 from h1),Bool.and_true]);rw [HEU.out,decide_eq_true h1]
         have HROW:Hid ((k=0∧dX ps k<x.r)∨(0<k∧∃ y,ps[k - 1]?=some y∧dX ps k=y.r)):=yA (by
          have hcase:k=0∨0<k:=by omega
          rcases hcase with rfl | h
          · exact .inl ⟨rfl,by simp only [dX];omega⟩
          · right
            obtain ⟨y,hy⟩:∃ y,ps[k - 1]?=some y:=⟨ps[k - 1]'(by rw [HP.out];omega),yC _⟩;have:=fM hy;rw [show k - 1+1=k by omega] at this;exact ⟨h,y,hy,this⟩)
         clear h1 HEQ HIN;rcases HROW.out with ⟨h2,h3⟩ | ⟨h2,y,hy,h3⟩
         · have HEQ3:=yA (show cW l ps k=cO ps k x.c by rw [HEQ2.out,decide_eq_true h3,Bool.true_and])
           have b2:decide (0<k)=false:=by simp [h2]
           clear h2 h3 HROW HEQ2;go_wp2_with fail
           go_quiet (fail)
           go_wp2_with fail
           go_loopw [8] (fun i wr=>Hid (∃ j:Nat,i = .int .i64 j∧j≤k∧(∀ (p:Nat) (y:ag),p<j→ps[p]?=some y→y.c≠x.c)∧bV w rows cols (.slice eo n c) H0 wr)) (fun i _=>k - (intOf i).toNat)
           case atStart=>exact yA ⟨0,rfl,yQ _,fun p y h=>absurd h (Nat.not_lt_zero p),HR2.out.drewN _⟩
           case round=>
            obtain ⟨j,rfl,hj,hfree,hrel1⟩:=hrel.out;clear hrel;have HR3:=yA hrel1;have HFR:=yA hfree;clear hrel1 hfree;by_cases hjk:j<k
            · obtain ⟨z,hz⟩:∃ z,ps[j]?=some z:=⟨ps[j]'(by rw [HP.out];omega),yC _⟩
              have hkb:=Keep.of_below HR3.out.below (yB _) (fun _=>False);obtain ⟨z0,z1⟩:=bi (HPR.out.keep hkb (fun _ _ _=>id)) hz;obtain ⟨v0,v1⟩:=bi (HPR.out.keep hkb (fun _ _ _=>id)) HX.out;have HZ:=yA hz;clear hz hkb;by_cases h5:z.c=x.c
              · have HF:=yA (HBAD.out (by rw [HEQ3.out];exact fq hjk HZ.out h5))
                have b5:(z.c==x.c)=true:=by simp [h5]
                clear h5;go_wp2_with fail
                go_quiet (fail)
                go_wp2_with fail
                go_ret
                exact ⟨by rw [HF.out];rfl,(HR3.out.drewN _).below⟩
              · have HA:=yA (show ∀ (p:Nat) (y:ag),p<j+1→ps[p]?=some y→y.c≠x.c from fun p y hp hy=>by
                 rcases yW.1 hp with hp | rfl
                 · exact HFR.out p y hp hy
                 · rw [HZ.out] at hy;cases hy;exact h5)
                have b5:(z.c==x.c)=false:=by simp [h5]
                clear h5;go_wp2_with fail
                go_quiet (fail)
                go_wp2_with fail
                go_roundw
                case rel=>exact yA ⟨j+1,by go_num,by omega,HA.out,HR3.out.drewN _⟩
                case measure=>simp [intOf];omega
            · obtain rfl:k=j:=by omega
              have HA:=yA (aX HALL.out (by rw [HEQ3.out];exact ey HFR.out));go_wp2_with fail
              go_roundw
              case rel=>exact yA ⟨k+1,by go_num,by omega,HA.out,HR3.out⟩
              case measure=>simp [intOf];omega
         · obtain ⟨y0,y1⟩:=bi (HPR.out.keep (Keep.of_below HR2.out.below (yB _) (fun _=>False)) (fun _ _ _=>id)) hy
           have b2:decide (0<k)=true:=by simp [h2]
           by_cases h4:x.r≤y.r
           · have HF:=yA (HBAD.out (by rw [HEQ2.out,h3,decide_eq_false (show ¬ y.r<x.r by omega)];rfl))
             have b4:decide (x.r≤y.r)=true:=decide_eq_true h4;clear h3 hy HROW HEQ2;go_wp2_with fail
             go_quiet (fail)
             go_wp2_with fail
             go_ret
             exact ⟨by rw [HF.out];rfl,(HR2.out.drewN _).below⟩
           · have HEQ3:=yA (show cW l ps k=cO ps k x.c by rw [HEQ2.out,h3,decide_eq_true (show y.r<x.r by omega),Bool.true_and])
             have b4:decide (x.r≤y.r)=false:=decide_eq_false h4;clear h3 h4 hy HROW HEQ2;go_wp2_with fail
             go_quiet (fail)
             go_wp2_with fail
             go_loopw [8] (fun i wr=>Hid (∃ j:Nat,i = .int .i64 j∧j≤k∧(∀ (p:Nat) (y:ag),p<j→ps[p]?=some y→y.c≠x.c)∧bV w rows cols (.slice eo n c) H0 wr)) (fun i _=>k - (intOf i).toNat)
             case atStart=>exact yA ⟨0,rfl,yQ _,fun p y h=>absurd h (Nat.not_lt_zero p),HR2.out.drewN _⟩
             case round=>
              obtain ⟨j,rfl,hj,hfree,hrel1⟩:=hrel.out;clear hrel;have HR3:=yA hrel1;have HFR:=yA hfree;clear hrel1 hfree;by_cases hjk:j<k
              · obtain ⟨z,hz⟩:∃ z,ps[j]?=some z:=⟨ps[j]'(by rw [HP.out];omega),yC _⟩
                have hkb:=Keep.of_below HR3.out.below (yB _) (fun _=>False);obtain ⟨z0,z1⟩:=bi (HPR.out.keep hkb (fun _ _ _=>id)) hz;obtain ⟨v0,v1⟩:=bi (HPR.out.keep hkb (fun _ _ _=>id)) HX.out;have HZ:=yA hz;clear hz hkb;by_cases h5:z.c=x.c
                · have HF:=yA (HBAD.out (by rw [HEQ3.out];exact fq hjk HZ.out h5))
                  have b5:(z.c==x.c)=true:=by simp [h5]
                  clear h5;go_wp2_with fail
                  go_quiet (fail)
                  go_wp2_with fail
                  go_ret
                  exact ⟨by rw [HF.out];rfl,(HR3.out.drewN _).below⟩
                · have HA:=yA (show ∀ (p:Nat) (y:ag),p<j+1→ps[p]?=some y→y.c≠x.c from fun p y hp hy=>by
                   rcases yW.1 hp with hp | rfl
                   · exact HFR.out p y hp hy
                   · rw [HZ.out] at hy;cases hy;exact h5)
                  have b5:(z.c==x.c)=false:=by simp [h5]
                  clear h5;go_wp2_with fail
                  go_quiet (fail)
                  go_wp2_with fail
                  go_roundw
                  case rel=>exact yA ⟨j+1,by go_num,by omega,HA.out,HR3.out.drewN _⟩
                  case measure=>simp [intOf];omega
              · obtain rfl:k=j:=by omega
                have HA:=yA (aX HALL.out (by rw [HEQ3.out];exact ey HFR.out));go_wp2_with fail
                go_roundw
                case rel=>exact yA ⟨k+1,by go_num,by omega,HA.out,HR3.out⟩
                case measure=>simp [intOf];omega
  · obtain rfl:q=k:=by omega
    have HF:=yA (show cw l ps=true from aU (fun j hj=>HALL.out j (by rw [HP.out] at hj;exact hj)));go_wp2_with fail
    go_ret
    exact ⟨by rw [HF.out];rfl,HR1.out.below⟩
end Go.Proofs.YtcaicgipibcicaaGreat
