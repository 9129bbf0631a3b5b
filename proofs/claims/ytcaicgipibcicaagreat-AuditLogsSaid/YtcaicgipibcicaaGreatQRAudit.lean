/- Is a record's graph that of its requests and drivers? audit.graft; and chapter 26's Record. -/
import Derived.Test.YtcaicgipibcicaaGreatQALists
import Derived.Test.YtcaicgipibcicaaGreatQRowB
import Derived.Test.YtcaicgipibcicaaGreatQRMatch
set_option maxRecDepth 100000
set_option maxHeartbeats 8000000
set_option linter.unusedSimpArgs false
set_option linter.unusedVariables false
open Go.Lib renaming hid→yA
namespace Go.Proofs.YtcaicgipibcicaaGreat
open Go.RowKit Go.Sort
def iA (c:ae) (x:aF):Int:=if cM c x then 0 else 260
theorem qz {c:ae} {x:aF} (h:bO c x.tick x.ws x.ds≠0):cM c x=false:=by simp [cM,h]
theorem vY {c:ae} {x:aF} {n:Nat} (hn:x.ws.length=n) (h:(n:Int)≠x.rows):cM c x=false:=by subst hn;simp [cM,Ne.symm h]
theorem vZ {c:ae} {x:aF} {m:Nat} (hm:x.ds.length=m) (h:(m:Int)≠x.cols):cM c x=false:=by subst hm;simp [cM,Ne.symm h]
theorem v9 {c:ae} {x:aF} (h:iQ (bj c x.tick x.ws x.ds) x.es=false):cM c x=false:=by unfold cM;rw [show decide (bj c x.tick x.ws x.ds=x.es)=false from h];simp
theorem wd {c:ae} {x:aF} {n m:Nat} (h0:bO c x.tick x.ws x.ds=0) (hn:x.ws.length=n) (hm:x.ds.length=m) (h1:(n:Int)=x.rows) (h2:(m:Int)=x.cols) (h:iQ (bj c x.tick x.ws x.ds) x.es=true):cM c x=true:=by
 subst hn;subst hm;unfold cM;rw [show decide (bj c x.tick x.ws x.ds=x.es)=true from h];simp [h0,h1,h2]
theorem iZ {c:ae} {x:aF} (h:cM c x=false):iA c x=260:=by unfold iA;rw [h];rfl
theorem r8 {c:ae} {x:aF} (h:cM c x=true):iA c x=0:=by unfold iA;rw [h];rfl
theorem m9 {c:ae} {now:Int} {ws:List ad} {ds:List ak} {n m:Nat} (hn:ws.length=n) (hm:ds.length=m) (h1:n≤1048576) (h2:m≤1048576):(bj c now ws ds).length≤1099511627776:=by
 rw [bj,List.length_map];have k1:=jR ws ds;have k2:ws.length*ds.length≤1048576*1048576:=Nat.mul_le_mul (by omega) (by omega);omega
theorem uu (w:World) (c:ae) (v:RV) (hin:v.In w):Calls Tryz.prog 49 #[.agg #[.int .i64 c.q,.int .i64 c.d,.int .i64 c.w,.int .i64 c.ttl,.int .i64 c.b],.agg #[.int .i64 v.x.tick,.slice v.wo v.wn v.wc,.slice v.ko v.kn v.kc,.int .i64 v.x.rows,.int .i64 v.x.cols,.slice v.eo v.en v.ec,.slice v.po v.pn v.pc,.slice v.yo v.yn v.yc,.slice v.zo v.zn v.zc]] w fun e w'=>e = .returned (.int .i64 (iA c v.x))∧Below w.heap.size w w':=by
 have HIN:=yA hin;have wb:=hin.wb;have kb:=hin.kb;have eb:=hin.eb;clear hin;have HW:=yA (cm.begin w c v);go_enter Tryz.func49,Tryz.ntmps49
 go_upto_region 1 with fail
 generalize (w.alloc (.cells #[.int .i64 c.q,.int .i64 c.d,.int .i64 c.w,.int .i64 c.ttl,.int .i64 c.b] 23)).alloc (.cells #[.int .i64 v.x.tick,.slice v.wo v.wn v.wc,.slice v.ko v.kn v.kc,.int .i64 v.x.rows,.int .i64 v.x.cols,.slice v.eo v.en v.ec,.slice v.po v.pn v.pc,.slice v.yo v.yn v.yc,.slice v.zo v.zn v.zc] 34)=W at *;generalize w.heap.size+1=H1 at *;have HHE:=yA (show ∃ H0,w.heap.size=H0 from ⟨_,rfl⟩);obtain ⟨H0,hH0⟩:=HHE.out;rw [hH0] at HW;rw [hH0];have HH:=yA hH0;clear hH0 HHE;obtain ⟨g0,g1,g2,g3,g4,g5,g6,g7,g8⟩:=cells9 HW.out.h;go_wp2_with (first | ((with_reducible refine aa (o:=⟨some 8,_,_,_,_,_⟩) ?_ 23 (.tmp 2) ?_ H0 (0) ?_ c.cells #[.int .i64 c.q,.int .i64 c.d,.int .i64 c.w,.int .i64 c.ttl,.int .i64 c.b] ?_ _ (bA HW.out.g) Tryz.underlying23 ?_ ?_ ?_);rfl;rfl;rfl;rfl;rfl;exact aE))
 have HIW:=yA (HIN.out.keep HW.out.below);refine (sY W c v.x.tick v.wo v.ko v.wn v.kn v.wc v.kc v.x.ws v.x.ds HIW.out.ok.tick HIW.out.wl HIW.out.kl HIW.out.wr HIW.out.kr HIW.out.ok.ws HIW.out.ok.ds wb kb).mono ?_;intro e w1 hpost;rcases hpost with ⟨hne,rfl,hb⟩ | ⟨hz,ev,rfl,hg⟩
 · have HR1:=yA (HW.out.keep hb)
   have HF:=yA (iZ (qz hne));clear hb HIW g0 g1 g2 g3 g4 g5 g6 g7 g8 HW;obtain ⟨g0,g1,g2,g3,g4,g5,g6,g7,g8⟩:=cells9 HR1.out.h;generalize bO c v.x.tick v.x.ws v.x.ds=E at *;have e1:(E != 0)=true:=by simp [hne]
   have e2:(E==0)=false:=by simp [hne]
   clear hne;go_wp2_with fail
   go_ret
   exact ⟨by rw [HF.out];rfl,(HR1.out.one _).below⟩
 · have HR1:=yA (HW.out.keep hg.below)
   obtain ⟨eo,ec,rfl,her⟩:=hg.shape;have HER:=yA her;have HZ:=yA hz;clear hg HIW g0 g1 g2 g3 g4 g5 g6 g7 g8 HW her hz;obtain ⟨g0,g1,g2,g3,g4,g5,g6,g7,g8⟩:=cells9 HR1.out.h;rw [HIN.out.wl,HIN.out.kl];have HLE:=yA (m9 (c:=c) (now:=v.x.tick) HIN.out.wl HIN.out.kl wb kb);have HR2:=yA (HR1.out.one (.cells #[.int .i64 v.wn,.int .i64 v.kn,.slice eo (bj c v.x.tick v.x.ws v.x.ds).length ec] 28));have HER2:=yA (HER.out.below ((Below.refl w1.heap.size w1).alloc (Nat.le_refl _) (.cells #[.int .i64 v.wn,.int .i64 v.kn,.slice eo (bj c v.x.tick v.x.ws v.x.ds).length ec] 28)));have HBOX:=yA (heap_alloc_new w1 (.cells #[.int .i64 v.wn,.int .i64 v.kn,.slice eo (bj c v.x.tick v.x.ws v.x.ds).length ec] 28));go_upto_region 2 with fail
   generalize w1.alloc (.cells #[.int .i64 v.wn,.int .i64 v.kn,.slice eo (bj c v.x.tick v.x.ws v.x.ds).length ec] 28)=W2 at *;generalize w1.heap.size=H5 at *;clear HR1 HER g0 g1 g2 g3 g4 g5 g6 g7 g8;obtain ⟨g0,g1,g2,g3,g4,g5,g6,g7,g8⟩:=cells9 HR2.out.h;obtain ⟨r0,r1,r2,rf⟩:=cells3 HBOX.out;by_cases h1:(v.wn:Int)=v.x.rows
   · by_cases h2:(v.kn:Int)=v.x.cols
     · have e1:((v.wn:Int) != v.x.rows)=false:=by simp [h1]
       have e2:((v.kn:Int) != v.x.cols)=false:=by simp [h2]
       have HY:=yA (fun h=>r8 (wd (c:=c) HZ.out HIN.out.wl HIN.out.kl h1 h2 h));have HN:=yA (fun h=>iZ (v9 (c:=c) (x:=v.x) h));clear h1 h2;go_wp2_with fail
       have HIW:=yA (HIN.out.keep HR2.out.below);refine (vg W2 eo v.eo (bj c v.x.tick v.x.ws v.x.ds).length ec v.en v.ec (bj c v.x.tick v.x.ws v.x.ds) v.x.es rfl HER2.out (by have:=HLE.out;omega) HIW.out.el HIW.out.er (by omega)).mono ?_;rintro e w2 ⟨rfl,hb2⟩;have HR3:=yA (HR2.out.keep hb2);clear hb2 HIW HER2;cases hs:iQ (bj c v.x.tick v.x.ws v.x.ds) v.x.es with
       | true=>
         have HF:=yA (HY.out hs);clear HY HN;go_wp2_with fail
         go_ret
         exact ⟨by rw [HF.out];rfl,HR3.out.below⟩
       | false=>
         have HF:=yA (HN.out hs);clear HY HN;go_wp2_with fail
         go_ret
         exact ⟨by rw [HF.out];rfl,HR3.out.below⟩
     · have e1:((v.wn:Int) != v.x.rows)=false:=by simp [h1]
       have e2:((v.kn:Int) != v.x.cols)=true:=by simp [h2]
       have HF:=yA (iZ (vZ (c:=c) HIN.out.kl h2));clear h1 h2;go_wp2_with fail
       go_ret
       exact ⟨by rw [HF.out];rfl,HR2.out.below⟩
   · have e1:((v.wn:Int) != v.x.rows)=true:=by simp [h1]
     have HF:=yA (iZ (vY (c:=c) HIN.out.wl h1));clear h1;go_wp2_with fail
     go_ret
     exact ⟨by rw [HF.out];rfl,HR2.out.below⟩
theorem fR (c:ae):(al c=0∧aB c=true)∨(al c=160∧aB c=false):=by
 unfold al;cases h:aB c
 · exact .inr ⟨rfl,rfl⟩
 · exact .inl ⟨rfl,rfl⟩
theorem we {c:ae} {x:aF} (h:al c=160):aO c x=160:=by unfold aO;rw [h];rfl
theorem wg {c:ae} {x:aF} (h1:al c=0) (h:bR c x.tick=false):aO c x=262:=by unfold aO;rw [h1,h];rfl
theorem wh {c:ae} {x:aF} (h1:al c=0) (h2:bR c x.tick=true) (h:bw x≠0):aO c x=bw x:=by unfold aO;rw [h1,h2];simp [h]
theorem wj {c:ae} {x:aF} (h1:al c=0) (h2:bR c x.tick=true) (h3:bw x=0) (h:bZ c x=false):aO c x=1:=by unfold aO;rw [h1,h2,h3,h];rfl
theorem qA {c:ae} {x:aF} (h1:al c=0) (h2:bR c x.tick=true) (h3:bw x=0) (h4:bZ c x=true) (h:cM c x=false):aO c x=260:=by unfold aO;rw [h1,h2,h3,h4,h];rfl
theorem wk {c:ae} {x:aF} (h1:al c=0) (h2:bR c x.tick=true) (h3:bw x=0) (h4:bZ c x=true) (h:cM c x=true):aO c x=fN x.rows x.cols x.es x.ps x.ys x.zs:=by unfold aO;rw [h1,h2,h3,h4,h];rfl
theorem wq {c:ae} {x:aF} {n m:Nat} (h0:bO c x.tick x.ws x.ds=0) (hn:x.ws.length=n) (hm:x.ds.length=m):cM c x=ii n m (bj c x.tick x.ws x.ds) x.rows x.cols x.es:=by
 subst hn;subst hm;unfold cM ii iQ;simp [h0,eq_comm]
theorem r9 (w:World) (c:ae) (v:RV) (hin:v.In w):Calls Tryz.prog 14 #[.agg #[.int .i64 c.q,.int .i64 c.d,.int .i64 c.w,.int .i64 c.ttl,.int .i64 c.b],.agg #[.int .i64 v.x.tick,.slice v.wo v.wn v.wc,.slice v.ko v.kn v.kc,.int .i64 v.x.rows,.int .i64 v.x.cols,.slice v.eo v.en v.ec,.slice v.po v.pn v.pc,.slice v.yo v.yn v.yc,.slice v.zo v.zn v.zc]] w fun e w'=>e = .returned (.int .i64 (aO c v.x))∧Below w.heap.size w w':=by
 have HIN:=yA hin;have wb:=hin.wb;have kb:=hin.kb;have eb:=hin.eb;have pb:=hin.pb;have yb:=hin.yb;have zb:=hin.zb;clear hin;have HW:=yA (cm.begin w c v);go_enter Tryz.func14,Tryz.ntmps14
 go_upto_region 1 with fail
 generalize (w.alloc (.cells #[.int .i64 c.q,.int .i64 c.d,.int .i64 c.w,.int .i64 c.ttl,.int .i64 c.b] 23)).alloc (.cells #[.int .i64 v.x.tick,.slice v.wo v.wn v.wc,.slice v.ko v.kn v.kc,.int .i64 v.x.rows,.int .i64 v.x.cols,.slice v.eo v.en v.ec,.slice v.po v.pn v.pc,.slice v.yo v.yn v.yc,.slice v.zo v.zn v.zc] 34)=W at *;generalize w.heap.size+1=H1 at *;have HHE:=yA (show ∃ H0,w.heap.size=H0 from ⟨_,rfl⟩);obtain ⟨H0,hH0⟩:=HHE.out;rw [hH0] at HW;rw [hH0];have HH:=yA hH0;clear hH0 HHE;go_wp2_with (first | ((with_reducible refine aa (o:=⟨some 7,_,_,_,_,_⟩) ?_ 23 (.tmp 2) ?_ H0 (0) ?_ c.cells #[.int .i64 c.q,.int .i64 c.d,.int .i64 c.w,.int .i64 c.ttl,.int .i64 c.b] ?_ _ (bA HW.out.g) Tryz.underlying23 ?_ ?_ ?_);rfl;rfl;rfl;rfl;rfl;exact aE))
 refine (eM W c).mono ?_;rintro e w1 ⟨rfl,hb1⟩;have HR1:=yA (HW.out.keep hb1);clear hb1 HW;rcases fR c with ⟨q1,q2⟩ | ⟨q1,q2⟩
 case inr=>
  have HF:=yA (we (x:=v.x) q1);rw [q1];clear q1 q2;go_wp2_with fail
  go_ret
  exact ⟨by rw [HF.out];rfl,HR1.out.below⟩
 have HQ:=yA q1;have HQF:=yA q2;rw [q1];clear q1 q2;obtain ⟨g0,g1,g2,g3,g4,g5,g6,g7,g8⟩:=cells9 HR1.out.h;go_wp2_with (first | ((with_reducible refine aa (o:=⟨some 12,_,_,_,_,_⟩) ?_ 23 (.tmp 2) ?_ H0 (0) ?_ c.cells #[.int .i64 c.q,.int .i64 c.d,.int .i64 c.w,.int .i64 c.ttl,.int .i64 c.b] ?_ _ (bA HR1.out.g) Tryz.underlying23 ?_ ?_ ?_);rfl;rfl;rfl;rfl;rfl;exact aE))
 refine (rx w1 c v.x.tick HQF.out).mono ?_;rintro e w2 ⟨rfl,hb2⟩;have HR2:=yA (HR1.out.keep hb2);clear hb2 HR1 g0 g1 g2 g3 g4 g5 g6 g7 g8;cases hcl:bR c v.x.tick with
 | false=>
   have HF:=yA (wg HQ.out hcl);clear hcl;go_wp2_with fail
   go_ret
   exact ⟨by rw [HF.out];rfl,HR2.out.below⟩
 | true=>
 have HC:=yA hcl;clear hcl;obtain ⟨g0,g1,g2,g3,g4,g5,g6,g7,g8⟩:=cells9 HR2.out.h;go_wp2_with fail
 refine (wW w2 v (HIN.out.keep HR2.out.below)).mono ?_;rintro e w3 ⟨rfl,hb3⟩;have HR3:=yA (HR2.out.keep hb3);clear hb3 HR2 g0 g1 g2 g3 g4 g5 g6 g7 g8;obtain ⟨E,hE⟩:∃ E,bw v.x=E:=⟨_,rfl⟩;rw [hE];have HEE:=yA hE;clear hE;by_cases h0:E=0
 case neg=>
  have HF:=yA (wh HQ.out HC.out (by rw [HEE.out];exact h0));have e1:(E != 0)=true:=by simp [h0]
  have e2:(E==0)=false:=by simp [h0]
  clear h0;go_wp2_with fail
  go_ret
  exact ⟨by rw [HF.out,HEE.out];rfl,HR3.out.below⟩
 subst h0;obtain ⟨g0,g1,g2,g3,g4,g5,g6,g7,g8⟩:=cells9 HR3.out.h;go_wp2_with (first | ((with_reducible refine aa (o:=⟨some 22,_,_,_,_,_⟩) ?_ 23 (.tmp 2) ?_ H0 (0) ?_ c.cells #[.int .i64 c.q,.int .i64 c.d,.int .i64 c.w,.int .i64 c.ttl,.int .i64 c.b] ?_ _ (bA HR3.out.g) Tryz.underlying23 ?_ ?_ ?_);rfl;rfl;rfl;rfl;rfl;exact aE))
 refine (sq w3 c v (HIN.out.keep HR3.out.below) HEE.out).mono ?_;rintro e w4 ⟨rfl,hb4⟩;have HR4:=yA (HR3.out.keep hb4);clear hb4 HR3 g0 g1 g2 g3 g4 g5 g6 g7 g8;cases hls:bZ c v.x with
 | false=>
   have HF:=yA (wj HQ.out HC.out HEE.out hls);clear hls;go_wp2_with fail
   go_ret
   exact ⟨by rw [HF.out];rfl,HR4.out.below⟩
 | true=>
 have HL:=yA hls;clear hls;obtain ⟨g0,g1,g2,g3,g4,g5,g6,g7,g8⟩:=cells9 HR4.out.h;have HIW:=yA (HIN.out.keep HR4.out.below);go_wp2_with (first | ((with_reducible refine aa (o:=⟨some 27,_,_,_,_,_⟩) ?_ 23 (.tmp 2) ?_ H0 (0) ?_ c.cells #[.int .i64 c.q,.int .i64 c.d,.int .i64 c.w,.int .i64 c.ttl,.int .i64 c.b] ?_ _ (bA HR4.out.g) Tryz.underlying23 ?_ ?_ ?_);rfl;rfl;rfl;rfl;rfl;exact aE))
 as_aux_lemma=>
  refine (sm w4 c v.x.tick v.wo v.ko v.wn v.kn v.wc v.kc v.x.ws v.x.ds HIW.out.ok.tick HIW.out.wl HIW.out.kl HIW.out.wr HIW.out.kr HIW.out.ok.ws HIW.out.ok.ds wb kb).mono ?_;intro e w5 hpost;rcases hpost with ⟨hne,rfl,hb⟩ | ⟨hz,ev,rfl,hg⟩
  · have HR5:=yA (HR4.out.keep hb)
    have HF:=yA (qA HQ.out HC.out HEE.out HL.out (qz hne));clear hb HIW g0 g1 g2 g3 g4 g5 g6 g7 g8 HR4;generalize bO c v.x.tick v.x.ws v.x.ds=E at *;have e1:(E != 0)=true:=by simp [hne]
    have e2:(E==0)=false:=by simp [hne]
    clear hne;go_wp2_with fail
    go_ret
    exact ⟨by rw [HF.out];rfl,(HR5.out.one _).below⟩
  · have HR5:=yA (HR4.out.keep hg.below)
    obtain ⟨eo,ec,rfl,her⟩:=hg.shape;have HZ:=yA hz;have HER2:=yA (her.below ((Below.refl w5.heap.size w5).alloc (Nat.le_refl _) (.cells #[.int .i64 v.x.ws.length,.int .i64 v.x.ds.length,.slice eo (bj c v.x.tick v.x.ws v.x.ds).length ec] 28)));have HR6:=yA (HR5.out.one (.cells #[.int .i64 v.x.ws.length,.int .i64 v.x.ds.length,.slice eo (bj c v.x.tick v.x.ws v.x.ds).length ec] 28));have HBOX:=yA (heap_alloc_new w5 (.cells #[.int .i64 v.x.ws.length,.int .i64 v.x.ds.length,.slice eo (bj c v.x.tick v.x.ws v.x.ds).length ec] 28));clear hg HIW g0 g1 g2 g3 g4 g5 g6 g7 g8 her hz HR4;rw [HIN.out.wl,HIN.out.kl] at *;have HLE:=yA (m9 (c:=c) (now:=v.x.tick) HIN.out.wl HIN.out.kl wb kb);go_upto_region 12 with fail
    generalize w5.alloc (.cells #[.int .i64 v.wn,.int .i64 v.kn,.slice eo (bj c v.x.tick v.x.ws v.x.ds).length ec] 28)=W6 at *;generalize w5.heap.size=H6 at *;clear HR5;obtain ⟨g0,g1,g2,g3,g4,g5,g6,g7,g8⟩:=cells9 HR6.out.h;obtain ⟨r0,r1,r2,rf⟩:=cells3 HBOX.out;have HIW:=yA (HIN.out.keep HR6.out.below);go_wp2_with fail
    refine (xx W6 v.wn v.kn v.x.rows v.x.cols eo v.eo (bj c v.x.tick v.x.ws v.x.ds).length ec v.en v.ec (bj c v.x.tick v.x.ws v.x.ds) v.x.es rfl HER2.out (by have:=HLE.out;omega) HIW.out.el HIW.out.er (by omega)).mono ?_;rintro e w7 ⟨rfl,hb7⟩;have HR7:=yA (HR6.out.keep hb7);have HGB:=yA (wq HZ.out HIN.out.wl HIN.out.kl);clear hb7 HIW HER2 HR6 HBOX r0 r1 r2 rf g0 g1 g2 g3 g4 g5 g6 g7 g8;cases hs:ii v.wn v.kn (bj c v.x.tick v.x.ws v.x.ds) v.x.rows v.x.cols v.x.es with
    | false=>
      have HF:=yA (qA HQ.out HC.out HEE.out HL.out (by rw [HGB.out,hs]));clear hs;go_wp2_with fail
      go_ret
      exact ⟨by rw [HF.out];rfl,HR7.out.below⟩
    | true=>
      have HF:=yA (wk HQ.out HC.out HEE.out HL.out (by rw [HGB.out,hs]));clear hs;obtain ⟨g0,g1,g2,g3,g4,g5,g6,g7,g8⟩:=cells9 HR7.out.h;have HIW:=yA (HIN.out.keep HR7.out.below);go_wp2_with fail
      refine (nh w7 v.x.rows v.x.cols v.eo v.po v.yo v.zo v.en v.ec v.pn v.pc v.yn v.yc v.zn v.zc v.x.es v.x.ps v.x.ys v.x.zs HIW.out.el HIW.out.er (by omega) HIW.out.pl HIW.out.pr pb (by omega) (by omega) HIW.out.yl HIW.out.yr HIW.out.zl HIW.out.zr HIW.out.ok.ys).mono ?_;rintro e w8 ⟨rfl,hb8⟩;have HR8:=yA (HR7.out.keep hb8);clear hb8 HR7 HIW g0 g1 g2 g3 g4 g5 g6 g7 g8;go_wp2_with fail
      go_ret
      exact ⟨by rw [HF.out];rfl,HR8.out.below⟩
end Go.Proofs.YtcaicgipibcicaaGreat
