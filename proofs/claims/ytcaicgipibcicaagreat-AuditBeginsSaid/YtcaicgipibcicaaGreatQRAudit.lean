/- Is a record's graph that of its requests and drivers? audit.graft; and chapter 26's Record. -/
import Derived.Test.YtcaicgipibcicaaGreatQALists
import Derived.Test.YtcaicgipibcicaaGreatQSumA
import Derived.Test.YtcaicgipibcicaaGreatQRecCk2
import Derived.Test.YtcaicgipibcicaaGreatQHeldTail
set_option maxRecDepth 100000
set_option maxHeartbeats 8000000
set_option linter.unusedSimpArgs false
set_option linter.unusedVariables false
open Go.Lib renaming hid→wB
namespace Go.Proofs.YtcaicgipibcicaaGreat
open Go.RowKit Go.Sort
def gH (c:ag) (x:aw):Int:=if cS c x then 0 else 260
theorem uw {c:ag} {x:aw} (h:bA c x.tick x.ws x.ds≠0):cS c x=false:=by simp [cS,h]
theorem ux {c:ag} {x:aw} {n:Nat} (hn:x.ws.length=n) (h:(n:Int)≠x.rows):cS c x=false:=by subst hn;simp [cS,Ne.symm h]
theorem uy {c:ag} {x:aw} {m:Nat} (hm:x.ds.length=m) (h:(m:Int)≠x.cols):cS c x=false:=by subst hm;simp [cS,Ne.symm h]
theorem uz {c:ag} {x:aw} (h:l9 (bH c x.tick x.ws x.ds) x.es=false):cS c x=false:=by unfold cS;rw [show decide (bH c x.tick x.ws x.ds=x.es)=false from h];simp
theorem uA {c:ag} {x:aw} {n m:Nat} (h0:bA c x.tick x.ws x.ds=0) (hn:x.ws.length=n) (hm:x.ds.length=m) (h1:(n:Int)=x.rows) (h2:(m:Int)=x.cols) (h:l9 (bH c x.tick x.ws x.ds) x.es=true):cS c x=true:=by
 subst hn;subst hm;unfold cS;rw [show decide (bH c x.tick x.ws x.ds=x.es)=true from h];simp [h0,h1,h2]
theorem gX {c:ag} {x:aw} (h:cS c x=false):gH c x=260:=by unfold gH;rw [h];rfl
theorem qG {c:ag} {x:aw} (h:cS c x=true):gH c x=0:=by unfold gH;rw [h];rfl
theorem qH {c:ag} {now:Int} {ws:List aa} {ds:List ak} {n m:Nat} (hn:ws.length=n) (hm:ds.length=m) (h1:n≤1048576) (h2:m≤1048576):(bH c now ws ds).length≤1099511627776:=by
 rw [bH,List.length_map];have k1:=ls ws ds;have k2:ws.length*ds.length≤1048576*1048576:=Nat.mul_le_mul (by omega) (by omega);omega
theorem sO (w:World) (c:ag) (v:RV) (hin:v.In w):Calls Tryz.prog 49 #[.agg #[.int .i64 c.q,.int .i64 c.d,.int .i64 c.w,.int .i64 c.ttl,.int .i64 c.b],.agg #[.int .i64 v.x.tick,.slice v.wo v.wn v.wc,.slice v.ko v.kn v.kc,.int .i64 v.x.rows,.int .i64 v.x.cols,.slice v.eo v.en v.ec,.slice v.po v.pn v.pc,.slice v.yo v.yn v.yc,.slice v.zo v.zn v.zc]] w fun e w'=>e = .returned (.int .i64 (gH c v.x))∧Below w.heap.size w w':=by
 have HIN:=wB hin;have wb:=hin.wb;have kb:=hin.kb;have eb:=hin.eb;clear hin;have HW:=wB (cu.begin w c v);go_enter Tryz.func49,Tryz.ntmps49
 go_upto_region 1 with fail
 generalize (w.alloc (.cells #[.int .i64 c.q,.int .i64 c.d,.int .i64 c.w,.int .i64 c.ttl,.int .i64 c.b] 23)).alloc (.cells #[.int .i64 v.x.tick,.slice v.wo v.wn v.wc,.slice v.ko v.kn v.kc,.int .i64 v.x.rows,.int .i64 v.x.cols,.slice v.eo v.en v.ec,.slice v.po v.pn v.pc,.slice v.yo v.yn v.yc,.slice v.zo v.zn v.zc] 34)=W at *;generalize w.heap.size+1=H1 at *;have HHE:=wB (show ∃ H0,w.heap.size=H0 from ⟨_,rfl⟩);obtain ⟨H0,hH0⟩:=HHE.out;rw [hH0] at HW;rw [hH0];have HH:=wB hH0;clear hH0 HHE;obtain ⟨g0,g1,g2,g3,g4,g5,g6,g7,g8⟩:=cells9 HW.out.h;go_wp2_with (first | ((with_reducible refine ad (o:=⟨some 8,_,_,_,_,_⟩) ?_ 23 (.tmp 2) ?_ H0 (0) ?_ c.cells #[.int .i64 c.q,.int .i64 c.d,.int .i64 c.w,.int .i64 c.ttl,.int .i64 c.b] ?_ _ (cq HW.out.g) Tryz.underlying23 ?_ ?_ ?_);rfl;rfl;rfl;rfl;rfl;exact cg))
 have HIW:=wB (HIN.out.keep HW.out.below);refine (ro W c v.x.tick v.wo v.ko v.wn v.kn v.wc v.kc v.x.ws v.x.ds HIW.out.ok.tick HIW.out.wl HIW.out.kl HIW.out.wr HIW.out.kr HIW.out.ok.ws HIW.out.ok.ds wb kb).mono ?_;intro e w1 hpost;rcases hpost with ⟨hne,rfl,hb⟩ | ⟨hz,ev,rfl,hg⟩
 · have HR1:=wB (HW.out.keep hb)
   have HF:=wB (gX (uw hne));clear hb HIW g0 g1 g2 g3 g4 g5 g6 g7 g8 HW;obtain ⟨g0,g1,g2,g3,g4,g5,g6,g7,g8⟩:=cells9 HR1.out.h;generalize bA c v.x.tick v.x.ws v.x.ds=E at *;have e1:(E != 0)=true:=by simp [hne]
   have e2:(E==0)=false:=by simp [hne]
   clear hne;go_wp2_with fail
   go_ret
   exact ⟨by rw [HF.out];rfl,(HR1.out.one _).below⟩
 · have HR1:=wB (HW.out.keep hg.below)
   obtain ⟨eo,ec,rfl,her⟩:=hg.shape;have HER:=wB her;have HZ:=wB hz;clear hg HIW g0 g1 g2 g3 g4 g5 g6 g7 g8 HW her hz;obtain ⟨g0,g1,g2,g3,g4,g5,g6,g7,g8⟩:=cells9 HR1.out.h;rw [HIN.out.wl,HIN.out.kl];have HLE:=wB (qH (c:=c) (now:=v.x.tick) HIN.out.wl HIN.out.kl wb kb);have HR2:=wB (HR1.out.one (.cells #[.int .i64 v.wn,.int .i64 v.kn,.slice eo (bH c v.x.tick v.x.ws v.x.ds).length ec] 28));have HER2:=wB (HER.out.below ((Below.refl w1.heap.size w1).alloc (Nat.le_refl _) (.cells #[.int .i64 v.wn,.int .i64 v.kn,.slice eo (bH c v.x.tick v.x.ws v.x.ds).length ec] 28)));have HBOX:=wB (heap_alloc_new w1 (.cells #[.int .i64 v.wn,.int .i64 v.kn,.slice eo (bH c v.x.tick v.x.ws v.x.ds).length ec] 28));go_upto_region 2 with fail
   generalize w1.alloc (.cells #[.int .i64 v.wn,.int .i64 v.kn,.slice eo (bH c v.x.tick v.x.ws v.x.ds).length ec] 28)=W2 at *;generalize w1.heap.size=H5 at *;clear HR1 HER g0 g1 g2 g3 g4 g5 g6 g7 g8;obtain ⟨g0,g1,g2,g3,g4,g5,g6,g7,g8⟩:=cells9 HR2.out.h;obtain ⟨r0,r1,r2,rf⟩:=cells3 HBOX.out;by_cases h1:(v.wn:Int)=v.x.rows
   · by_cases h2:(v.kn:Int)=v.x.cols
     · have e1:((v.wn:Int) != v.x.rows)=false:=by simp [h1]
       have e2:((v.kn:Int) != v.x.cols)=false:=by simp [h2]
       have HY:=wB (fun h=>qG (uA (c:=c) HZ.out HIN.out.wl HIN.out.kl h1 h2 h));have HN:=wB (fun h=>gX (uz (c:=c) (x:=v.x) h));clear h1 h2;go_wp2_with fail
       have HIW:=wB (HIN.out.keep HR2.out.below);refine (tf W2 eo v.eo (bH c v.x.tick v.x.ws v.x.ds).length ec v.en v.ec (bH c v.x.tick v.x.ws v.x.ds) v.x.es rfl HER2.out (by have:=HLE.out;omega) HIW.out.el HIW.out.er (by omega)).mono ?_;rintro e w2 ⟨rfl,hb2⟩;have HR3:=wB (HR2.out.keep hb2);clear hb2 HIW HER2;cases hs:l9 (bH c v.x.tick v.x.ws v.x.ds) v.x.es with
       | true=>
         have HF:=wB (HY.out hs);clear HY HN;go_wp2_with fail
         go_ret
         exact ⟨by rw [HF.out];rfl,HR3.out.below⟩
       | false=>
         have HF:=wB (HN.out hs);clear HY HN;go_wp2_with fail
         go_ret
         exact ⟨by rw [HF.out];rfl,HR3.out.below⟩
     · have e1:((v.wn:Int) != v.x.rows)=false:=by simp [h1]
       have e2:((v.kn:Int) != v.x.cols)=true:=by simp [h2]
       have HF:=wB (gX (uy (c:=c) HIN.out.kl h2));clear h1 h2;go_wp2_with fail
       go_ret
       exact ⟨by rw [HF.out];rfl,HR2.out.below⟩
   · have e1:((v.wn:Int) != v.x.rows)=true:=by simp [h1]
     have HF:=wB (gX (ux (c:=c) HIN.out.wl h1));clear h1;go_wp2_with fail
     go_ret
     exact ⟨by rw [HF.out];rfl,HR2.out.below⟩
theorem iK (c:ag):(aA c=0∧aG c=true)∨(aA c=160∧aG c=false):=by
 unfold aA;cases h:aG c
 · exact .inr ⟨rfl,rfl⟩
 · exact .inl ⟨rfl,rfl⟩
end Go.Proofs.YtcaicgipibcicaaGreat
