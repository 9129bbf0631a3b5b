/- The journal: a record is written. Printed by wip/genrecw.py. -/
import Derived.Test.YtcaicgipibcicaaGreatQSumA
import Derived.Test.YtcaicgipibcicaaGreatQMapK
import Derived.BigRegion
import Derived.Test.YtcaicgipibcicaaGreatQRecCk2
import Derived.Laws.CopyRow
set_option maxRecDepth 100000
set_option maxHeartbeats 16000000
set_option linter.unusedSimpArgs false
set_option linter.unusedVariables false
open Go renaming heap_alloc_new→wF,lt_of_block→wJ
open Go.Lib renaming hid→wB
open List renaming getElem?_eq_getElem→wE,getElem?_eq_some_iff→wD,length_append→wH,length_nil→xh,nil_append→xA
namespace Go.Proofs.YtcaicgipibcicaaGreat
open Go.RowKit Go.Sort
def bu (x:aw):List Int:=aO x.tick.toNat++bj cK x.ws++bj idleB x.ds++bj dE x.es++bj dK x.ps++x.ys.flatMap cY++x.zs.flatMap cY
theorem tT {x:aw} (h:bh x=0):∀ y ∈ x.ws,0≤y.since∧0≤y.number:=by
 obtain ⟨_,h2,_⟩:=bN h
 have hk:∀ (k:Nat) (y:aa),x.ws[k]?=some y→0≤y.since∧0≤y.number:=by
  intro k
  induction k with
  | zero=>
    intro y hy;have h3:=dU h2 (wD.1 hy).1;rw [eD hy] at h3;have h4:=of_decide_eq_true h3;have h5:km x.ws 0=-1:=rfl;omega
  | succ k ih=>
    intro y hy;have h3:=dU h2 (wD.1 hy).1;rw [eD hy] at h3;have h4:=of_decide_eq_true h3;obtain ⟨z,hz⟩:∃ z,x.ws[k]?=some z:=⟨x.ws[k]'(by have:=(wD.1 hy).1;omega),wE _⟩;rw [lz hz] at h4;have:=ih z hz;omega
 intro y hy;obtain ⟨k,hk1⟩:=List.mem_iff_getElem?.1 hy;exact hk k y hk1
theorem tU {x:aw} (h:bh x=0):∀ y ∈ x.ds,0≤y.number:=by
 obtain ⟨_,_,h2,_⟩:=bN h
 have hk:∀ (k:Nat) (y:ak),x.ds[k]?=some y→0≤y.number:=by
  intro k
  induction k with
  | zero=>
    intro y hy;have h3:=dU h2 (wD.1 hy).1;rw [gU hy] at h3;have h4:=of_decide_eq_true h3;have h5:kp x.ds 0=-1:=rfl;omega
  | succ k ih=>
    intro y hy;have h3:=dU h2 (wD.1 hy).1;rw [gU hy] at h3;have h4:=of_decide_eq_true h3;obtain ⟨z,hz⟩:∃ z,x.ds[k]?=some z:=⟨x.ds[k]'(by have:=(wD.1 hy).1;omega),wE _⟩;rw [lA hz] at h4;have:=ih z hz;omega
 intro y hy;obtain ⟨k,hk1⟩:=List.mem_iff_getElem?.1 hy;exact hk k y hk1
theorem gz {x:aw} (h:bh x=0):aT x.rows x.cols x.es=true∧x.rows=x.ws.length∧x.cols=x.ds.length:=by
 obtain ⟨_,_,_,h3,_⟩:=bN h;unfold eM at h3
 simpa [and_assoc] using h3
theorem tV {x:aw} (h:bh x=0):∀ y ∈ x.es,0≤y.r∧0≤y.c∧0≤y.w:=by
 intro y hy;obtain ⟨k,hk⟩:=List.mem_iff_getElem?.1 hy;have:=gT (gz h).1 hk;omega
theorem tW {x:aw} (h:bh x=0):∀ y ∈ x.ps,0≤y.r∧0≤y.c:=by
 intro y hy;obtain ⟨k,hk⟩:=List.mem_iff_getElem?.1 hy;obtain ⟨_,_,_,_,h5,_⟩:=bN h;have h6:=jA h5 hk;rcases eJ (gz h).1 y.r y.c with ⟨h7,_⟩ | h7
 · exact absurd h7 h6.2.1
 · omega
theorem vH {x:aw} (h:bh x=0):(x.ys.length:Int)=x.rows∧(x.zs.length:Int)=x.cols:=by
 obtain ⟨_,_,_,_,_,h6⟩:=bN h;unfold bX at h6
 simpa using h6
theorem mE (wS w:World) (GB WB:Nat) (sv:Value) (l:List Int) (h:Gt wS GB WB sv l w) (RB off:Nat) (ao:Option Addr) (n c:Nat) (hs:w.cell? ⟨RB,off,none⟩=some (.slice ao n c)) (hfr:Free sv WB RB) (xs:List Int) (hx:xs.length=n) (hr:RdC wS ao (cellsOf bL xs))
 (hok:∀ x ∈ xs,ar x) (hn:n≤1048576) (hl:l.length≤700000000) (m:Int) (hm:(n:Int)=m) :
 Calls Tryz.prog 171 #[.pointer (some ⟨GB,0,none⟩),.pointer (some ⟨RB,off,none⟩),.int .i64 m] w fun e w'=>e = .returned (.tuple #[])∧am wS GB WB sv (l++xs.flatMap cY) w w':=by
 subst hm;exact vl wS w GB WB sv l h RB off ao n c hs hfr xs hx hr hok hn hl
theorem Gt.keepX {wS:World} {GB WB:Nat} {sv:Value} {l:List Int} {w w':World} (h:Gt wS GB WB sv l w) {RB:Nat} (hk:Keep (fun k=>k=RB) w w') (h1:GB≠RB) (h2:Free sv WB RB) (h3:wS.heap.size≤RB):Gt wS GB WB sv l w':=
 ⟨hk.old h.gate h1,h.w1.keep hk (fun he=>h2.1 he.symm) (fun g hg he=>h2.2 (by rw [hg,he])),h.gw,h.gs,h.below.trans (hk.below h.below.size (fun i hi he=>by omega)),h.wb,h.sb⟩
theorem sw {w:World} {RB:Nat} {v:RV} (h:w.heap[RB]?=some (.cells #[.int .i64 v.x.tick,.slice v.wo v.wn v.wc,.slice v.ko v.kn v.kc,.int .i64 v.x.rows,.int .i64 v.x.cols,.slice v.eo v.en v.ec,.slice v.po v.pn v.pc,.slice v.yo v.yn v.yc,.slice v.zo v.zn v.zc] 34 (0,0))) (h1:v.x.rows=v.wn) (h2:v.x.cols=v.kn) :
 ((w.setCell ⟨RB,3,none⟩ (.int .i64 v.wn)).setCell ⟨RB,4,none⟩ (.int .i64 v.kn)).heap[RB]?=some (.cells #[.int .i64 v.x.tick,.slice v.wo v.wn v.wc,.slice v.ko v.kn v.kc,.int .i64 v.x.rows,.int .i64 v.x.cols,.slice v.eo v.en v.ec,.slice v.po v.pn v.pc,.slice v.yo v.yn v.yc,.slice v.zo v.zn v.zc] 34 (0,0)):=by
 have:=ae (ae h 3 (.int .i64 v.wn)) 4 (.int .i64 v.kn);rw [this,←h1,←h2];rfl
theorem qk (wS w:World) (GB WB:Nat) (sv:Value) (v:RV) (h:Gt wS GB WB sv [] w) (hin:v.In wS) (hrec:bh v.x=0) (RB:Nat) (hrb:w.heap[RB]?=some (.cells #[.int .i64 v.x.tick,.slice v.wo v.wn v.wc,.slice v.ko v.kn v.kc,.int .i64 v.x.rows,.int .i64 v.x.cols,.slice v.eo v.en v.ec,.slice v.po v.pn v.pc,.slice v.yo v.yn v.yc,.slice v.zo v.zn v.zc] 34 (0,0))) (hfr:Free sv WB RB) (hgr:GB≠RB) (hsr:wS.heap.size≤RB) :
 Calls Tryz.prog 126 #[.pointer (some ⟨GB,0,none⟩),.pointer (some ⟨RB,0,none⟩)] w fun e w'=>e = .returned (.tuple #[])∧∃ sv',Gt wS GB WB sv' (bu v.x) w':=by
 have hmf:∀ (fn:Fn) (first cap:Array Value) (w:World),(Instr.makeFunc fn first cap).run Tryz.prog w = .ok (.func fn first cap) w:=fun _ _ _ _=>rfl
 have HMF:=wB hmf;have HIN:=wB hin;have HFR:=wB hfr;have HRB:=wB hrb;have HW1:=wB (tT hrec);have HD1:=wB (tU hrec);have HE1:=wB (tV hrec);have HP1:=wB (tW hrec);obtain ⟨sh1,sh2,sh3⟩:=gz hrec;obtain ⟨le1,le2⟩:=vH hrec;obtain ⟨sz1,sz2⟩:=jD hrec;obtain ⟨hh1,hh2,hh3,hh4⟩:=fO sh1;rw [hin.wl] at sh2 sz1;rw [hin.kl] at sh3 sz2;rw [hin.yl] at le1;rw [hin.zl] at le2;have eb:=hin.eb;have pb:=hin.pb
 have hti:1≤v.x.tick:=by
  obtain ⟨h1,_⟩:=bN hrec;have h5:1≤v.x.tick∧v.x.tick≤1099511627776∧v.x.ws.length≤64∧v.x.ds.length≤64:=of_decide_eq_true h1;omega
 have L1:=wB (br hin.ok.tick);have L2:=wB (dk (f:=cK) (fun y hy=>jP (hin.ok.ws y hy)) hin.wl (by omega));have L3:=wB (dk (f:=idleB) (fun y hy=>jQ (hin.ok.ds y hy)) hin.kl (by omega));have L4:=wB (dk (f:=dE) (fun y hy=>jR (hin.ok.es y hy)) hin.el eb);have L5:=wB (dk (f:=dK) (fun y hy=>jS (hin.ok.ps y hy)) hin.pl pb);have L6:=wB (show (v.x.ys.flatMap cY).length≤10485760 by have:=c8 (f:=cY) (m:=10) (L:=v.x.ys) (fun y _=>ee y);rw [hin.yl] at this;omega);have HG0:=wB (h.alloc (.cells #[.pointer (some ⟨GB,0,none⟩)] 142));have HBX:=wB (wF w (.cells #[.pointer (some ⟨GB,0,none⟩)] 142));have HFB:=wB (Free.new h (b:=w.heap.size) (Nat.le_refl _));have HR0:=wB ((Keep.alloc (fun _=>False) w (.cells #[.pointer (some ⟨GB,0,none⟩)] 142)).old hrb id);have hRBw:=wJ hrb;have hGBw:=wJ h.gate;have HSZ:=wB (show (w.alloc (.cells #[.pointer (some ⟨GB,0,none⟩)] 142)).heap.size=w.heap.size+1 by simp);clear h hin hrec hrb hfr sh1;go_enter Tryz.func126,Tryz.ntmps126
 go_upto_region 1 with fail
 generalize w.alloc (.cells #[.pointer (some ⟨GB,0,none⟩)] 142)=w0 at *;generalize w.heap.size=BX at *;have HF0R:=HFR;have HF0B:=HFB;have hlt0:RB<w0.heap.size:=by have:=HSZ.out;omega
 have hltB:BX<w0.heap.size:=by have:=HSZ.out;omega
 have hneB:BX≠RB:=by omega
 have hneG:BX≠GB:=by omega
 have HX0:=HBX;have pb0:=al HX0.out;obtain ⟨g0,g1,g2,g3,g4,g5,g6,g7,g8⟩:=cells9 HR0.out;go_still_tail 4,(by kernel_rfl)
 change wpList _ _ _ _ _ w0.drew
 have HG0d:=wB HG0.out.drew;go_wp2_with fail
 clear pb0 g0 g1 g2 g3 g4 g5 g6 g7 g8;refine (ci wS w0.drew GB WB sv [] HG0d.out RB 0 v.x.tick 9223372036854775807 (cells9 HR0.out).1 (by omega) HIN.out.ok.tick (by simp)).mono ?_;rintro e w1 ⟨rfl,hb⟩;obtain ⟨sv1,hg,hk,hn⟩:=hb.after (Keep.drew (fun _=>False) w0);have HG1:=wB hg;have HR1:=wB (hk.old HR0.out HF0R.out.not);have HX1:=wB (hk.old HX0.out HF0B.out.not);have HF1R:=wB (HF0R.out.next (wJ HR0.out) hn);have HF1B:=wB (HF0B.out.next (wJ HX0.out) hn);clear hg hk hn HG0 HG0d HR0 HX0 HF0R HF0B;go_wp2_with fail
 have pb1:=al HX1.out;obtain ⟨g0,g1,g2,g3,g4,g5,g6,g7,g8⟩:=cells9 HR1.out;go_still_tail 6,(by kernel_rfl)
 change wpList _ _ _ _ _ w1.drew
 have HG1d:=wB HG1.out.drew;go_wp2_with fail
 clear pb1 g0 g1 g2 g3 g4 g5 g6 g7 g8;refine (tk wS w1.drew GB WB sv1 ([]++aO v.x.tick.toNat) HG1d.out RB 1 v.wo v.wn v.wc (cells9 HR1.out).2.1 HF1R.out v.x.ws HIN.out.wl HIN.out.wr HIN.out.ok.ws HW1.out (by omega) 64 (by have:=L1.out;have:=L2.out;have:=L3.out;have:=L4.out;have:=L5.out;have:=L6.out;simp only [wH,xh,xA];omega)).mono ?_;rintro e w2 ⟨rfl,hb⟩;obtain ⟨sv2,hg,hk,hn⟩:=hb.after (Keep.drew (fun _=>False) w1);have HG2:=wB hg;have HR2:=wB (hk.old HR1.out HF1R.out.not);have HX2:=wB (hk.old HX1.out HF1B.out.not);have HF2R:=wB (HF1R.out.next (wJ HR1.out) hn);have HF2B:=wB (HF1B.out.next (wJ HX1.out) hn);clear hg hk hn HG1 HG1d HR1 HX1 HF1R HF1B;go_wp2_with fail
 have pb2:=al HX2.out;obtain ⟨g0,g1,g2,g3,g4,g5,g6,g7,g8⟩:=cells9 HR2.out;go_still_tail 6,(by kernel_rfl)
 change wpList _ _ _ _ _ w2.drew
 have HG2d:=wB HG2.out.drew;go_wp2_with fail
 clear pb2 g0 g1 g2 g3 g4 g5 g6 g7 g8;refine (tl wS w2.drew GB WB sv2 ([]++aO v.x.tick.toNat++bj cK v.x.ws) HG2d.out RB 2 v.ko v.kn v.kc (cells9 HR2.out).2.2.1 HF2R.out v.x.ds HIN.out.kl HIN.out.kr HIN.out.ok.ds HD1.out (by omega) 64 (by have:=L1.out;have:=L2.out;have:=L3.out;have:=L4.out;have:=L5.out;have:=L6.out;simp only [wH,xh,xA];omega)).mono ?_;rintro e w3 ⟨rfl,hb⟩;obtain ⟨sv3,hg,hk,hn⟩:=hb.after (Keep.drew (fun _=>False) w2);have HG3:=wB hg;have HR3:=wB (hk.old HR2.out HF2R.out.not);have HX3:=wB (hk.old HX2.out HF2B.out.not);have HF3R:=wB (HF2R.out.next (wJ HR2.out) hn);have HF3B:=wB (HF2B.out.next (wJ HX2.out) hn);clear hg hk hn HG2 HG2d HR2 HX2 HF2R HF2B;go_wp2_with fail
 have pb3:=al HX3.out;have qf:∀ j,w3.frozen? ⟨RB,j,none⟩=false:=fun j=>frozen_of_row w3 RB j _ _ HR3.out
 obtain ⟨g0,g1,g2,g3,g4,g5,g6,g7,g8⟩:=cells9 HR3.out;go_region
 have HG4:=wB (show Gt wS GB WB sv3 ([]++aO v.x.tick.toNat++bj cK v.x.ws++bj idleB v.x.ds) ((w3.setCell ⟨RB,3,none⟩ (.int .i64 v.wn)).setCell ⟨RB,4,none⟩ (.int .i64 v.kn)).drew from ((HG3.out.keepX ((Keep.setCell w3 RB 3 _).trans (Keep.setCell _ RB 4 _) (fun _ _ h=>h) (fun _ _ h=>h)) hgr HF3R.out hsr).drew));have HR4:=wB (show ((w3.setCell ⟨RB,3,none⟩ (.int .i64 v.wn)).setCell ⟨RB,4,none⟩ (.int .i64 v.kn)).drew.heap[RB]?=some (.cells #[.int .i64 v.x.tick,.slice v.wo v.wn v.wc,.slice v.ko v.kn v.kc,.int .i64 v.x.rows,.int .i64 v.x.cols,.slice v.eo v.en v.ec,.slice v.po v.pn v.pc,.slice v.yo v.yn v.yc,.slice v.zo v.zn v.zc] 34 (0,0)) from sw HR3.out sh2 sh3);have HX4:=wB (show ((w3.setCell ⟨RB,3,none⟩ (.int .i64 v.wn)).setCell ⟨RB,4,none⟩ (.int .i64 v.kn)).drew.heap[BX]?=some (.cells #[.pointer (some ⟨GB,0,none⟩)] 142 (0,0)) from ((Keep.setCell w3 RB 3 (.int .i64 v.wn)).trans (Keep.setCell _ RB 4 (.int .i64 v.kn)) (fun _ _ h=>h) (fun _ _ h=>h)).old HX3.out hneB);have HF4R:=HF3R;have HF4B:=HF3B;clear HG3 HR3 HX3 HF3R HF3B qf g0 g1 g2 g3 g4 g5 g6 g7 g8 pb3;generalize ((w3.setCell ⟨RB,3,none⟩ (.int .i64 v.wn)).setCell ⟨RB,4,none⟩ (.int .i64 v.kn)).drew=w4 at *;generalize sv3=sv4 at *;go_wp2_with fail
 have pb4:=al HX4.out;obtain ⟨g0,g1,g2,g3,g4,g5,g6,g7,g8⟩:=cells9 HR4.out;go_still_tail 6,(by kernel_rfl)
 change wpList _ _ _ _ _ w4.drew
 have HG4d:=wB HG4.out.drew;go_wp2_with fail
 clear pb4 g0 g1 g2 g3 g4 g5 g6 g7 g8;refine (tn wS w4.drew GB WB sv4 ([]++aO v.x.tick.toNat++bj cK v.x.ws++bj idleB v.x.ds) HG4d.out RB 5 v.eo v.en v.ec (cells9 HR4.out).2.2.2.2.2.1 HF4R.out v.x.es HIN.out.el HIN.out.er HIN.out.ok.es HE1.out eb 4096 (by have:=L1.out;have:=L2.out;have:=L3.out;have:=L4.out;have:=L5.out;have:=L6.out;simp only [wH,xh,xA];omega) BX HX4.out HF4B.out).mono ?_;rintro e w5 ⟨rfl,hb⟩;obtain ⟨sv5,hg,hk,hn⟩:=hb.after (Keep.drew (fun _=>False) w4);have HG5:=wB hg;have HR5:=wB (hk.old HR4.out HF4R.out.not);have HX5:=wB (hk.old HX4.out HF4B.out.not);have HF5R:=wB (HF4R.out.next (wJ HR4.out) hn);have HF5B:=wB (HF4B.out.next (wJ HX4.out) hn);clear hg hk hn HG4 HG4d HR4 HX4 HF4R HF4B;go_wp2_with fail
 have pb5:=al HX5.out;obtain ⟨g0,g1,g2,g3,g4,g5,g6,g7,g8⟩:=cells9 HR5.out;go_still_tail 6,(by kernel_rfl)
 change wpList _ _ _ _ _ w5.drew
 have HG5d:=wB HG5.out.drew;go_wp2_with fail
 clear pb5 g0 g1 g2 g3 g4 g5 g6 g7 g8;refine (tp wS w5.drew GB WB sv5 ([]++aO v.x.tick.toNat++bj cK v.x.ws++bj idleB v.x.ds++bj dE v.x.es) HG5d.out RB 6 v.po v.pn v.pc (cells9 HR5.out).2.2.2.2.2.2.1 HF5R.out v.x.ps HIN.out.pl HIN.out.pr HIN.out.ok.ps HP1.out pb 64 (by have:=L1.out;have:=L2.out;have:=L3.out;have:=L4.out;have:=L5.out;have:=L6.out;simp only [wH,xh,xA];omega) BX HX5.out HF5B.out).mono ?_;rintro e w6 ⟨rfl,hb⟩;obtain ⟨sv6,hg,hk,hn⟩:=hb.after (Keep.drew (fun _=>False) w5);have HG6:=wB hg;have HR6:=wB (hk.old HR5.out HF5R.out.not);have HX6:=wB (hk.old HX5.out HF5B.out.not);have HF6R:=wB (HF5R.out.next (wJ HR5.out) hn);have HF6B:=wB (HF5B.out.next (wJ HX5.out) hn);clear hg hk hn HG5 HG5d HR5 HX5 HF5R HF5B;go_wp2_with fail
 have pb6:=al HX6.out;obtain ⟨g0,g1,g2,g3,g4,g5,g6,g7,g8⟩:=cells9 HR6.out;go_still_tail 10,(by kernel_rfl)
 change wpList _ _ _ _ _ w6.drew
 have HG6d:=wB HG6.out.drew;go_wp2_with fail
 clear pb6 g0 g1 g2 g3 g4 g5 g6 g7 g8;refine (mE wS w6.drew GB WB sv6 ([]++aO v.x.tick.toNat++bj cK v.x.ws++bj idleB v.x.ds++bj dE v.x.es++bj dK v.x.ps) HG6d.out RB 7 v.yo v.yn v.yc (cells9 HR6.out).2.2.2.2.2.2.2.1 HF6R.out v.x.ys HIN.out.yl HIN.out.yr HIN.out.ok.ys (by omega) (by have:=L1.out;have:=L2.out;have:=L3.out;have:=L4.out;have:=L5.out;have:=L6.out;simp only [wH,xh,xA];omega) (v.wn:Int) (le1.trans sh2)).mono ?_;rintro e w7 ⟨rfl,hb⟩;obtain ⟨sv7,hg,hk,hn⟩:=hb.after (Keep.drew (fun _=>False) w6);have HG7:=wB hg;have HR7:=wB (hk.old HR6.out HF6R.out.not);have HX7:=wB (hk.old HX6.out HF6B.out.not);have HF7R:=wB (HF6R.out.next (wJ HR6.out) hn);have HF7B:=wB (HF6B.out.next (wJ HX6.out) hn);clear hg hk hn HG6 HG6d HR6 HX6 HF6R HF6B;go_wp2_with fail
 have pb7:=al HX7.out;obtain ⟨g0,g1,g2,g3,g4,g5,g6,g7,g8⟩:=cells9 HR7.out;go_still_tail 10,(by kernel_rfl)
 change wpList _ _ _ _ _ w7.drew
 have HG7d:=wB HG7.out.drew;go_wp2_with fail
 clear pb7 g0 g1 g2 g3 g4 g5 g6 g7 g8;refine (mE wS w7.drew GB WB sv7 ([]++aO v.x.tick.toNat++bj cK v.x.ws++bj idleB v.x.ds++bj dE v.x.es++bj dK v.x.ps++v.x.ys.flatMap cY) HG7d.out RB 8 v.zo v.zn v.zc (cells9 HR7.out).2.2.2.2.2.2.2.2 HF7R.out v.x.zs HIN.out.zl HIN.out.zr HIN.out.ok.zs (by omega) (by have:=L1.out;have:=L2.out;have:=L3.out;have:=L4.out;have:=L5.out;have:=L6.out;simp only [wH,xh,xA];omega) (v.kn:Int) (le2.trans sh3)).mono ?_;rintro e w8 ⟨rfl,hb⟩;obtain ⟨sv8,hg,hk,hn⟩:=hb.after (Keep.drew (fun _=>False) w7);have HG8:=wB hg;have HR8:=wB (hk.old HR7.out HF7R.out.not);have HX8:=wB (hk.old HX7.out HF7B.out.not);have HF8R:=wB (HF7R.out.next (wJ HR7.out) hn);have HF8B:=wB (HF7B.out.next (wJ HX7.out) hn);clear hg hk hn HG7 HG7d HR7 HX7 HF7R HF7B;go_wp2_with fail
 exact bodyPost_end (v:=.tuple #[]) (by simp [results,Tryz.results126,go_sem]) rfl ⟨rfl,sv8,by simpa only [bu,xA,List.append_assoc] using HG8.out⟩
theorem fh (w:World):Calls Tryz.prog 76 #[] w fun e w'=>e = .returned (.pointer (some ⟨w.heap.size,0,none⟩))∧w'=w.alloc (.cells #[.slice none 0 0,.bool true] 193):=by
 go_enter Tryz.func76,Tryz.ntmps76
 go_wp2_with fail
 go_ret
 exact ⟨rfl,rfl⟩
theorem iC (w:World) (WB:Nat) (sv:Value) (l:List Int) (n:Nat) (h:W1 w WB sv l) (hn:l.length=n) (h0:0<n) (hl:n≤1000000000) :
 Calls Tryz.prog 79 #[.pointer (some ⟨WB,0,none⟩)] w fun e w'=>e = .returned (.slice (some ⟨w.heap.size,0,none⟩) n n)∧Below w.heap.size w w'∧w'.heap[w.heap.size]?=some (.cells (cellsOf ah l).toArray 5 (0,0)):=by
 obtain ⟨s0,s1⟩:=h.cells;have hw:=h.own;rw [hn] at hw
 obtain ⟨g,cap,rfl,hsrc⟩:∃ g cap,sv = .slice (some ⟨g,0,none⟩) n cap∧∀ j u,(cellsOf ah l)[j]?=some u→w.cell? ⟨g,j,none⟩=some u:=by
  rcases hw.2 with ⟨h1,h2⟩ | ⟨g,cap,h1,h2,h3,h4⟩
  · omega
  · exact ⟨g,cap,h1,fun j u hu=>h4.cell j u hu⟩
 have HB:=wB h.box;clear h hw;obtain ⟨i5,hi,hz0,hz1,hz2⟩:=dF (show (Tryz.prog.info? 5).map (fun i=>(i.zero,i.size,i.bytes))=some (some (.int .u8 0),1,1) by kernel_rfl);have hinfo:(Tryz.prog.info? 5).map (·.size)=some 1:=by rw [hi];simp [hz1]
 obtain ⟨M,hM⟩:∃ M,M=madeCells (Value.int .u8 0).cells (((n:Nat):Int).toNat*i5.size):=⟨_,rfl⟩;have hMs:M.size=n:=by rw [hM,size_madeCells,hz1];simp
 have hmk:∀ W:World,(Instr.makeSlice 59 (.int .i64 (n:Int)) (.int .i64 (n:Int))).run Tryz.prog W = .ok (.slice (some ⟨W.heap.size,0,none⟩) n n) (W.alloc (.cells M 5)):=fun W=>by
  have h:=run_make (P:=Tryz.prog) W 59 5 i5 (.int .u8 0) Tryz.underlying59 hi hz0 .i64 .i64 (n:Int) (n:Int) (by omega) (by omega) (by rw [hz2];omega) (by omega);rw [←hM] at h
  simpa using h
 clear hM;have hlen:(cellsOf ah l).length=n:=by rw [aI,hn]
 have hcp:∀ ty,(Builtin.copy_ #[59,59] ty #[.slice (some ⟨w.heap.size,0,none⟩) n n,.slice (some ⟨g,0,none⟩) n cap]).run Tryz.prog (w.alloc (.cells M 5)) = .ok (goInt n) ((w.alloc (.cells M 5)).setRow w.heap.size (cellsOf ah l).toArray):=fun ty=>by
  have h:=run_copy_row (P:=Tryz.prog) (w.alloc (.cells M 5)) 59 59 ty 5 w.heap.size 0 n n ⟨g,0,none⟩ n cap M 5 (cellsOf ah l) Tryz.underlying59 hinfo (wF w _) (by rw [hlen];simp [Nat.min_def])
   (fun j u hu=>by
     have hadd:(⟨g,0,none⟩:Addr).add j=⟨g,j,none⟩:=by unfold Addr.add;split <;> simp_all
     rw [hadd];exact (Keep.alloc (fun _=>False) w (.cells M 5)).cell (hsrc j u hu) id) (by omega) (di ah eE l)
  rw [hlen] at h;rw [h,List.take_zero,xA,List.drop_of_length_le (by rw [Array.length_toList];omega),List.append_nil]
 have hgY:((w.alloc (.cells M 5)).setRow w.heap.size (cellsOf ah l).toArray).heap[w.heap.size]?=some (.cells (cellsOf ah l).toArray 5 (0,0)):=setRow_heap _ _ M _ 5 (0,0) (wF w _);have hb1:Below w.heap.size w (w.alloc (.cells M 5)):=(Below.refl _ w).alloc (Nat.le_refl _) _;have hb2:Below w.heap.size (w.alloc (.cells M 5)) ((w.alloc (.cells M 5)).setRow w.heap.size (cellsOf ah l).toArray):=⟨rfl,rfl,rfl,by simp,fun k hk=>setRow_other _ _ _ _ (by omega)⟩;have HE:=wB (And.intro (hb1.trans hb2) hgY);have s2:=(Keep.alloc (fun _=>False) w (.cells M 5)).cell s0 id;clear hb1 hb2 hgY hsrc;go_enter Tryz.func79,Tryz.ntmps79
 go_wp2_with fail
 go_ret
 exact ⟨rfl,HE.out.1,HE.out.2⟩
theorem oA (n:Nat):0<(aO n).length:=by by_cases hk:n≤127 <;> simp [dh,fJ,hk]
theorem tX {w:World} {v:RV} (hin:v.In w) (hrec:bh v.x=0):0<(bu v.x).length∧(bu v.x).length≤1000000000:=by
 obtain ⟨sz1,sz2⟩:=jD hrec;rw [hin.wl] at sz1;rw [hin.kl] at sz2;have L0:=oA v.x.tick.toNat
 have L1:=br hin.ok.tick;have L2:=dk (f:=cK) (fun y hy=>jP (hin.ok.ws y hy)) hin.wl (by omega);have L3:=dk (f:=idleB) (fun y hy=>jQ (hin.ok.ds y hy)) hin.kl (by omega);have L4:=dk (f:=dE) (fun y hy=>jR (hin.ok.es y hy)) hin.el hin.eb;have L5:=dk (f:=dK) (fun y hy=>jS (hin.ok.ps y hy)) hin.pl hin.pb;have L6:(v.x.ys.flatMap cY).length≤10485760:=by have:=c8 (f:=cY) (m:=10) (L:=v.x.ys) (fun y _=>ee y);rw [hin.yl] at this;have:=hin.yb;omega
 have L7:(v.x.zs.flatMap cY).length≤10485760:=by have:=c8 (f:=cY) (m:=10) (L:=v.x.zs) (fun y _=>ee y);rw [hin.zl] at this;have:=hin.zb;omega
 simp only [bu,wH];omega
def nk (w:World) (x:aw) (e:Ending) (w':World):Prop:=
 (bh x≠0∧e = .returned (.tuple #[.slice none 0 0,.int .i64 (bh x)])∧Below w.heap.size w w')∨
 (bh x=0∧∃ b n,e = .returned (.tuple #[.slice (some ⟨b,0,none⟩) n n,.int .i64 0])∧n=(bu x).length∧Below w.heap.size w w'∧w.heap.size≤b∧w'.heap[b]?=some (.cells (cellsOf ah (bu x)).toArray 5 (0,0)))
theorem ln (w:World) (v:RV) (hin:v.In w):Calls Tryz.prog 80 #[.agg #[.int .i64 v.x.tick,.slice v.wo v.wn v.wc,.slice v.ko v.kn v.kc,.int .i64 v.x.rows,.int .i64 v.x.cols,.slice v.eo v.en v.ec,.slice v.po v.pn v.pc,.slice v.yo v.yn v.yc,.slice v.zo v.zn v.zc]] w (nk w v.x):=by
 have HIN:=wB hin;clear hin;have HW:=wB (eY.begin w v);go_enter Tryz.func80,Tryz.ntmps80
 go_upto_region 1 with fail
 generalize w.alloc (.cells #[.int .i64 v.x.tick,.slice v.wo v.wn v.wc,.slice v.ko v.kn v.kc,.int .i64 v.x.rows,.int .i64 v.x.cols,.slice v.eo v.en v.ec,.slice v.po v.pn v.pc,.slice v.yo v.yn v.yc,.slice v.zo v.zn v.zc] 34)=W at *;have HHE:=wB (show ∃ H0,w.heap.size=H0 from ⟨_,rfl⟩);obtain ⟨H0,hH0⟩:=HHE.out;rw [hH0] at HW;rw [hH0];have HH:=wB hH0;clear hH0 HHE;obtain ⟨g0,g1,g2,g3,g4,g5,g6,g7,g8⟩:=cells9 HW.out.g;go_wp2_with fail
 clear g0 g1 g2 g3 g4 g5 g6 g7 g8;refine (ma W v (HIN.out.keep HW.out.below)).mono ?_;rintro e w1 ⟨rfl,hb1⟩;have HR1:=wB (HW.out.keep hb1);clear hb1 HW;by_cases h0:bh v.x=0
 · have HREC:=wB h0
   have HL:=wB (tX HIN.out h0);rw [h0];clear h0;go_wp2_with fail
   refine (fh w1).mono ?_;rintro e w2 ⟨rfl,hw2⟩;have HBW:=wB (show w2.heap[w1.heap.size]?=some (.cells #[.slice none 0 0,.bool true] 193 (0,0)) from by rw [hw2];exact wF w1 _);have HK2:=wB (show Keep (fun _=>False) w1 w2 from by rw [hw2];exact Keep.alloc _ _ _);have HS2:=wB (show w2.heap.size=w1.heap.size+1 by rw [hw2];simp);have HRB:=wB (wJ HR1.out.g);clear hw2;generalize w1.heap.size=WB at *
   have HG:=wB (show Gt w w2.heap.size WB (.slice none 0 0) [] (w2.alloc (.cells #[.pointer (some ⟨WB,0,none⟩),.pointer none,.int .i64 0] 147)) from by
    have hb:Below w.heap.size w w2:=HR1.out.below.trans (HK2.out.below HR1.out.below.size (fun _ _=>id));have hs:=HS2.out;have hr:=HRB.out;have hh:=HH.out;exact ⟨wF w2 _,⟨(Keep.alloc (fun _=>False) w2 _).old HBW.out id,by simpa [cellsOf] using Own.nil (w2.alloc (.cells #[.pointer (some ⟨WB,0,none⟩),.pointer none,.int .i64 0] 147)) 1,by simp [Value.ownBlock]⟩,by omega,by simp [Value.ownBlock],hb.alloc hb.size _,by omega,fun g hg=>by simp [Value.ownBlock] at hg⟩)
   have HR3:=wB ((Keep.alloc (fun _=>False) w2 (.cells #[.pointer (some ⟨WB,0,none⟩),.pointer none,.int .i64 0] 147)).old (HK2.out.old HR1.out.g id) id);have HF:=wB (show Free (.slice none 0 0) WB H0 from ⟨by have:=HRB.out;omega,by simp [Value.ownBlock]⟩);have HGR:=wB (show w2.heap.size≠H0 by have:=HRB.out;have:=HS2.out;omega);go_wp2_with fail
   generalize w2.alloc (.cells #[.pointer (some ⟨WB,0,none⟩),.pointer none,.int .i64 0] 147)=w3 at *;generalize w2.heap.size=GB at *;refine (qk w w3 GB WB (.slice none 0 0) v HG.out HIN.out HREC.out H0 HR3.out HF.out HGR.out (by rw [HH.out];exact Nat.le_refl _)).mono ?_;rintro e w4 ⟨rfl,sv',hg4⟩;have HG4:=wB hg4;have q0:=hg4.cells;clear hg4 HG HR3 HR1 HBW HK2;go_wp2_with fail
   refine (iC w4 WB sv' (bu v.x) (bu v.x).length HG4.out.w1 rfl HL.out.1 HL.out.2).mono ?_;rintro e w5 ⟨rfl,hb5,hrow⟩;have HE:=wB (show nk w v.x (.returned (.tuple #[.slice (some ⟨w4.heap.size,0,none⟩) (bu v.x).length (bu v.x).length,.int .i64 0])) w5 from .inr ⟨HREC.out,_,_,rfl,rfl,Below.next HG4.out.below hb5,HG4.out.below.size,hrow⟩);clear hb5 hrow q0;go_wp2_with fail
   go_ret2
   exact HE.out
 · have HE:=wB (show nk w v.x (.returned (.tuple #[.slice none 0 0,.int .i64 (bh v.x)])) w1 from .inl ⟨h0,rfl,HR1.out.below⟩)
   generalize bh v.x=E at *;have e1:(E != 0)=true:=by simp [h0]
   have e2:(E==0)=false:=by simp [h0]
   clear h0;go_wp2_with fail
   go_ret2
   exact HE.out
theorem vI (w:World) (v:RV) (hin:v.In w):Calls Tryz.prog 45 #[.agg #[.int .i64 v.x.tick,.slice v.wo v.wn v.wc,.slice v.ko v.kn v.kc,.int .i64 v.x.rows,.int .i64 v.x.cols,.slice v.eo v.en v.ec,.slice v.po v.pn v.pc,.slice v.yo v.yn v.yc,.slice v.zo v.zn v.zc]] w fun e w'=>e = .returned (.int .i64 (bh v.x))∧Below w.heap.size w w':=by
 have HIN:=wB hin;clear hin;have HW:=wB (eY.begin w v);go_enter Tryz.func45,Tryz.ntmps45
 go_upto_region 1 with fail
 generalize w.alloc (.cells #[.int .i64 v.x.tick,.slice v.wo v.wn v.wc,.slice v.ko v.kn v.kc,.int .i64 v.x.rows,.int .i64 v.x.cols,.slice v.eo v.en v.ec,.slice v.po v.pn v.pc,.slice v.yo v.yn v.yc,.slice v.zo v.zn v.zc] 34)=W at *;have HHE:=wB (show ∃ H0,w.heap.size=H0 from ⟨_,rfl⟩);obtain ⟨H0,hH0⟩:=HHE.out;rw [hH0] at HW;rw [hH0];have HH:=wB hH0;clear hH0 HHE;obtain ⟨g0,g1,g2,g3,g4,g5,g6,g7,g8⟩:=cells9 HW.out.g;go_wp2_with fail
 clear g0 g1 g2 g3 g4 g5 g6 g7 g8;refine (ln W v (HIN.out.keep HW.out.below)).mono ?_;intro e w1 hp;rcases hp with ⟨hne,rfl,hb⟩ | ⟨hz,b,n,rfl,hn,hb,hle,hrow⟩
 · have HR1:=wB (HW.out.keep hb)
   clear hb HW;obtain ⟨E,hE⟩:∃ E,bh v.x=E:=⟨_,rfl⟩;rw [hE] at hne ⊢;have HEE:=wB hE;clear hE;have e1:(E != 0)=true:=by simp [hne]
   have e2:(E==0)=false:=by simp [hne]
   clear hne;go_wp2_with fail
   go_ret
   exact ⟨by rw [HEE.out];rfl,HR1.out.below⟩
 · have HR1:=wB (HW.out.keep hb)
   have HZ:=wB hz;clear hb HW hz hn hle hrow;go_wp2_with fail
   go_ret
   exact ⟨by rw [HZ.out];rfl,HR1.out.below⟩
end Go.Proofs.YtcaicgipibcicaaGreat
