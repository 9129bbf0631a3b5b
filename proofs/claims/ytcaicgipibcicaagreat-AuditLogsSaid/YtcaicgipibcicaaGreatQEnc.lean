/- The journal: a record is written. Printed by wip/genrecw.py. -/
import Derived.Test.YtcaicgipibcicaaGreatQRowB
import Derived.Test.YtcaicgipibcicaaGreatQRLists
import Derived.BigRegion
import Derived.Test.YtcaicgipibcicaaGreatQRecCk2
import Derived.Laws.CopyRow
set_option maxRecDepth 100000
set_option maxHeartbeats 16000000
set_option linter.unusedSimpArgs false
set_option linter.unusedVariables false
open Go renaming heap_alloc_new→yE,lt_of_block→yK
open Go.Lib renaming hid→yA
open List renaming getElem?_eq_getElem→yC,getElem?_eq_some_iff→yD,length_append→yN,length_nil→zu,nil_append→zR
namespace Go.Proofs.YtcaicgipibcicaaGreat
open Go.RowKit Go.Sort
def mN (x:aF):List Int:=ca x.tick.toNat++bX dE x.ws++bX idleB x.ds++bX ek x.es++bX eY x.ps++x.ys.flatMap eC++x.zs.flatMap eC
theorem vA {x:aF} (h:bw x=0):∀ y ∈ x.ws,0≤y.since∧0≤y.number:=by
 obtain ⟨_,h2,_⟩:=cK h
 have hk:∀ (k:Nat) (y:ad),x.ws[k]?=some y→0≤y.since∧0≤y.number:=by
  intro k
  induction k with
  | zero=>
    intro y hy;have h3:=dR h2 (yD.1 hy).1;rw [dO hy] at h3;have h4:=of_decide_eq_true h3;have h5:ir x.ws 0=-1:=rfl;omega
  | succ k ih=>
    intro y hy;have h3:=dR h2 (yD.1 hy).1;rw [dO hy] at h3;have h4:=of_decide_eq_true h3;obtain ⟨z,hz⟩:∃ z,x.ws[k]?=some z:=⟨x.ws[k]'(by have:=(yD.1 hy).1;omega),yC _⟩;rw [gT hz] at h4;have:=ih z hz;omega
 intro y hy;obtain ⟨k,hk1⟩:=List.mem_iff_getElem?.1 hy;exact hk k y hk1
theorem vB {x:aF} (h:bw x=0):∀ y ∈ x.ds,0≤y.number:=by
 obtain ⟨_,_,h2,_⟩:=cK h
 have hk:∀ (k:Nat) (y:ak),x.ds[k]?=some y→0≤y.number:=by
  intro k
  induction k with
  | zero=>
    intro y hy;have h3:=dR h2 (yD.1 hy).1;rw [fp hy] at h3;have h4:=of_decide_eq_true h3;have h5:iu x.ds 0=-1:=rfl;omega
  | succ k ih=>
    intro y hy;have h3:=dR h2 (yD.1 hy).1;rw [fp hy] at h3;have h4:=of_decide_eq_true h3;obtain ⟨z,hz⟩:∃ z,x.ds[k]?=some z:=⟨x.ds[k]'(by have:=(yD.1 hy).1;omega),yC _⟩;rw [gU hz] at h4;have:=ih z hz;omega
 intro y hy;obtain ⟨k,hk1⟩:=List.mem_iff_getElem?.1 hy;exact hk k y hk1
theorem ip {x:aF} (h:bw x=0):aQ x.rows x.cols x.es=true∧x.rows=x.ws.length∧x.cols=x.ds.length:=by
 obtain ⟨_,_,_,h3,_⟩:=cK h;unfold dm at h3
 simpa [and_assoc] using h3
theorem vC {x:aF} (h:bw x=0):∀ y ∈ x.es,0≤y.r∧0≤y.c∧0≤y.w:=by
 intro y hy;obtain ⟨k,hk⟩:=List.mem_iff_getElem?.1 hy;have:=gC (ip h).1 hk;omega
theorem vD {x:aF} (h:bw x=0):∀ y ∈ x.ps,0≤y.r∧0≤y.c:=by
 intro y hy;obtain ⟨k,hk⟩:=List.mem_iff_getElem?.1 hy;obtain ⟨_,_,_,_,h5,_⟩:=cK h;have h6:=kY h5 hk;rcases cV (ip h).1 y.r y.c with ⟨h7,_⟩ | h7
 · exact absurd h7 h6.2.1
 · omega
theorem xG {x:aF} (h:bw x=0):(x.ys.length:Int)=x.rows∧(x.zs.length:Int)=x.cols:=by
 obtain ⟨_,_,_,_,_,h6⟩:=cK h;unfold bH at h6
 simpa using h6
theorem oc (wS w:World) (GB WB:Nat) (sv:Value) (l:List Int) (h:Gt wS GB WB sv l w) (RB off:Nat) (ao:Option Addr) (n c:Nat) (hs:w.cell? ⟨RB,off,none⟩=some (.slice ao n c)) (hfr:Free sv WB RB) (xs:List Int) (hx:xs.length=n) (hr:RdC wS ao (cellsOf aP xs))
 (hok:∀ x ∈ xs,ar x) (hn:n≤1048576) (hl:l.length≤700000000) (m:Int) (hm:(n:Int)=m) :
 Calls Tryz.prog 171 #[.pointer (some ⟨GB,0,none⟩),.pointer (some ⟨RB,off,none⟩),.int .i64 m] w fun e w'=>e = .returned (.tuple #[])∧aA wS GB WB sv (l++xs.flatMap eC) w w':=by
 subst hm;exact xp wS w GB WB sv l h RB off ao n c hs hfr xs hx hr hok hn hl
theorem Gt.keepX {wS:World} {GB WB:Nat} {sv:Value} {l:List Int} {w w':World} (h:Gt wS GB WB sv l w) {RB:Nat} (hk:Keep (fun k=>k=RB) w w') (h1:GB≠RB) (h2:Free sv WB RB) (h3:wS.heap.size≤RB):Gt wS GB WB sv l w':=
 ⟨hk.old h.gate h1,h.w1.keep hk (fun he=>h2.1 he.symm) (fun g hg he=>h2.2 (by rw [hg,he])),h.gw,h.gs,h.below.trans (hk.below h.below.size (fun i hi he=>by omega)),h.wb,h.sb⟩
theorem ub {w:World} {RB:Nat} {v:RV} (h:w.heap[RB]?=some (.cells #[.int .i64 v.x.tick,.slice v.wo v.wn v.wc,.slice v.ko v.kn v.kc,.int .i64 v.x.rows,.int .i64 v.x.cols,.slice v.eo v.en v.ec,.slice v.po v.pn v.pc,.slice v.yo v.yn v.yc,.slice v.zo v.zn v.zc] 34 (0,0))) (h1:v.x.rows=v.wn) (h2:v.x.cols=v.kn) :
 ((w.setCell ⟨RB,3,none⟩ (.int .i64 v.wn)).setCell ⟨RB,4,none⟩ (.int .i64 v.kn)).heap[RB]?=some (.cells #[.int .i64 v.x.tick,.slice v.wo v.wn v.wc,.slice v.ko v.kn v.kc,.int .i64 v.x.rows,.int .i64 v.x.cols,.slice v.eo v.en v.ec,.slice v.po v.pn v.pc,.slice v.yo v.yn v.yc,.slice v.zo v.zn v.zc] 34 (0,0)):=by
 have:=aj (aj h 3 (.int .i64 v.wn)) 4 (.int .i64 v.kn);rw [this,←h1,←h2];rfl
theorem rL (wS w:World) (GB WB:Nat) (sv:Value) (v:RV) (h:Gt wS GB WB sv [] w) (hin:v.In wS) (hrec:bw v.x=0) (RB:Nat) (hrb:w.heap[RB]?=some (.cells #[.int .i64 v.x.tick,.slice v.wo v.wn v.wc,.slice v.ko v.kn v.kc,.int .i64 v.x.rows,.int .i64 v.x.cols,.slice v.eo v.en v.ec,.slice v.po v.pn v.pc,.slice v.yo v.yn v.yc,.slice v.zo v.zn v.zc] 34 (0,0))) (hfr:Free sv WB RB) (hgr:GB≠RB) (hsr:wS.heap.size≤RB) :
 Calls Tryz.prog 126 #[.pointer (some ⟨GB,0,none⟩),.pointer (some ⟨RB,0,none⟩)] w fun e w'=>e = .returned (.tuple #[])∧∃ sv',Gt wS GB WB sv' (mN v.x) w':=by
 have hmf:∀ (fn:Fn) (first cap:Array Value) (w:World),(Instr.makeFunc fn first cap).run Tryz.prog w = .ok (.func fn first cap) w:=fun _ _ _ _=>rfl
 have HMF:=yA hmf;have HIN:=yA hin;have HFR:=yA hfr;have HRB:=yA hrb;have HW1:=yA (vA hrec);have HD1:=yA (vB hrec);have HE1:=yA (vC hrec);have HP1:=yA (vD hrec);obtain ⟨sh1,sh2,sh3⟩:=ip hrec;obtain ⟨le1,le2⟩:=xG hrec;obtain ⟨sz1,sz2⟩:=ja hrec;obtain ⟨hh1,hh2,hh3,hh4⟩:=fJ sh1;rw [hin.wl] at sh2 sz1;rw [hin.kl] at sh3 sz2;rw [hin.yl] at le1;rw [hin.zl] at le2;have eb:=hin.eb;have pb:=hin.pb
 have hti:1≤v.x.tick:=by
  obtain ⟨h1,_⟩:=cK hrec;have h5:1≤v.x.tick∧v.x.tick≤1099511627776∧v.x.ws.length≤64∧v.x.ds.length≤64:=of_decide_eq_true h1;omega
 have L1:=yA (cg hin.ok.tick);have L2:=yA (dQ (f:=dE) (fun y hy=>lv (hin.ok.ws y hy)) hin.wl (by omega));have L3:=yA (dQ (f:=idleB) (fun y hy=>lx (hin.ok.ds y hy)) hin.kl (by omega));have L4:=yA (dQ (f:=ek) (fun y hy=>ly (hin.ok.es y hy)) hin.el eb);have L5:=yA (dQ (f:=eY) (fun y hy=>lz (hin.ok.ps y hy)) hin.pl pb);have L6:=yA (show (v.x.ys.flatMap eC).length≤10485760 by have:=eJ (f:=eC) (m:=10) (L:=v.x.ys) (fun y _=>eX y);rw [hin.yl] at this;omega);have HG0:=yA (h.alloc (.cells #[.pointer (some ⟨GB,0,none⟩)] 142));have HBX:=yA (yE w (.cells #[.pointer (some ⟨GB,0,none⟩)] 142));have HFB:=yA (Free.new h (b:=w.heap.size) (Nat.le_refl _));have HR0:=yA ((Keep.alloc (fun _=>False) w (.cells #[.pointer (some ⟨GB,0,none⟩)] 142)).old hrb id);have hRBw:=yK hrb;have hGBw:=yK h.gate;have HSZ:=yA (show (w.alloc (.cells #[.pointer (some ⟨GB,0,none⟩)] 142)).heap.size=w.heap.size+1 by simp);clear h hin hrec hrb hfr sh1;go_enter Tryz.func126,Tryz.ntmps126
 go_upto_region 1 with fail
 generalize w.alloc (.cells #[.pointer (some ⟨GB,0,none⟩)] 142)=w0 at *;generalize w.heap.size=BX at *;have HF0R:=HFR;have HF0B:=HFB;have hlt0:RB<w0.heap.size:=by have:=HSZ.out;omega
 have hltB:BX<w0.heap.size:=by have:=HSZ.out;omega
 have hneB:BX≠RB:=by omega
 have hneG:BX≠GB:=by omega
 have HX0:=HBX;have pb0:=am HX0.out;obtain ⟨g0,g1,g2,g3,g4,g5,g6,g7,g8⟩:=cells9 HR0.out;go_still_tail 4,(by kernel_rfl)
 change wpList _ _ _ _ _ w0.drew
 have HG0d:=yA HG0.out.drew;go_wp2_with fail
 clear pb0 g0 g1 g2 g3 g4 g5 g6 g7 g8;refine (du wS w0.drew GB WB sv [] HG0d.out RB 0 v.x.tick 9223372036854775807 (cells9 HR0.out).1 (by omega) HIN.out.ok.tick (by simp)).mono ?_;rintro e w1 ⟨rfl,hb⟩;obtain ⟨sv1,hg,hk,hn⟩:=hb.after (Keep.drew (fun _=>False) w0);have HG1:=yA hg;have HR1:=yA (hk.old HR0.out HF0R.out.not);have HX1:=yA (hk.old HX0.out HF0B.out.not);have HF1R:=yA (HF0R.out.next (yK HR0.out) hn);have HF1B:=yA (HF0B.out.next (yK HX0.out) hn);clear hg hk hn HG0 HG0d HR0 HX0 HF0R HF0B;go_wp2_with fail
 have pb1:=am HX1.out;obtain ⟨g0,g1,g2,g3,g4,g5,g6,g7,g8⟩:=cells9 HR1.out;go_still_tail 6,(by kernel_rfl)
 change wpList _ _ _ _ _ w1.drew
 have HG1d:=yA HG1.out.drew;go_wp2_with fail
 clear pb1 g0 g1 g2 g3 g4 g5 g6 g7 g8;refine (uZ wS w1.drew GB WB sv1 ([]++ca v.x.tick.toNat) HG1d.out RB 1 v.wo v.wn v.wc (cells9 HR1.out).2.1 HF1R.out v.x.ws HIN.out.wl HIN.out.wr HIN.out.ok.ws HW1.out (by omega) 64 (by have:=L1.out;have:=L2.out;have:=L3.out;have:=L4.out;have:=L5.out;have:=L6.out;simp only [yN,zu,zR];omega)).mono ?_;rintro e w2 ⟨rfl,hb⟩;obtain ⟨sv2,hg,hk,hn⟩:=hb.after (Keep.drew (fun _=>False) w1);have HG2:=yA hg;have HR2:=yA (hk.old HR1.out HF1R.out.not);have HX2:=yA (hk.old HX1.out HF1B.out.not);have HF2R:=yA (HF1R.out.next (yK HR1.out) hn);have HF2B:=yA (HF1B.out.next (yK HX1.out) hn);clear hg hk hn HG1 HG1d HR1 HX1 HF1R HF1B;go_wp2_with fail
 have pb2:=am HX2.out;obtain ⟨g0,g1,g2,g3,g4,g5,g6,g7,g8⟩:=cells9 HR2.out;go_still_tail 6,(by kernel_rfl)
 change wpList _ _ _ _ _ w2.drew
 have HG2d:=yA HG2.out.drew;go_wp2_with fail
 clear pb2 g0 g1 g2 g3 g4 g5 g6 g7 g8;refine (u6 wS w2.drew GB WB sv2 ([]++ca v.x.tick.toNat++bX dE v.x.ws) HG2d.out RB 2 v.ko v.kn v.kc (cells9 HR2.out).2.2.1 HF2R.out v.x.ds HIN.out.kl HIN.out.kr HIN.out.ok.ds HD1.out (by omega) 64 (by have:=L1.out;have:=L2.out;have:=L3.out;have:=L4.out;have:=L5.out;have:=L6.out;simp only [yN,zu,zR];omega)).mono ?_;rintro e w3 ⟨rfl,hb⟩;obtain ⟨sv3,hg,hk,hn⟩:=hb.after (Keep.drew (fun _=>False) w2);have HG3:=yA hg;have HR3:=yA (hk.old HR2.out HF2R.out.not);have HX3:=yA (hk.old HX2.out HF2B.out.not);have HF3R:=yA (HF2R.out.next (yK HR2.out) hn);have HF3B:=yA (HF2B.out.next (yK HX2.out) hn);clear hg hk hn HG2 HG2d HR2 HX2 HF2R HF2B;go_wp2_with fail
 have pb3:=am HX3.out;have qf:∀ j,w3.frozen? ⟨RB,j,none⟩=false:=fun j=>frozen_of_row w3 RB j _ _ HR3.out
 obtain ⟨g0,g1,g2,g3,g4,g5,g6,g7,g8⟩:=cells9 HR3.out;go_region
 have HG4:=yA (show Gt wS GB WB sv3 ([]++ca v.x.tick.toNat++bX dE v.x.ws++bX idleB v.x.ds) ((w3.setCell ⟨RB,3,none⟩ (.int .i64 v.wn)).setCell ⟨RB,4,none⟩ (.int .i64 v.kn)).drew from ((HG3.out.keepX ((Keep.setCell w3 RB 3 _).trans (Keep.setCell _ RB 4 _) (fun _ _ h=>h) (fun _ _ h=>h)) hgr HF3R.out hsr).drew));have HR4:=yA (show ((w3.setCell ⟨RB,3,none⟩ (.int .i64 v.wn)).setCell ⟨RB,4,none⟩ (.int .i64 v.kn)).drew.heap[RB]?=some (.cells #[.int .i64 v.x.tick,.slice v.wo v.wn v.wc,.slice v.ko v.kn v.kc,.int .i64 v.x.rows,.int .i64 v.x.cols,.slice v.eo v.en v.ec,.slice v.po v.pn v.pc,.slice v.yo v.yn v.yc,.slice v.zo v.zn v.zc] 34 (0,0)) from ub HR3.out sh2 sh3);have HX4:=yA (show ((w3.setCell ⟨RB,3,none⟩ (.int .i64 v.wn)).setCell ⟨RB,4,none⟩ (.int .i64 v.kn)).drew.heap[BX]?=some (.cells #[.pointer (some ⟨GB,0,none⟩)] 142 (0,0)) from ((Keep.setCell w3 RB 3 (.int .i64 v.wn)).trans (Keep.setCell _ RB 4 (.int .i64 v.kn)) (fun _ _ h=>h) (fun _ _ h=>h)).old HX3.out hneB);have HF4R:=HF3R;have HF4B:=HF3B;clear HG3 HR3 HX3 HF3R HF3B qf g0 g1 g2 g3 g4 g5 g6 g7 g8 pb3;generalize ((w3.setCell ⟨RB,3,none⟩ (.int .i64 v.wn)).setCell ⟨RB,4,none⟩ (.int .i64 v.kn)).drew=w4 at *;generalize sv3=sv4 at *;go_wp2_with fail
 have pb4:=am HX4.out;obtain ⟨g0,g1,g2,g3,g4,g5,g6,g7,g8⟩:=cells9 HR4.out;go_still_tail 6,(by kernel_rfl)
 change wpList _ _ _ _ _ w4.drew
 have HG4d:=yA HG4.out.drew;go_wp2_with fail
 clear pb4 g0 g1 g2 g3 g4 g5 g6 g7 g8;refine (u7 wS w4.drew GB WB sv4 ([]++ca v.x.tick.toNat++bX dE v.x.ws++bX idleB v.x.ds) HG4d.out RB 5 v.eo v.en v.ec (cells9 HR4.out).2.2.2.2.2.1 HF4R.out v.x.es HIN.out.el HIN.out.er HIN.out.ok.es HE1.out eb 4096 (by have:=L1.out;have:=L2.out;have:=L3.out;have:=L4.out;have:=L5.out;have:=L6.out;simp only [yN,zu,zR];omega) BX HX4.out HF4B.out).mono ?_;rintro e w5 ⟨rfl,hb⟩;obtain ⟨sv5,hg,hk,hn⟩:=hb.after (Keep.drew (fun _=>False) w4);have HG5:=yA hg;have HR5:=yA (hk.old HR4.out HF4R.out.not);have HX5:=yA (hk.old HX4.out HF4B.out.not);have HF5R:=yA (HF4R.out.next (yK HR4.out) hn);have HF5B:=yA (HF4B.out.next (yK HX4.out) hn);clear hg hk hn HG4 HG4d HR4 HX4 HF4R HF4B;go_wp2_with fail
 have pb5:=am HX5.out;obtain ⟨g0,g1,g2,g3,g4,g5,g6,g7,g8⟩:=cells9 HR5.out;go_still_tail 6,(by kernel_rfl)
 change wpList _ _ _ _ _ w5.drew
 have HG5d:=yA HG5.out.drew;go_wp2_with fail
 clear pb5 g0 g1 g2 g3 g4 g5 g6 g7 g8;refine (u9 wS w5.drew GB WB sv5 ([]++ca v.x.tick.toNat++bX dE v.x.ws++bX idleB v.x.ds++bX ek v.x.es) HG5d.out RB 6 v.po v.pn v.pc (cells9 HR5.out).2.2.2.2.2.2.1 HF5R.out v.x.ps HIN.out.pl HIN.out.pr HIN.out.ok.ps HP1.out pb 64 (by have:=L1.out;have:=L2.out;have:=L3.out;have:=L4.out;have:=L5.out;have:=L6.out;simp only [yN,zu,zR];omega) BX HX5.out HF5B.out).mono ?_;rintro e w6 ⟨rfl,hb⟩;obtain ⟨sv6,hg,hk,hn⟩:=hb.after (Keep.drew (fun _=>False) w5);have HG6:=yA hg;have HR6:=yA (hk.old HR5.out HF5R.out.not);have HX6:=yA (hk.old HX5.out HF5B.out.not);have HF6R:=yA (HF5R.out.next (yK HR5.out) hn);have HF6B:=yA (HF5B.out.next (yK HX5.out) hn);clear hg hk hn HG5 HG5d HR5 HX5 HF5R HF5B;go_wp2_with fail
 have pb6:=am HX6.out;obtain ⟨g0,g1,g2,g3,g4,g5,g6,g7,g8⟩:=cells9 HR6.out;go_still_tail 10,(by kernel_rfl)
 change wpList _ _ _ _ _ w6.drew
 have HG6d:=yA HG6.out.drew;go_wp2_with fail
 clear pb6 g0 g1 g2 g3 g4 g5 g6 g7 g8;refine (oc wS w6.drew GB WB sv6 ([]++ca v.x.tick.toNat++bX dE v.x.ws++bX idleB v.x.ds++bX ek v.x.es++bX eY v.x.ps) HG6d.out RB 7 v.yo v.yn v.yc (cells9 HR6.out).2.2.2.2.2.2.2.1 HF6R.out v.x.ys HIN.out.yl HIN.out.yr HIN.out.ok.ys (by omega) (by have:=L1.out;have:=L2.out;have:=L3.out;have:=L4.out;have:=L5.out;have:=L6.out;simp only [yN,zu,zR];omega) (v.wn:Int) (le1.trans sh2)).mono ?_;rintro e w7 ⟨rfl,hb⟩;obtain ⟨sv7,hg,hk,hn⟩:=hb.after (Keep.drew (fun _=>False) w6);have HG7:=yA hg;have HR7:=yA (hk.old HR6.out HF6R.out.not);have HX7:=yA (hk.old HX6.out HF6B.out.not);have HF7R:=yA (HF6R.out.next (yK HR6.out) hn);have HF7B:=yA (HF6B.out.next (yK HX6.out) hn);clear hg hk hn HG6 HG6d HR6 HX6 HF6R HF6B;go_wp2_with fail
 have pb7:=am HX7.out;obtain ⟨g0,g1,g2,g3,g4,g5,g6,g7,g8⟩:=cells9 HR7.out;go_still_tail 10,(by kernel_rfl)
 change wpList _ _ _ _ _ w7.drew
 have HG7d:=yA HG7.out.drew;go_wp2_with fail
 clear pb7 g0 g1 g2 g3 g4 g5 g6 g7 g8;refine (oc wS w7.drew GB WB sv7 ([]++ca v.x.tick.toNat++bX dE v.x.ws++bX idleB v.x.ds++bX ek v.x.es++bX eY v.x.ps++v.x.ys.flatMap eC) HG7d.out RB 8 v.zo v.zn v.zc (cells9 HR7.out).2.2.2.2.2.2.2.2 HF7R.out v.x.zs HIN.out.zl HIN.out.zr HIN.out.ok.zs (by omega) (by have:=L1.out;have:=L2.out;have:=L3.out;have:=L4.out;have:=L5.out;have:=L6.out;simp only [yN,zu,zR];omega) (v.kn:Int) (le2.trans sh3)).mono ?_;rintro e w8 ⟨rfl,hb⟩;obtain ⟨sv8,hg,hk,hn⟩:=hb.after (Keep.drew (fun _=>False) w7);have HG8:=yA hg;have HR8:=yA (hk.old HR7.out HF7R.out.not);have HX8:=yA (hk.old HX7.out HF7B.out.not);have HF8R:=yA (HF7R.out.next (yK HR7.out) hn);have HF8B:=yA (HF7B.out.next (yK HX7.out) hn);clear hg hk hn HG7 HG7d HR7 HX7 HF7R HF7B;go_wp2_with fail
 exact bodyPost_end (v:=.tuple #[]) (by simp [results,Tryz.results126,go_sem]) rfl ⟨rfl,sv8,by simpa only [mN,zR,List.append_assoc] using HG8.out⟩
theorem jq (w:World):Calls Tryz.prog 76 #[] w fun e w'=>e = .returned (.pointer (some ⟨w.heap.size,0,none⟩))∧w'=w.alloc (.cells #[.slice none 0 0,.bool true] 193):=by
 go_enter Tryz.func76,Tryz.ntmps76
 go_wp2_with fail
 go_ret
 exact ⟨rfl,rfl⟩
theorem mO (w:World) (WB:Nat) (sv:Value) (l:List Int) (n:Nat) (h:W1 w WB sv l) (hn:l.length=n) (h0:0<n) (hl:n≤1000000000) :
 Calls Tryz.prog 79 #[.pointer (some ⟨WB,0,none⟩)] w fun e w'=>e = .returned (.slice (some ⟨w.heap.size,0,none⟩) n n)∧Below w.heap.size w w'∧w'.heap[w.heap.size]?=some (.cells (cellsOf ai l).toArray 5 (0,0)):=by
 obtain ⟨s0,s1⟩:=h.cells;have hw:=h.own;rw [hn] at hw
 obtain ⟨g,cap,rfl,hsrc⟩:∃ g cap,sv = .slice (some ⟨g,0,none⟩) n cap∧∀ j u,(cellsOf ai l)[j]?=some u→w.cell? ⟨g,j,none⟩=some u:=by
  rcases hw.2 with ⟨h1,h2⟩ | ⟨g,cap,h1,h2,h3,h4⟩
  · omega
  · exact ⟨g,cap,h1,fun j u hu=>h4.cell j u hu⟩
 have HB:=yA h.box;clear h hw;obtain ⟨i5,hi,hz0,hz1,hz2⟩:=cR (show (Tryz.prog.info? 5).map (fun i=>(i.zero,i.size,i.bytes))=some (some (.int .u8 0),1,1) by kernel_rfl);have hinfo:(Tryz.prog.info? 5).map (·.size)=some 1:=by rw [hi];simp [hz1]
 obtain ⟨M,hM⟩:∃ M,M=madeCells (Value.int .u8 0).cells (((n:Nat):Int).toNat*i5.size):=⟨_,rfl⟩;have hMs:M.size=n:=by rw [hM,size_madeCells,hz1];simp
 have hmk:∀ W:World,(Instr.makeSlice 59 (.int .i64 (n:Int)) (.int .i64 (n:Int))).run Tryz.prog W = .ok (.slice (some ⟨W.heap.size,0,none⟩) n n) (W.alloc (.cells M 5)):=fun W=>by
  have h:=run_make (P:=Tryz.prog) W 59 5 i5 (.int .u8 0) Tryz.underlying59 hi hz0 .i64 .i64 (n:Int) (n:Int) (by omega) (by omega) (by rw [hz2];omega) (by omega);rw [←hM] at h
  simpa using h
 clear hM;have hlen:(cellsOf ai l).length=n:=by rw [aG,hn]
 have hcp:∀ ty,(Builtin.copy_ #[59,59] ty #[.slice (some ⟨w.heap.size,0,none⟩) n n,.slice (some ⟨g,0,none⟩) n cap]).run Tryz.prog (w.alloc (.cells M 5)) = .ok (goInt n) ((w.alloc (.cells M 5)).setRow w.heap.size (cellsOf ai l).toArray):=fun ty=>by
  have h:=run_copy_row (P:=Tryz.prog) (w.alloc (.cells M 5)) 59 59 ty 5 w.heap.size 0 n n ⟨g,0,none⟩ n cap M 5 (cellsOf ai l) Tryz.underlying59 hinfo (yE w _) (by rw [hlen];simp [Nat.min_def])
   (fun j u hu=>by
     have hadd:(⟨g,0,none⟩:Addr).add j=⟨g,j,none⟩:=by unfold Addr.add;split <;> simp_all
     rw [hadd];exact (Keep.alloc (fun _=>False) w (.cells M 5)).cell (hsrc j u hu) id) (by omega) (dP ai fv l)
  rw [hlen] at h;rw [h,List.take_zero,zR,List.drop_of_length_le (by rw [Array.length_toList];omega),List.append_nil]
 have hgY:((w.alloc (.cells M 5)).setRow w.heap.size (cellsOf ai l).toArray).heap[w.heap.size]?=some (.cells (cellsOf ai l).toArray 5 (0,0)):=setRow_heap _ _ M _ 5 (0,0) (yE w _);have hb1:Below w.heap.size w (w.alloc (.cells M 5)):=(Below.refl _ w).alloc (Nat.le_refl _) _;have hb2:Below w.heap.size (w.alloc (.cells M 5)) ((w.alloc (.cells M 5)).setRow w.heap.size (cellsOf ai l).toArray):=⟨rfl,rfl,rfl,by simp,fun k hk=>setRow_other _ _ _ _ (by omega)⟩;have HE:=yA (And.intro (hb1.trans hb2) hgY);have s2:=(Keep.alloc (fun _=>False) w (.cells M 5)).cell s0 id;clear hb1 hb2 hgY hsrc;go_enter Tryz.func79,Tryz.ntmps79
 go_wp2_with fail
 go_ret
 exact ⟨rfl,HE.out.1,HE.out.2⟩
theorem vE (n:Nat):0<(ca n).length:=by by_cases hk:n≤127 <;> simp [f6,kO,hk]
theorem vF {w:World} {v:RV} (hin:v.In w) (hrec:bw v.x=0):0<(mN v.x).length∧(mN v.x).length≤1000000000:=by
 obtain ⟨sz1,sz2⟩:=ja hrec;rw [hin.wl] at sz1;rw [hin.kl] at sz2;have L0:=vE v.x.tick.toNat
 have L1:=cg hin.ok.tick;have L2:=dQ (f:=dE) (fun y hy=>lv (hin.ok.ws y hy)) hin.wl (by omega);have L3:=dQ (f:=idleB) (fun y hy=>lx (hin.ok.ds y hy)) hin.kl (by omega);have L4:=dQ (f:=ek) (fun y hy=>ly (hin.ok.es y hy)) hin.el hin.eb;have L5:=dQ (f:=eY) (fun y hy=>lz (hin.ok.ps y hy)) hin.pl hin.pb;have L6:(v.x.ys.flatMap eC).length≤10485760:=by have:=eJ (f:=eC) (m:=10) (L:=v.x.ys) (fun y _=>eX y);rw [hin.yl] at this;have:=hin.yb;omega
 have L7:(v.x.zs.flatMap eC).length≤10485760:=by have:=eJ (f:=eC) (m:=10) (L:=v.x.zs) (fun y _=>eX y);rw [hin.zl] at this;have:=hin.zb;omega
 simp only [mN,yN];omega
def oY (w:World) (x:aF) (e:Ending) (w':World):Prop:=
 (bw x≠0∧e = .returned (.tuple #[.slice none 0 0,.int .i64 (bw x)])∧Below w.heap.size w w')∨
 (bw x=0∧∃ b n,e = .returned (.tuple #[.slice (some ⟨b,0,none⟩) n n,.int .i64 0])∧n=(mN x).length∧Below w.heap.size w w'∧w.heap.size≤b∧w'.heap[b]?=some (.cells (cellsOf ai (mN x)).toArray 5 (0,0)))
theorem rM (w:World) (v:RV) (hin:v.In w):Calls Tryz.prog 80 #[.agg #[.int .i64 v.x.tick,.slice v.wo v.wn v.wc,.slice v.ko v.kn v.kc,.int .i64 v.x.rows,.int .i64 v.x.cols,.slice v.eo v.en v.ec,.slice v.po v.pn v.pc,.slice v.yo v.yn v.yc,.slice v.zo v.zn v.zc]] w (oY w v.x):=by
 have HIN:=yA hin;clear hin;have HW:=yA (ee.begin w v);go_enter Tryz.func80,Tryz.ntmps80
 go_upto_region 1 with fail
 generalize w.alloc (.cells #[.int .i64 v.x.tick,.slice v.wo v.wn v.wc,.slice v.ko v.kn v.kc,.int .i64 v.x.rows,.int .i64 v.x.cols,.slice v.eo v.en v.ec,.slice v.po v.pn v.pc,.slice v.yo v.yn v.yc,.slice v.zo v.zn v.zc] 34)=W at *;have HHE:=yA (show ∃ H0,w.heap.size=H0 from ⟨_,rfl⟩);obtain ⟨H0,hH0⟩:=HHE.out;rw [hH0] at HW;rw [hH0];have HH:=yA hH0;clear hH0 HHE;obtain ⟨g0,g1,g2,g3,g4,g5,g6,g7,g8⟩:=cells9 HW.out.g;go_wp2_with fail
 clear g0 g1 g2 g3 g4 g5 g6 g7 g8;refine (nA W v (HIN.out.keep HW.out.below)).mono ?_;rintro e w1 ⟨rfl,hb1⟩;have HR1:=yA (HW.out.keep hb1);clear hb1 HW;by_cases h0:bw v.x=0
 · have HREC:=yA h0
   have HL:=yA (vF HIN.out h0);rw [h0];clear h0;go_wp2_with fail
   refine (jq w1).mono ?_;rintro e w2 ⟨rfl,hw2⟩;have HBW:=yA (show w2.heap[w1.heap.size]?=some (.cells #[.slice none 0 0,.bool true] 193 (0,0)) from by rw [hw2];exact yE w1 _);have HK2:=yA (show Keep (fun _=>False) w1 w2 from by rw [hw2];exact Keep.alloc _ _ _);have HS2:=yA (show w2.heap.size=w1.heap.size+1 by rw [hw2];simp);have HRB:=yA (yK HR1.out.g);clear hw2;generalize w1.heap.size=WB at *
   have HG:=yA (show Gt w w2.heap.size WB (.slice none 0 0) [] (w2.alloc (.cells #[.pointer (some ⟨WB,0,none⟩),.pointer none,.int .i64 0] 147)) from by
    have hb:Below w.heap.size w w2:=HR1.out.below.trans (HK2.out.below HR1.out.below.size (fun _ _=>id));have hs:=HS2.out;have hr:=HRB.out;have hh:=HH.out;exact ⟨yE w2 _,⟨(Keep.alloc (fun _=>False) w2 _).old HBW.out id,by simpa [cellsOf] using Own.nil (w2.alloc (.cells #[.pointer (some ⟨WB,0,none⟩),.pointer none,.int .i64 0] 147)) 1,by simp [Value.ownBlock]⟩,by omega,by simp [Value.ownBlock],hb.alloc hb.size _,by omega,fun g hg=>by simp [Value.ownBlock] at hg⟩)
   have HR3:=yA ((Keep.alloc (fun _=>False) w2 (.cells #[.pointer (some ⟨WB,0,none⟩),.pointer none,.int .i64 0] 147)).old (HK2.out.old HR1.out.g id) id);have HF:=yA (show Free (.slice none 0 0) WB H0 from ⟨by have:=HRB.out;omega,by simp [Value.ownBlock]⟩);have HGR:=yA (show w2.heap.size≠H0 by have:=HRB.out;have:=HS2.out;omega);go_wp2_with fail
   generalize w2.alloc (.cells #[.pointer (some ⟨WB,0,none⟩),.pointer none,.int .i64 0] 147)=w3 at *;generalize w2.heap.size=GB at *;refine (rL w w3 GB WB (.slice none 0 0) v HG.out HIN.out HREC.out H0 HR3.out HF.out HGR.out (by rw [HH.out];exact Nat.le_refl _)).mono ?_;rintro e w4 ⟨rfl,sv',hg4⟩;have HG4:=yA hg4;have q0:=hg4.cells;clear hg4 HG HR3 HR1 HBW HK2;go_wp2_with fail
   refine (mO w4 WB sv' (mN v.x) (mN v.x).length HG4.out.w1 rfl HL.out.1 HL.out.2).mono ?_;rintro e w5 ⟨rfl,hb5,hrow⟩;have HE:=yA (show oY w v.x (.returned (.tuple #[.slice (some ⟨w4.heap.size,0,none⟩) (mN v.x).length (mN v.x).length,.int .i64 0])) w5 from .inr ⟨HREC.out,_,_,rfl,rfl,Below.next HG4.out.below hb5,HG4.out.below.size,hrow⟩);clear hb5 hrow q0;go_wp2_with fail
   go_ret2
   exact HE.out
 · have HE:=yA (show oY w v.x (.returned (.tuple #[.slice none 0 0,.int .i64 (bw v.x)])) w1 from .inl ⟨h0,rfl,HR1.out.below⟩)
   generalize bw v.x=E at *;have e1:(E != 0)=true:=by simp [h0]
   have e2:(E==0)=false:=by simp [h0]
   clear h0;go_wp2_with fail
   go_ret2
   exact HE.out
theorem xH (w:World) (v:RV) (hin:v.In w):Calls Tryz.prog 45 #[.agg #[.int .i64 v.x.tick,.slice v.wo v.wn v.wc,.slice v.ko v.kn v.kc,.int .i64 v.x.rows,.int .i64 v.x.cols,.slice v.eo v.en v.ec,.slice v.po v.pn v.pc,.slice v.yo v.yn v.yc,.slice v.zo v.zn v.zc]] w fun e w'=>e = .returned (.int .i64 (bw v.x))∧Below w.heap.size w w':=by
 have HIN:=yA hin;clear hin;have HW:=yA (ee.begin w v);go_enter Tryz.func45,Tryz.ntmps45
 go_upto_region 1 with fail
 generalize w.alloc (.cells #[.int .i64 v.x.tick,.slice v.wo v.wn v.wc,.slice v.ko v.kn v.kc,.int .i64 v.x.rows,.int .i64 v.x.cols,.slice v.eo v.en v.ec,.slice v.po v.pn v.pc,.slice v.yo v.yn v.yc,.slice v.zo v.zn v.zc] 34)=W at *;have HHE:=yA (show ∃ H0,w.heap.size=H0 from ⟨_,rfl⟩);obtain ⟨H0,hH0⟩:=HHE.out;rw [hH0] at HW;rw [hH0];have HH:=yA hH0;clear hH0 HHE;obtain ⟨g0,g1,g2,g3,g4,g5,g6,g7,g8⟩:=cells9 HW.out.g;go_wp2_with fail
 clear g0 g1 g2 g3 g4 g5 g6 g7 g8;refine (rM W v (HIN.out.keep HW.out.below)).mono ?_;intro e w1 hp;rcases hp with ⟨hne,rfl,hb⟩ | ⟨hz,b,n,rfl,hn,hb,hle,hrow⟩
 · have HR1:=yA (HW.out.keep hb)
   clear hb HW;obtain ⟨E,hE⟩:∃ E,bw v.x=E:=⟨_,rfl⟩;rw [hE] at hne ⊢;have HEE:=yA hE;clear hE;have e1:(E != 0)=true:=by simp [hne]
   have e2:(E==0)=false:=by simp [hne]
   clear hne;go_wp2_with fail
   go_ret
   exact ⟨by rw [HEE.out];rfl,HR1.out.below⟩
 · have HR1:=yA (HW.out.keep hb)
   have HZ:=yA hz;clear hb HW hz hn hle hrow;go_wp2_with fail
   go_ret
   exact ⟨by rw [HZ.out];rfl,HR1.out.below⟩
end Go.Proofs.YtcaicgipibcicaaGreat
