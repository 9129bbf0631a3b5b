/- journal.Append: a record more. -/
import Derived.Test.YtcaicgipibcicaaGreatQJNew
import Derived.Lib.BufferMore
set_option maxRecDepth 100000
set_option maxHeartbeats 16000000
set_option linter.unusedSimpArgs false
set_option linter.unusedVariables false
open Go renaming cell_of_row→wG
open Go.Lib renaming hid→wB
open Nat renaming le_refl→wC
namespace Go.Proofs.YtcaicgipibcicaaGreat
open Go.RowKit Go.Sort
def lE (w:World) (J:Nat) (sv:Value) (l a:List Int) (x:aw) (w':World):Prop:=
 ∃ sv',lF w' J sv' (l++aC a (bu x)) (fg a (bu x)) x.tick∧Keep (fun k=>k=J∨sv.ownBlock=some k) w w'∧(∀ g,sv'.ownBlock=some g→sv.ownBlock=some g∨w.heap.size≤g)
theorem lF.shape {w:World} {J:Nat} {sv:Value} {l a:List Int} {tick:Int} (h:lF w J sv l a tick):∃ g cap,sv = .slice (some ⟨g,0,none⟩) l.length cap∧g≠J∧g<w.heap.size:=by
 obtain ⟨_,h1 | ⟨g,cap,h1,h2,h3,h4⟩⟩:=h.own
 · have:=h.pos
   omega
 · exact ⟨g,cap,h1,fun e=>h.ne (by rw [h1,←e];rfl),h4.lt⟩
theorem qw (w:World) (J:Nat) (a b c d e:Value):Keep (fun k=>k=J) w (((((w.setCell ⟨J,1,none⟩ a).setCell ⟨J,2,none⟩ b).setCell ⟨J,3,none⟩ c).setCell ⟨J,4,none⟩ d).setCell ⟨J,5,none⟩ e):=
 ((((aJ w J 1 a).trans (aJ _ J 2 b) (fun _ _ h=>h) (fun _ _ h=>h)).trans (aJ _ J 3 c) (fun _ _ h=>h) (fun _ _ h=>h)).trans (aJ _ J 4 d) (fun _ _ h=>h) (fun _ _ h=>h)).trans (aJ _ J 5 e) (fun _ _ h=>h) (fun _ _ h=>h)
theorem oQ (w:World) (J:Nat) (sv:Value) (l a:List Int) (tick:Int) (h:lF w J sv l a tick) (v:RV) (hin:v.In w) (hrec:bh v.x=0) (ht:tick<v.x.tick) (hl:l.length≤2000000) (hr:(bu v.x).length≤2000000) (hb:Byt (bu v.x)) :
 Calls Tryz.prog 35 #[.pointer (some ⟨J,0,none⟩),.agg #[.int .i64 v.x.tick,.slice v.wo v.wn v.wc,.slice v.ko v.kn v.kc,.int .i64 v.x.rows,.int .i64 v.x.cols,.slice v.eo v.en v.ec,.slice v.po v.pn v.pc,.slice v.yo v.yn v.yc,.slice v.zo v.zn v.zc]] w fun e w'=>e = .returned (.int .i64 0)∧lE w J sv l a v.x w':=by
 have H:=wB h;have HIN:=wB hin;have HREC:=wB hrec;have HT:=wB ht;have HL:=wB hl;have HR:=wB hr;have HBY:=wB hb;obtain ⟨g,cap,hsv,hgJ,hgl⟩:=h.shape;have HSV:=wB hsv;have HGJ:=wB hgJ;have HGL:=wB hgl;obtain ⟨a0,a1,a2,a3,ha,hbox⟩:=h.box;have HA:=wB ha;have HB0:=wB hbox;have HJL:=wB (lt_of_block hbox);have HW:=wB (eY.begin w v);clear h hin hrec ht hl hr hb hsv hgJ hgl ha hbox;go_enter Tryz.func35,Tryz.ntmps35
 go_upto_region 1 with fail
 have HK1:=wB (Keep.alloc (fun _=>False) w (.cells #[.int .i64 v.x.tick,.slice v.wo v.wn v.wc,.slice v.ko v.kn v.kc,.int .i64 v.x.rows,.int .i64 v.x.cols,.slice v.eo v.en v.ec,.slice v.po v.pn v.pc,.slice v.yo v.yn v.yc,.slice v.zo v.zn v.zc] 34));generalize w.alloc (.cells #[.int .i64 v.x.tick,.slice v.wo v.wn v.wc,.slice v.ko v.kn v.kc,.int .i64 v.x.rows,.int .i64 v.x.cols,.slice v.eo v.en v.ec,.slice v.po v.pn v.pc,.slice v.yo v.yn v.yc,.slice v.zo v.zn v.zc] 34)=W at *;obtain ⟨H0,hH0⟩:∃ H0,w.heap.size=H0:=⟨_,rfl⟩;have HH:=wB hH0;rw [hH0] at HW;rw [hH0];clear hH0;obtain ⟨g0,g1,g2,g3,g4,g5,g6,g7,g8⟩:=cells9 HW.out.g;have HB1:=wB (HK1.out.old HB0.out id);rw [HSV.out] at HB1;obtain ⟨j0,j1,j2,j3,j4,j5⟩:=cN HB1.out;have hnil:∀ W:World,(binOp .eql 59 (.slice (some ⟨g,0,none⟩) l.length cap) (.slice none 0 0)).run Tryz.prog W = .ok (.bool false) W:=fun W=>Lib.run_eql_slice_some_nil W _ _ _ Tryz.underlying59
 go_wp2_with fail
 clear g0 g1 g2 g3 g4 g5 g6 g7 g8 j0 j1 j2 j3 j4 j5;refine (ln W v (HIN.out.keep HW.out.below)).mono ?_;intro e w2 hp;rcases hp with ⟨hne,_,_⟩ | ⟨_,eb,en,rfl,hen,hb2,heb,hrow⟩
 · exact absurd HREC.out hne
 have HK2:=wB (HK1.out.trans (Keep.of_below hb2 (wC _) (fun _=>False)) (Z:=fun _=>False) (fun _ _ h=>h) (fun _ _ h=>h));have HW2:=wB (HW.out.keep hb2);have HRD:=wB (show RdC w2 (some ⟨eb,0,none⟩) (cellsOf ah (bu v.x)) from .inr ⟨_,0,rfl,fun j u hu=>by rw [Nat.zero_add];exact (wG _ _ _ _ _ (0,0) hrow).trans (by simpa using hu)⟩);have HEN:=wB hen;have HB2:=wB ((Keep.of_below hb2 (wC _) (fun _=>False)).old HB1.out id);clear hb2 heb hrow HK1 HW HB1 hen;go_upto_region 6 with fail
 obtain ⟨j0,j1,j2,j3,j4,j5⟩:=cN HB2.out;obtain ⟨g0,g1,g2,g3,g4,g5,g6,g7,g8⟩:=cells9 HW2.out.g;have b1:decide (v.x.tick≤tick)=false:=decide_eq_false (by have:=HT.out;omega);go_region
 have HK3:=wB (HK2.out.trans (Keep.drew (fun _=>False) w2) (Z:=fun _=>False) (fun _ _ h=>h) (fun _ _ h=>h));have HB3:=wB ((Keep.drew (fun _=>False) w2).old HB2.out id);have HW3:=wB (HW2.out.keep (Below.refl _ _).drew);have HRD3:=wB (HRD.out.keep (Keep.drew (fun _=>False) w2) (fun _ _ _=>id));clear j0 j1 j2 j3 j4 j5 g0 g1 g2 g3 g4 g5 g6 g7 g8 HK2 HB2 HW2 HRD b1;generalize w2.drew=w3 at *;obtain ⟨j0,j1,j2,j3,j4,j5⟩:=cN HB3.out;obtain ⟨z0,z1,z2,z3,hz⟩:∃ z0 z1 z2 z3,be4 (dA ([a0,a1,a2,a3]++bu v.x))=[z0,z1,z2,z3]:=⟨_,_,_,_,rfl⟩;have HZ:=wB hz;have HAGG:=wB (show (cellsOf ah (be4 (dA ([a0,a1,a2,a3]++bu v.x)))).toArray=#[.int .u8 z0,.int .u8 z1,.int .u8 z2,.int .u8 z3] from by rw [hz];rfl);have HZB:=wB (show ∀ u ∈ ([.int .u8 z0,.int .u8 z1,.int .u8 z2,.int .u8 z3]:List Value),u.oneCell'=true from by intro v hv;simp only [List.mem_cons,List.not_mem_nil,or_false] at hv;rcases hv with rfl | rfl | rfl | rfl <;> rfl);clear hz;go_wp2_with fail
 refine (jJ w3 a0 a1 a2 a3 (by rw [←HA.out];exact H.out.byt) (some ⟨eb,0,none⟩) en en (bu v.x) HEN.out.symm HRD3.out HBY.out (by have:=HR.out;have:=HEN.out;omega)).mono ?_;rintro e w4 ⟨pb,pc,rfl,hb4,hpb,hpc,hcells,hown⟩;rw [HAGG.out];have HK4:=wB (HK3.out.trans (Keep.of_below hb4 (wC _) (fun _=>False)) (Z:=fun _=>False) (fun _ _ h=>h) (fun _ _ h=>h));have HB4:=wB ((Keep.of_below hb4 (wC _) (fun _=>False)).old HB3.out id);have HW4:=wB (HW3.out.keep hb4);have HO4:=wB hown;have HPB:=wB (Nat.le_trans HK3.out.size hpb);clear j0 j1 j2 j3 j4 j5 hb4 hpb hpc hcells hown HK3 HB3 HW3 HRD3;have HT5:=wB (heap_alloc_new w4 (.cells #[.int .u8 z0,.int .u8 z1,.int .u8 z2,.int .u8 z3] 139));have HKA:=wB (Keep.alloc (fun _=>False) w4 (.cells #[.int .u8 z0,.int .u8 z1,.int .u8 z2,.int .u8 z3] 139));go_upto_region 9 with (first | ((with_reducible refine aj (o:=⟨none,.store 139 (.tmp 8) (.tmp 41),_,_,_,_⟩) ?_ 139 (.tmp 8) (.tmp 41) ?_ _ #[.int .u8 z0,.int .u8 z1,.int .u8 z2,.int .u8 z3] ?_ ?_ [.int .u8 z0,.int .u8 z1,.int .u8 z2,.int .u8 z3] ?_ ?_ ?_ HZB.out ?_);rfl;rfl;rfl;rfl;rfl;exact fH;rfl))
 have HK5:=wB (HK4.out.trans HKA.out (Z:=fun _=>False) (fun _ _ h=>h) (fun _ _ h=>h));have HB5:=wB (HKA.out.old HB4.out id);have HG5:=wB (HKA.out.old HW4.out.g id);have HO5:=wB (HO4.out.keep HKA.out (fun _ _=>id));obtain ⟨T,hT⟩:∃ T,w4.heap.size=T:=⟨_,rfl⟩;have HTL:=wB (show w.heap.size≤T∧H0<T from by rw [←hT];exact ⟨HK4.out.size,lt_of_block HW4.out.g⟩);rw [hT] at HT5;try rw [hT]
 clear hT HK4 HB4 HW4 HO4 HKA;generalize w4.alloc (.cells #[.int .u8 z0,.int .u8 z1,.int .u8 z2,.int .u8 z3] 139)=w5 at *;obtain ⟨j0,j1,j2,j3,j4,j5⟩:=cN HB5.out;obtain ⟨i5,hi,hz0,hz1,hz2⟩:=dF (show (Tryz.prog.info? 5).map (fun i=>(i.zero,i.size,i.bytes))=some (some (.int .u8 0),1,1) by kernel_rfl)
 have HOL:=wB (show Own w5 1 (.slice (some ⟨g,0,none⟩) l.length cap) l.length (cellsOf ah l) from by
  have:=H.out.own.keep HK5.out (fun _ _=>id);rwa [HSV.out] at this)
 have HPL:=wB (show (aC [a0,a1,a2,a3] (bu v.x)).length=8+en+4 from by rw [bi];have:=HEN.out;omega);have HPR:=wB (show RdC w5 (some ⟨pb,0,none⟩) (cellsOf ah (aC [a0,a1,a2,a3] (bu v.x))) from HO5.out.rdc);go_wp2_with (at_builtin;refine bE rfl (.tmp 46) (.tmp 47) 59 59 rfl 5 i5 (.int .u8 0) 1 1 Tryz.underlying59 hi hz0 hz1 hz2 rfl (.slice (some ⟨g,0,none⟩) l.length cap) l.length (cellsOf ah l) rfl HOL.out (.slice (some ⟨pb,0,none⟩) (8+en+4) pc) (8+en+4) (cellsOf ah (aC [a0,a1,a2,a3] (bu v.x))) rfl (Src.ofRd Tryz.underlying59 (some ⟨pb,0,none⟩) (8+en+4) pc (aC [a0,a1,a2,a3] (bu v.x)) HPL.out HPR.out) (.inl (by omega)) (by unfold maxLen;have:=HL.out;have:=HR.out;have:=HEN.out;omega) (by have:=HL.out;have:=HR.out;have:=HEN.out;omega) ?_)
 intro g6 c6 w6 ho6 hk6 hg6
 have HG6:=wB (show g6=g∨w.heap.size≤g6 from by
  rcases hg6 with h1 | h1
  · exact .inl (by cases h1;rfl)
  · exact .inr (Nat.le_trans HK5.out.size h1))
 have HK56:=wB (hk6.mono (Z:=fun k=>k=g) (fun k _ h=>by cases h;rfl));have HK6:=wB (HK5.out.trans HK56.out (Z:=fun k=>k=g) (fun _ _ h=>h.elim) (fun _ _ h=>h));have HB6:=wB (HK56.out.old HB5.out (by have:=HGJ.out;omega));have HGR6:=wB (HK56.out.old HG5.out (by have:=HGL.out;have:=HH.out;omega));have HT6:=wB (HK56.out.old HT5.out (by have:=HGL.out;have:=HTL.out;omega));have HO6:=wB ho6
 have HJ6:=wB (show H0≠J∧T≠J∧g6≠J from by
  have h1:=HJL.out;have h2:=HH.out;have h3:=HTL.out;have h4:=HG6.out;have h5:=HGJ.out;omega)
 clear ho6 hk6 hg6 hi hz0 hz1 hz2 i5 HOL HPL HPR HO5 HB5 HG5 HT5 hnil j0 j1 j2 j3 j4 j5;obtain ⟨j0,j1,j2,j3,j4,j5⟩:=cN HB6.out;have jf:=fun k=>frozen_of_row w6 J k _ _ HB6.out
 go_upto_region 10 with fail
 have HK67:=wB (aJ w6 J 0 (.slice (some ⟨g6,0,none⟩) (l.length+(8+en+4)) c6));have HB7:=wB (show (w6.setCell ⟨J,0,none⟩ (.slice (some ⟨g6,0,none⟩) (l.length+(8+en+4)) c6)).heap[J]?=some (.cells #[.slice (some ⟨g6,0,none⟩) (l.length+(8+en+4)) c6,.int .u8 a0,.int .u8 a1,.int .u8 a2,.int .u8 a3,.int .i64 tick] 151 (0,0)) from ae HB6.out 0 _);have HK7:=wB (HK6.out.trans HK67.out (Z:=fun k=>k=J∨k=g) (fun _ _ h=>.inr h) (fun _ _ h=>.inl h));have HGR7:=wB (HK67.out.old HGR6.out HJ6.out.1);have HT7:=wB (HK67.out.old HT6.out HJ6.out.2.1);have HO7:=wB (HO6.out.keep HK67.out (fun k hk e=>by have e1:g6=k:=(by cases hk;rfl);have e2:k=J:=e;exact HJ6.out.2.2 (e1.trans e2)));clear HB6 HGR6 HT6 HO6 HK6 HK67 HK56 HK5 j0 j1 j2 j3 j4 j5 jf;generalize w6.setCell ⟨J,0,none⟩ (.slice (some ⟨g6,0,none⟩) (l.length+(8+en+4)) c6)=w7 at *;obtain ⟨j0,j1,j2,j3,j4,j5⟩:=cN HB7.out;have jf:=fun k=>frozen_of_row w7 J k _ _ HB7.out
 have t0:w7.cell? ⟨T,0,none⟩=some (.int .u8 z0):=by rw [wG _ _ _ _ _ (0,0) HT7.out];rfl
 have t1:w7.cell? ⟨T,1,none⟩=some (.int .u8 z1):=by rw [wG _ _ _ _ _ (0,0) HT7.out];rfl
 have t2:w7.cell? ⟨T,2,none⟩=some (.int .u8 z2):=by rw [wG _ _ _ _ _ (0,0) HT7.out];rfl
 have t3:w7.cell? ⟨T,3,none⟩=some (.int .u8 z3):=by rw [wG _ _ _ _ _ (0,0) HT7.out];rfl
 have g0:w7.cell? ⟨H0,0,none⟩=some (.int .i64 v.x.tick):=by rw [wG _ _ _ _ _ (0,0) HGR7.out];rfl
 go_region
 have hk0:=qw w7 J (.int .u8 z0) (.int .u8 z1) (.int .u8 z2) (.int .u8 z3) (.int .i64 v.x.tick);have HK8:=wB (show Keep (fun k=>k=J) w7 _ from hk0.trans (Keep.drew (fun _=>False) _) (fun _ _ h=>h) (fun _ _ h=>h.elim))
 have HB8:=wB (show ((((((w7.setCell ⟨J,1,none⟩ (.int .u8 z0)).setCell ⟨J,2,none⟩ (.int .u8 z1)).setCell ⟨J,3,none⟩ (.int .u8 z2)).setCell ⟨J,4,none⟩ (.int .u8 z3)).setCell ⟨J,5,none⟩ (.int .i64 v.x.tick)).drew).heap[J]?=some (.cells #[.slice (some ⟨g6,0,none⟩) (l.length+(8+en+4)) c6,.int .u8 z0,.int .u8 z1,.int .u8 z2,.int .u8 z3,.int .i64 v.x.tick] 151 (0,0)) from
  ae (ae (ae (ae (ae HB7.out 1 _) 2 _) 3 _) 4 _) 5 _)
 clear hk0 j0 j1 j2 j3 j4 j5 jf t0 t1 t2 t3 g0;generalize (((((w7.setCell ⟨J,1,none⟩ (.int .u8 z0)).setCell ⟨J,2,none⟩ (.int .u8 z1)).setCell ⟨J,3,none⟩ (.int .u8 z2)).setCell ⟨J,4,none⟩ (.int .u8 z3)).setCell ⟨J,5,none⟩ (.int .i64 v.x.tick)).drew=w8 at *
 have HE:=wB (show lE w J sv l a v.x w8 from by
  have hJ:=HJ6.out;have hen:=HEN.out;have hown:∀ k,(Value.slice (some ⟨g6,0,none⟩) (l.length+(8+en+4)) c6).ownBlock=some k→g6=k:=fun k hk=>by cases hk;rfl
  refine ⟨.slice (some ⟨g6,0,none⟩) (l.length+(8+en+4)) c6,⟨⟨z0,z1,z2,z3,?_,HB8.out⟩,?_,?_,?_,?_⟩,?_,fun k hk=>?_⟩
  · unfold fg
    rw [HA.out,HZ.out]
  · unfold fg
    exact jg _ (fd _)
  · rw [List.length_append,bi,show (bu v.x).length+12=8+en+4 by omega,HA.out,show cellsOf ah (l++aC [a0,a1,a2,a3] (bu v.x))=cellsOf ah l++cellsOf ah (aC [a0,a1,a2,a3] (bu v.x)) from by simp [cellsOf]]
    exact HO7.out.keep HK8.out (fun k hk e=>hJ.2.2 ((hown k hk).trans e))
  · intro e
    exact hJ.2.2 (hown J e)
  · rw [List.length_append,bi]
    omega
  · refine HK7.out.trans HK8.out (fun k _ h=>?_) (fun _ _ h=>.inl h)
    rcases h with h | h
    · exact .inl h
    · right
      rw [HSV.out,h];rfl
  · have e:=hown k hk
    rcases HG6.out with h | h
    · left
      rw [HSV.out,←e,h];rfl
    · right
      omega)
 go_wp2_with fail
 go_ret
 exact ⟨rfl,HE.out⟩
def lG (w:World) (l:List Int) (e:Ending) (w':World):Prop:=
 ∃ g cap,e = .returned (.slice (some ⟨g,0,none⟩) l.length cap)∧w.heap.size≤g∧l.length≤cap∧cap≤maxLen∧Row w' g cap 1 (cellsOf ah l)∧Below w.heap.size w w'
theorem lH (w:World) (J:Nat) (sv:Value) (l a:List Int) (tick:Int) (h:lF w J sv l a tick) (hl:l.length≤2000000) :
 Calls Tryz.prog 36 #[.pointer (some ⟨J,0,none⟩)] w (lG w l):=by
 have H:=wB h;have HL:=wB hl;obtain ⟨g,cap,hsv,hgJ,hgl⟩:=h.shape;have HSV:=wB hsv;obtain ⟨a0,a1,a2,a3,ha,hbox⟩:=h.box;rw [hsv] at hbox;obtain ⟨j0,j1,j2,j3,j4,j5⟩:=cN hbox
 have HRD:=wB (show RdC w (some ⟨g,0,none⟩) (cellsOf ah l) from by
  have:=h.own;rw [hsv] at this;exact this.rdc)
 have HP:=wB h.pos;obtain ⟨n,hn⟩:∃ n,l.length=n:=⟨_,rfl⟩;have HN:=wB hn;rw [hn] at j0;rw [hn] at HL HP;obtain ⟨i5,hi,hz0,hz1,hz2⟩:=dF (show (Tryz.prog.info? 5).map (fun i=>(i.zero,i.size,i.bytes))=some (some (.int .u8 0),1,1) by kernel_rfl);clear h hl hsv hbox ha j1 j2 j3 j4 j5 hn hgJ hgl;go_enter Tryz.func36,Tryz.ntmps36
 go_wp2_with (at_builtin;refine bE rfl (.const (.slice none 0 0)) (.tmp 8) 59 59 rfl 5 i5 (.int .u8 0) 1 1 Tryz.underlying59 hi hz0 hz1 hz2 rfl (.slice none 0 0) 0 [] rfl (Own.nil _ 1) (.slice (some ⟨g,0,none⟩) n cap) n (cellsOf ah l) rfl (Src.ofRd Tryz.underlying59 (some ⟨g,0,none⟩) n cap l HN.out HRD.out) (.inl (by have:=HP.out;omega)) (by unfold maxLen;have:=HL.out;omega) (by have:=HL.out;omega) ?_)
 intro g2 c2 w2 ho2 hk2 hg2
 have HE:=wB (show lG w l (.returned (.slice (some ⟨g2,0,none⟩) n c2)) w2 from by
  have hg:=hg2.resolve_left (fun e=>by cases e);obtain ⟨_,h1 | ⟨g3,c3,h1,h2,h3,h4⟩⟩:=ho2
  · cases h1.1
  · cases h1
    refine ⟨_,_,by rw [HN.out],hg,by rw [HN.out];simpa using h2,h3,by simpa using h4,hk2.below (wC _) (fun i hi e=>by cases e)⟩)
 clear hg2 ho2 hk2 hi hz0 hz1 hz2 i5 j0;go_wp2_with fail
 go_ret
 exact HE.out
end Go.Proofs.YtcaicgipibcicaaGreat
