/- journal.New: the configuration's piece. -/
import Derived.Test.YtcaicgipibcicaaGreatQBegins
import Derived.Test.YtcaicgipibcicaaGreatQSumA
import Derived.Test.YtcaicgipibcicaaGreatQAuLog
set_option maxRecDepth 100000
set_option maxHeartbeats 16000000
set_option linter.unusedSimpArgs false
set_option linter.unusedVariables false
open Go renaming heap_alloc_new→wF
open Go.Lib renaming hid→wB
open List renaming mem_cons→xg
open Nat renaming le_refl→wC
namespace Go.Proofs.YtcaicgipibcicaaGreat
open Go.RowKit Go.Sort
structure lF (w:World) (J:Nat) (sv:Value) (l a:List Int) (tick:Int):Prop where
 box:∃ a0 a1 a2 a3,a=[a0,a1,a2,a3]∧w.heap[J]?=some (.cells #[sv,.int .u8 a0,.int .u8 a1,.int .u8 a2,.int .u8 a3,.int .i64 tick] 151 (0,0))
 byt:Byt a
 own:Own w 1 sv l.length (cellsOf ah l)
 ne:sv.ownBlock≠some J
 pos:0<l.length
theorem lF.keep {w w':World} {J:Nat} {sv:Value} {l a:List Int} {tick:Int} {X:Nat→Prop} (h:lF w J sv l a tick) (hk:Keep X w w') (hJ:¬ X J) (hs:∀ g,sv.ownBlock=some g→¬ X g):lF w' J sv l a tick:=by
 obtain ⟨a0,a1,a2,a3,e,hb⟩:=h.box;exact ⟨⟨a0,a1,a2,a3,e,hk.old hb hJ⟩,h.byt,h.own.keep hk hs,h.ne,h.pos⟩
def oR (w:World) (c:ag) (e:Ending) (w':World):Prop:=
 ∃ J sv,e = .returned (.tuple #[.pointer (some ⟨J,0,none⟩),.int .i64 0])∧Below w.heap.size w w'∧w.heap.size≤J∧(∀ g,sv.ownBlock=some g→w.heap.size≤g)∧lF w' J sv (aC (be4 0) (bJ c)) (fg (be4 0) (bJ c)) 0
theorem gE:∀ n:Nat,Byt (aO n):=by
 intro n
 induction n using Nat.strongRecOn with
 | _ n ih=>
   by_cases h:n≤127
   · rw [dh h]
     intro x hx;simp only [xg,List.not_mem_nil,or_false] at hx;omega
   · rw [fJ h,or128]
     intro x hx;rcases xg.1 hx with rfl | hx
     · omega
     · exact ih (n / 128) (by omega) x hx
theorem sH (c:ag):Byt (bJ c):=((((gE _).app (gE _)).app (gE _)).app (gE _)).app (gE _)
theorem sI (c:ag):0<(bJ c).length:=by
 have:=oA c.q.toNat
 simp only [bJ,List.length_append];omega
theorem uh {c:ag} (h:∀ x ∈ ep c,ar x∧0≤x):(bJ c).length≤50:=by
 rw [ou];have:=c8 (f:=li) (m:=10) (L:=ep c) (fun y hy=>ov (h y hy).1);have e:(ep c).length=5:=rfl;omega
theorem mL {c:ag} (h:aG c=true):∀ x ∈ ep c,ar x∧0≤x:=by
 intro x hx;simp only [aG,bw,Bool.and_eq_true,decide_eq_true_eq] at h;simp only [ep,xg,List.not_mem_nil,or_false] at hx;unfold ar;rcases hx with rfl | rfl | rfl | rfl | rfl <;> omega
theorem mM (w:World) (J:Nat) (a b c d e:Value):Keep (fun k=>k=J) w (((((w.setCell ⟨J,0,none⟩ a).setCell ⟨J,1,none⟩ b).setCell ⟨J,2,none⟩ c).setCell ⟨J,3,none⟩ d).setCell ⟨J,4,none⟩ e):=
 ((((aJ w J 0 a).trans (aJ _ J 1 b) (fun _ _ h=>h) (fun _ _ h=>h)).trans (aJ _ J 2 c) (fun _ _ h=>h) (fun _ _ h=>h)).trans (aJ _ J 3 d) (fun _ _ h=>h) (fun _ _ h=>h)).trans (aJ _ J 4 e) (fun _ _ h=>h) (fun _ _ h=>h)
theorem oS (w:World) (c:ag) (hc:aA c=0):Calls Tryz.prog 34 #[.agg #[.int .i64 c.q,.int .i64 c.d,.int .i64 c.w,.int .i64 c.ttl,.int .i64 c.b]] w (oR w c):=by
 have HC:=wB hc;have HP0:=wB (wF w (.cells #[.int .i64 c.q,.int .i64 c.d,.int .i64 c.w,.int .i64 c.ttl,.int .i64 c.b] 23));have HB0:=wB ((Below.refl w.heap.size w).alloc (wC _) (.cells #[.int .i64 c.q,.int .i64 c.d,.int .i64 c.w,.int .i64 c.ttl,.int .i64 c.b] 23));go_enter Tryz.func34,Tryz.ntmps34
 go_upto_region 1 with fail
 generalize w.alloc (.cells #[.int .i64 c.q,.int .i64 c.d,.int .i64 c.w,.int .i64 c.ttl,.int .i64 c.b] 23)=W at *;obtain ⟨H0,hH0⟩:∃ H0,w.heap.size=H0:=⟨_,rfl⟩;have HH:=wB hH0;rw [hH0] at HP0;rw [hH0];clear hH0;obtain ⟨g0,g1,g2,g3,g4⟩:=aK HP0.out;go_wp2_with fail
 refine (dN W c).mono ?_;rintro e w1 ⟨rfl,hb1⟩;rw [HC.out];have HB1:=wB (Below.next HB0.out hb1);have HP1:=wB ((Keep.of_below hb1 (wC _) (fun _=>False)).old HP0.out id);clear g0 g1 g2 g3 g4 hb1 hc;go_wp2_with fail
 refine (fh w1).mono ?_;rintro e w2 ⟨rfl,hw2⟩;have HBW:=wB (show w2.heap[w1.heap.size]?=some (.cells #[.slice none 0 0,.bool true] 193 (0,0)) from by rw [hw2];exact wF w1 _);have HK2:=wB (show Keep (fun _=>False) w1 w2 from by rw [hw2];exact Keep.alloc _ _ _);have HS2:=wB (show w2.heap.size=w1.heap.size+1 by rw [hw2];simp);have HRB:=wB (lt_of_block HP1.out);clear hw2;generalize w1.heap.size=WB at *
 have HG:=wB (show Gt w w2.heap.size WB (.slice none 0 0) [] (w2.alloc (.cells #[.pointer (some ⟨WB,0,none⟩),.pointer none,.int .i64 0] 147)) from by
  have hb:Below w.heap.size w w2:=HB1.out.trans (HK2.out.below HB1.out.size (fun _ _=>id));have hs:=HS2.out;have hr:=HRB.out;have hh:=HH.out;exact ⟨wF w2 _,⟨(Keep.alloc (fun _=>False) w2 _).old HBW.out id,by simpa [cellsOf] using Own.nil (w2.alloc (.cells #[.pointer (some ⟨WB,0,none⟩),.pointer none,.int .i64 0] 147)) 1,by simp [Value.ownBlock]⟩,by omega,by simp [Value.ownBlock],hb.alloc hb.size _,by omega,fun g hg=>by simp [Value.ownBlock] at hg⟩)
 have HP3:=wB ((Keep.alloc (fun _=>False) w2 (.cells #[.pointer (some ⟨WB,0,none⟩),.pointer none,.int .i64 0] 147)).old (HK2.out.old HP1.out id) id);have HF:=wB (show Free (.slice none 0 0) WB H0 from ⟨by have:=HRB.out;omega,by simp [Value.ownBlock]⟩);go_wp2_with fail
 generalize w2.alloc (.cells #[.pointer (some ⟨WB,0,none⟩),.pointer none,.int .i64 0] 147)=w3 at *;generalize w2.heap.size=GB at *;refine (ss w w3 GB WB (.slice none 0 0) [] HG.out H0 c HP3.out HF.out (mL (iz HC.out)) (by simp)).mono ?_;rintro e w4 ⟨rfl,sv',hg4,_,_⟩;rw [List.nil_append] at hg4;have HG4:=wB hg4;clear hg4 HG HP3 HP1 HBW HK2;go_upto_region 7 with fail
 have HB5:=wB (Below.next HG4.out.below (ck w4 (.cells #[.slice none 0 0,.int .u8 0,.int .u8 0,.int .u8 0,.int .u8 0,.int .i64 0] 151)));have HJ5:=wB (wF w4 (.cells #[.slice none 0 0,.int .u8 0,.int .u8 0,.int .u8 0,.int .u8 0,.int .i64 0] 151));have HG5:=wB (HG4.out.alloc (.cells #[.slice none 0 0,.int .u8 0,.int .u8 0,.int .u8 0,.int .u8 0,.int .i64 0] 151));have HGB:=wB (lt_of_block HG4.out.gate);have HJW:=wB HG4.out.below.size;obtain ⟨J,hJ⟩:∃ J,w4.heap.size=J:=⟨_,rfl⟩;rw [hJ] at HJ5 HGB HJW;try rw [hJ]
 clear hJ;generalize w4.alloc (.cells #[.slice none 0 0,.int .u8 0,.int .u8 0,.int .u8 0,.int .u8 0,.int .i64 0] 151)=w5 at *;obtain ⟨z0,z1,z2,z3,hz⟩:∃ z0 z1 z2 z3,be4 (dA ([0,0,0,0]++bJ c))=[z0,z1,z2,z3]:=⟨_,_,_,_,rfl⟩;have HZ:=wB hz;have HAGG:=wB (show (cellsOf ah (be4 (dA ([0,0,0,0]++bJ c)))).toArray=#[.int .u8 z0,.int .u8 z1,.int .u8 z2,.int .u8 z3] from by rw [hz];rfl);have HNP:=wB (sI c);have HNL:=wB (uh (mL (iz HC.out)));obtain ⟨n,hn⟩:∃ n,(bJ c).length=n:=⟨_,rfl⟩;have HN:=wB hn;rw [hn] at HNP HNL;clear hz hn;have HGB5:=wB HG5.out.gate;obtain ⟨q0,q1,q2,qf⟩:=cells3 HGB5.out;obtain ⟨j0,j1,j2,j3,j4,j5⟩:=cN HJ5.out;have jf:=fun k=>frozen_of_row w5 J k _ _ HJ5.out
 go_region_with (first
  | (go_at_call 79;refine (iC _ WB sv' (bJ c) n (HG5.out.drew).w1 HN.out HNP.out (by have:=HNL.out;omega)).mono ?_;rintro e w6 ⟨rfl,hb6,hrow6⟩;have HK6:=wB ((Keep.drew (fun _=>False) w5).trans (Keep.of_below hb6 (wC _) (fun _=>False)) (Z:=fun _=>False) (fun _ _ h=>h) (fun _ _ h=>h));have HR6:=wB hrow6;obtain ⟨j0,j1,j2,j3,j4,j5⟩:=cN (HK6.out.old HJ5.out id);have jf:=fun k=>frozen_of_row w6 J k _ _ (HK6.out.old HJ5.out id);obtain ⟨q0,q1,q2,qf⟩:=cells3 (HK6.out.old HGB5.out id);clear hb6 hrow6)
  | (go_at_call 78;refine (jJ w6 0 0 0 0 (by intro x hx;simp at hx;omega) (some ⟨w5.heap.size,0,none⟩) n n (bJ c) HN.out (.inr ⟨_,0,rfl,fun j u hu=>by rw [Nat.zero_add];exact (cell_of_row _ _ _ _ _ (0,0) HR6.out).trans (by simpa using hu)⟩) (sH c) (by have:=HNL.out;omega)).mono ?_;rintro e w7 ⟨pb,pc,rfl,hb7,hpb,hpc,hcells,hown⟩;rw [HAGG.out];have HK7:=wB (HK6.out.trans (Keep.of_below hb7 (wC _) (fun _=>False)) (Z:=fun _=>False) (fun _ _ h=>h) (fun _ _ h=>h));have HO7:=wB hown;have HPB:=wB (Nat.le_trans HK6.out.size hpb);obtain ⟨j0,j1,j2,j3,j4,j5⟩:=cN (HK7.out.old HJ5.out id);have jf:=fun k=>frozen_of_row w7 J k _ _ (HK7.out.old HJ5.out id);clear hb7 hpb hpc hcells hown))
 all_goals
  have hb8:=ae (ae (ae (ae (ae (HK7.out.old HJ5.out id) 0 (.slice (some ⟨pb,0,none⟩) (8+n+4) pc)) 1 (.int .u8 z0)) 2 (.int .u8 z1)) 3 (.int .u8 z2)) 4 (.int .u8 z3);have HK8:=wB (mM w7 J (.slice (some ⟨pb,0,none⟩) (8+n+4) pc) (.int .u8 z0) (.int .u8 z1) (.int .u8 z2) (.int .u8 z3));have HB8:=wB hb8;clear hb8 j0 j1 j2 j3 j4 j5 jf q0 q1 q2 qf;generalize ((((w7.setCell ⟨J,0,none⟩ (.slice (some ⟨pb,0,none⟩) (8+n+4) pc)).setCell ⟨J,1,none⟩ (.int .u8 z0)).setCell ⟨J,2,none⟩ (.int .u8 z1)).setCell ⟨J,3,none⟩ (.int .u8 z2)).setCell ⟨J,4,none⟩ (.int .u8 z3)=w8 at *
  have HE:=wB (show oR w c (.returned (.tuple #[.pointer (some ⟨J,0,none⟩),.int .i64 0])) w8 from by
   have e0:be4 0=[0,0,0,0]:=by simp [be4]
   have hj:=HJW.out;have hlt:=lt_of_block HJ5.out;have hpb:=HPB.out;have h5:=HB5.out.size;refine ⟨J,.slice (some ⟨pb,0,none⟩) (8+n+4) pc,rfl,?_,hj,fun g hg=>?_,⟨z0,z1,z2,z3,?_,HB8.out⟩,?_,?_,?_,?_⟩
   · have h7:=HB5.out.trans (HK7.out.below h5 (fun _ _=>id))
     exact h7.trans (HK8.out.below h7.size (fun i hi e=>by omega))
   · have e:pb=g:=by cases hg;rfl
     omega
   · unfold fg
     rw [e0,HZ.out]
   · unfold fg
     exact jg _ (fd _)
   · rw [bi,HN.out,e0,show n+12=8+n+4 by omega]
     exact HO7.out.keep HK8.out (fun g hg e=>by have e1:pb=g:=(by cases hg;rfl);have e2:g=J:=e;omega)
   · intro e
     have e1:pb=J:=by cases e;rfl
     omega
   · rw [bi]
     omega)
  go_wp2_with fail
  go_ret2
  exact HE.out
end Go.Proofs.YtcaicgipibcicaaGreat
