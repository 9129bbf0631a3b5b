/- The gate reads lists. Printed by wip/genrdl.py. -/
import Derived.Test.YtcaicgipibcicaaGreatQRdL
set_option maxRecDepth 100000
set_option maxHeartbeats 16000000
set_option linter.unusedSimpArgs false
set_option linter.unusedVariables false
open Go renaming bodyPost_end→wR,cell_of_row→wG,heap_alloc_new→wF,lt_of_block→wJ
open Go.Lib renaming hid→wB
open Go.RowKit.Below renaming refl→wI
open Go.World renaming block_lt_of_cell?→wK,rangeAt_setCells_same→wT
open List renaming all_eq_true→xE,setIfInBounds_toArray→wU,set_cons_succ→xj,set_cons_zero→xi,take_succ_cons→xS,take_zero→xF
open Nat renaming add_zero→xB,le_refl→wC,le_trans→xc
namespace Go.Proofs.YtcaicgipibcicaaGreat
open Go.RowKit Go.Sort
theorem nA:∀ u ∈ ([.int .u8 0,.int .u8 0,.int .u8 0,.int .u8 0,.int .u8 0,.int .u8 0,.int .u8 0,.int .u8 0,.int .i16 0,.int .i16 0,.int .i16 0,.int .i16 0,.int .u8 0,.int .u8 0,.int .i64 0,.int .i64 0,.int .i64 0,.int .i64 0]:List Value),u.oneCell'=true:=xE.1 (rfl:([.int .u8 0,.int .u8 0,.int .u8 0,.int .u8 0,.int .u8 0,.int .u8 0,.int .u8 0,.int .u8 0,.int .i16 0,.int .i16 0,.int .i16 0,.int .i16 0,.int .u8 0,.int .u8 0,.int .i64 0,.int .i64 0,.int .i64 0,.int .i64 0]:List Value).all (·.oneCell')=true)
theorem uJ (w:World) (g R G L a:Nat) (s:Option (List Int)) (h:GtR w g R G s) (hc:w.cell? ⟨L,a,none⟩=some (.slice none 0 0)) (hth:w.there L a 1) (hL:L≠g∧L≠R∧L≠G) (most:Nat) (hm:most≤4096) :
 Calls Tryz.prog 163 #[.pointer (some ⟨g,0,none⟩),.pointer (some ⟨L,a,none⟩),.int .i64 (most:Int),.func (.func 164) #[.pointer (some ⟨g,0,none⟩)] #[]] w fun e w'=>e = .returned (.tuple #[])∧kv w g R G L a s most fR aa.cells aa.Ok 18 w':=by
 have HLT:=wB h.lt;have HLL:=wB (show L<w.heap.size from wK w ⟨L,a,none⟩ hc);have HL:=wB hL;have HTH:=wB hth;have HC:=wB hc;have HW:=wB h;have HNB:=wB (wF w (.cells #[.int .i64 0] 3));have HBW:=wB ((wI w.heap.size w).alloc (wC _) (.cells #[.int .i64 0] 3));clear h hth hL;go_enter Tryz.func163,Tryz.ntmps163
 go_wp2_with fail
 generalize w.alloc (.cells #[.int .i64 0] 3)=W1 at *;have HG1:=wB (HW.out.below HBW.out);have HNL:=wB (wJ HNB.out);refine (dy W1 g R G w.heap.size 0 s HG1.out most (by omega) 0 (by rw [wG _ _ _ _ _ (0,0) HNB.out];rfl) fQ (aP HNB.out (wC 1)) (by have h1:=HLT.out;omega)).mono ?_;rintro e w2 ⟨rfl,nv,s1,hnv,hg1,hst1,hpt1,hra1⟩;have HA:=wB (show e9 w g R G L w.heap.size (some nv) from ⟨⟨HLT.out.1,HLT.out.2.1,HLT.out.2.2,HLL.out⟩,HL.out,Nat.le_succ _,fun _ _=>wC _⟩);have HG2:=wB hg1;have HST1:=wB hst1;have HNC:=wB (show w2.cell? ⟨w.heap.size,0,none⟩=some (.int .i64 nv) from hra1 0 _ rfl);have HPT1:=wB hpt1;have HNV:=wB hnv;have HLC:=wB (hpt1.keep.cell ((Keep.of_below HBW.out (wC _) (fun _=>False)).cell HC.out id) (by have h1:=HL.out;have h2:=HLL.out;show ¬ (L=g∨L=R∨L=w.heap.size);omega));have HLF:=wB (av (eU HTH.out HBW.out) hpt1.keep (by have h1:=HL.out;have h2:=HLL.out;show ¬ (L=g∨L=R∨L=w.heap.size);omega))
 have HP2:=wB (show aq w g R L a 1 w2 from by
  have h1:=HL.out;have h2:=HLL.out;have hk:=Keep.of_below HBW.out (wC _) (fun _=>False);exact ⟨hk.trans hpt1.keep (fun _ _ h=>h.elim) (fun i hi he=>by rcases he with e | e | e;exact .inl e;exact .inr (.inl e);omega),fun q hq v hv=>hpt1.keep.cell (hk.cell hv id) (by show ¬ (L=g∨L=R∨L=w.heap.size);omega),fun q m hm=>av (av hm hk id) hpt1.keep (by show ¬ (L=g∨L=R∨L=w.heap.size);omega)⟩)
 have HIN:=wB (nz (by omega) hst1 (fun l hl=>by subst hl;exact HG1.out.byt.1));have HF0:=wB (show Far s1 nv 0 from by cases hs:s1 with | none=>exact .inr ⟨rfl,rfl⟩ | some l=>exact .inl ⟨l,rfl,by have:=(HIN.out (by rw [hs];simp)).1;omega⟩);clear hnv hg1 hst1 hpt1 hra1 hc;obtain ⟨bad2,s2',hb2,hr2,hn2,hG2,hs2⟩:=HG2.out;obtain ⟨g0,g1,g2,gf⟩:=cells3 hb2;have lc:=HLC.out;have lf:w2.frozen? ⟨L,a,none⟩=false:=by have:=(HLF.out 0 (by omega)).2;rwa [xB] at this
 have hll2:=wK w2 _ lc;have hLg:¬ L=g:=HL.out.1;have HK3:=wB (aJ w2 L a (.slice none 0 0))
 have H0:=wB (show cX w g R G L a w.heap.size s1 fR aa.cells aa.Ok 18 (some nv) 0 [] s1 (.slice none 0 0) (w2.setCell ⟨L,a,none⟩ (.slice none 0 0)) from
  ⟨rfl,(fun x hx=>by cases hx),HG2.out.keep HK3.out (fun e=>HL.out.1 e.symm) (fun e=>HL.out.2.1 e.symm) (fun e=>HL.out.2.2 e.symm),Step.rep0 _ _,HP2.out.trans (aq.set w2 g R L a [.slice none 0 0]),by have:=wT w2 L a [.slice none 0 0] HLF.out 0 _ rfl;rwa [xB] at this,⟨rfl,.inl ⟨rfl,rfl⟩⟩,(fun b hb=>by cases hb),fun v hv=>by cases hv;exact HK3.out.cell HNC.out (by have:=HLL.out;show ¬ w.heap.size=L;omega)⟩)
 clear hb2 hr2 hn2 hG2 hs2;go_wp2_with fail
 clear g0 g1 g2 gf lc lf hll2;generalize w2.setCell ⟨L,a,none⟩ (.slice none 0 0)=W3 at *;go_loopw [9] (fun i wr=>Hid (∃ (j:Nat) (xs:List aa) (sj:Option (List Int)) (sv:Value),i = .int .i64 j∧Far s1 nv j∧cX w g R G L a w.heap.size s1 fR aa.cells aa.Ok 18 (some nv) j xs sj sv wr)) (fun i _=>nv.toNat - (intOf i).toNat)
 case atStart=>exact wB ⟨0,[],s1,_,rfl,HF0.out,H0.out⟩
 case round=>
  clear H0;obtain ⟨j,xs,sj,sv,rfl,hj,hr⟩:=hrel.out;clear hrel;have HR:=wB hr;have HJ:=wB hj;clear hr hj;have n0:=HR.out.num nv rfl;by_cases hlt:(j:Int)<nv
  · have b1:decide ((j:Int)<nv)=true:=decide_eq_true hlt
    have HLT2:=wB hlt;clear hlt;go_wp2_with fail
    refine (c7 wr g R G sj HR.out.gate).mono ?_;rintro e w4 ⟨rfl,hg4,hk4⟩;have HR4:=wB (HR.out.gated HA.out hg4 hk4);clear hg4 hk4 n0;cases sj with
    | none=>
      have HE:=wB (gI HST1.out HIN.out HJ.out HR4.out (wC _) (.inr rfl));go_wp2_with fail
      exact wR (v:=.tuple #[]) (by simp [results,Tryz.results163,go_sem]) rfl ⟨rfl,HE.out⟩
    | some lj=>
      have HS1:=wB (show ∃ l,s1=some l∧(j:Int)≤nv from by
       rcases HJ.out with h | ⟨h,_⟩
       · exact h
       · have:=HR.out.step.1
         rw [h] at this;cases this)
      have HB4:=wB (show j<4096 from by
       obtain ⟨l,hl,_⟩:=HS1.out;have h1:=(HIN.out (by rw [hl];simp)).2;have h2:=HLT2.out;omega)
      obtain ⟨bad4,s4',hb4,hr4,hn4,hG4,hs4⟩:=HR4.out.gate;obtain ⟨g0,g1,g2,gf⟩:=cells3 hb4;clear hb4 hr4 hn4 hG4 hs4;go_upto_region 9 with fail
      clear g0 g1 g2 gf;obtain ⟨E,hE⟩:∃ E,w4.heap.size=E:=⟨_,rfl⟩;have HEN:=wB hE;have HZE:=wB (wF w4 (.cells #[.int .u8 0,.int .u8 0,.int .u8 0,.int .u8 0,.int .u8 0,.int .u8 0,.int .u8 0,.int .u8 0,.int .i16 0,.int .i16 0,.int .i16 0,.int .i16 0,.int .u8 0,.int .u8 0,.int .i64 0,.int .i64 0,.int .i64 0,.int .i64 0] 79));have HRE:=wB (HR4.out.below ((wI w4.heap.size w4).alloc (wC _) (.cells #[.int .u8 0,.int .u8 0,.int .u8 0,.int .u8 0,.int .u8 0,.int .u8 0,.int .u8 0,.int .u8 0,.int .i16 0,.int .i16 0,.int .i16 0,.int .i16 0,.int .u8 0,.int .u8 0,.int .i64 0,.int .i64 0,.int .i64 0,.int .i64 0] 79)));have HOL:=wB (fun (b:Nat) (hb:sv.ownBlock=some b)=>show b<w4.heap.size from HR4.out.own.lt b hb);rw [hE] at HZE HOL;try rw [hE]
      clear hE;generalize w4.alloc (.cells #[.int .u8 0,.int .u8 0,.int .u8 0,.int .u8 0,.int .u8 0,.int .u8 0,.int .u8 0,.int .u8 0,.int .i16 0,.int .i16 0,.int .i16 0,.int .i16 0,.int .u8 0,.int .u8 0,.int .i64 0,.int .i64 0,.int .i64 0,.int .i64 0] 79)=WE at *;have HZC:=wB (fun (w':World) (k:Keep (fun k=>sv.ownBlock=some k) WE w') (i:Nat) (u:Value) (hu:([.int .u8 0,.int .u8 0,.int .u8 0,.int .u8 0,.int .u8 0,.int .u8 0,.int .u8 0,.int .u8 0,.int .i16 0,.int .i16 0,.int .i16 0,.int .i16 0,.int .u8 0,.int .u8 0,.int .i64 0,.int .i64 0,.int .i64 0,.int .i64 0]:List Value)[i]?=some u)=>show w'.cell? ⟨E,0+i,none⟩=some u from k.cell (bf HZE.out 18 (show ([.int .u8 0,.int .u8 0,.int .u8 0,.int .u8 0,.int .u8 0,.int .u8 0,.int .u8 0,.int .u8 0,.int .i16 0,.int .i16 0,.int .i16 0,.int .i16 0,.int .u8 0,.int .u8 0,.int .i64 0,.int .i64 0,.int .i64 0,.int .i64 0]:List Value)=(#[.int .u8 0,.int .u8 0,.int .u8 0,.int .u8 0,.int .u8 0,.int .u8 0,.int .u8 0,.int .u8 0,.int .i16 0,.int .i16 0,.int .i16 0,.int .i16 0,.int .u8 0,.int .u8 0,.int .i64 0,.int .i64 0,.int .i64 0,.int .i64 0]:Array Value).toList.take 18 from rfl) i u hu) (fun e=>by have:=HOL.out E e;omega));have HNO:=wB (show ¬ sv.ownBlock=some L from fun e=>by have h1:=HRE.out.new L e;have h2:=HLL.out;omega);have HSK:=wB (fun (w':World) (k:Keep (fun k=>sv.ownBlock=some k) WE w')=>show w'.cell? ⟨L,a,none⟩=some sv∧∀ (i:Nat) (u:Value),([.int .u8 0,.int .u8 0,.int .u8 0,.int .u8 0,.int .u8 0,.int .u8 0,.int .u8 0,.int .u8 0,.int .i16 0,.int .i16 0,.int .i16 0,.int .i16 0,.int .u8 0,.int .u8 0,.int .i64 0,.int .i64 0,.int .i64 0,.int .i64 0]:List Value)[i]?=some u→w'.cell? ⟨E,0+i,none⟩=some u from ⟨k.cell HRE.out.cell HNO.out,HZC.out w' k⟩);obtain ⟨i5,hi,hz0,hz1,hz2⟩:=dF mt;refine c9 5 2 (fun w'=>w'.cell? ⟨L,a,none⟩=some sv∧∀ (i:Nat) (u:Value),([.int .u8 0,.int .u8 0,.int .u8 0,.int .u8 0,.int .u8 0,.int .u8 0,.int .u8 0,.int .u8 0,.int .i16 0,.int .i16 0,.int .i16 0,.int .i16 0,.int .u8 0,.int .u8 0,.int .i64 0,.int .i64 0,.int .i64 0,.int .i64 0]:List Value)[i]?=some u→w'.cell? ⟨E,0+i,none⟩=some u) (by kernel_rfl) (by kernel_rfl) (fun _ _ _ _ _ h=>h) (HSK.out _ (Keep.drew _ _)) ?_;simp only [xS,xF,List.drop_succ_cons,List.drop_zero]
      iterate 4 (
       refine dv (v:=?_) (Or.inl ⟨by rfl,?_⟩) ?_
       rotate_left
       · intro w' hSw
         have hSx:=hSw.1;clear hSw;try dsimp only at hSx
         go_simp
         try with_reducible rfl
       try simp only [Act.put,wU,xi,xj])
      refine fN (o:=⟨some 44,.load 79 (.tmp 10),_,_,_,_⟩) rfl 79 (.tmp 10) rfl E 0 rfl [.int .u8 0,.int .u8 0,.int .u8 0,.int .u8 0,.int .u8 0,.int .u8 0,.int .u8 0,.int .u8 0,.int .i16 0,.int .i16 0,.int .i16 0,.int .i16 0,.int .u8 0,.int .u8 0,.int .i64 0,.int .i64 0,.int .i64 0,.int .i64 0] #[.int .u8 0,.int .u8 0,.int .u8 0,.int .u8 0,.int .u8 0,.int .u8 0,.int .u8 0,.int .u8 0,.int .i16 0,.int .i16 0,.int .i16 0,.int .i16 0,.int .u8 0,.int .u8 0,.int .i64 0,.int .i64 0,.int .i64 0,.int .i64 0] rfl _ (fun w' hSw=>hSw.2) Tryz.underlying79 rfl bd ?_;try simp only [Act.put,wU,xi,xj]
      refine d7 ?_;simp only [dY];refine cF rfl (fun K hK=>?_);go_simp
      refine hK _ _ ⟨HSK.out _ (Keep.of_below (((wI WE.heap.size WE).alloc (wC _) _).drew) (wC _) _),?_⟩;clear hK K;refine cF rfl (fun K hK=>?_);refine bB rfl (.tmp 43) (.tmp 45) 24 24 rfl 79 i5 _ 18 56 Tryz.underlying24 hi hz0 hz1 hz2 rfl sv j (cellsOf aa.cells xs) (by simp [Act.eval]) (HRE.out.own.keep (Keep.of_below (((wI WE.heap.size WE).alloc (wC _) _).drew) (wC _) (fun _=>False)) (fun _ _=>id)) (.slice (some ⟨WE.heap.size,0,none⟩) 1 1) 1 [.int .u8 0,.int .u8 0,.int .u8 0,.int .u8 0,.int .u8 0,.int .u8 0,.int .u8 0,.int .u8 0,.int .i16 0,.int .i16 0,.int .i16 0,.int .i16 0,.int .u8 0,.int .u8 0,.int .i64 0,.int .i64 0,.int .i64 0,.int .i64 0] (by simp [Act.eval]) (Src.litDrew Tryz.underlying24 18 _ rfl (nA) _ _ (by first | rfl | simp)) (by have:=HB4.out;unfold maxLen;omega) (by have:=HB4.out;omega) ?_;intro ao2 q2 w5 ho2 hk2 hb2;have HKW:=wB (show Keep (fun k=>sv.ownBlock=some k) WE w5 from (Keep.of_below (((wI WE.heap.size WE).alloc (wC _) (.cells #[.int .u8 0,.int .u8 0,.int .u8 0,.int .u8 0,.int .u8 0,.int .u8 0,.int .u8 0,.int .u8 0,.int .i16 0,.int .i16 0,.int .i16 0,.int .i16 0,.int .u8 0,.int .u8 0,.int .i64 0,.int .i64 0,.int .i64 0,.int .i64 0] 79)).drew) (wC _) (fun _=>False)).trans hk2 (fun _ _ h=>h.elim) (fun _ _ h=>h));refine hK _ _ ⟨HSK.out _ HKW.out,?_⟩;clear hK K
      obtain ⟨gb,rfl⟩:∃ gb,ao2=some ⟨gb,0,none⟩:=by
       rcases ho2.2 with ⟨h1,h2⟩ | ⟨gb,cap,h1,_⟩
       · omega
       · cases h1;exact ⟨gb,rfl⟩
      have HHALF:=wB (HRE.out.laid HA.out (by have h1:=wK WE _ (HRE.out.num nv rfl);exact h1) HTH.out HKW.out ho2 (by
       rcases hb2 with h | ⟨gg,h1,h2⟩
       · exact .inl (by rw [←h];rfl)
       · cases h1
         refine .inr (xc ?_ h2);simp))
      have c0:=HKW.out.cell HRE.out.cell HNO.out
      have cf:w5.frozen? ⟨L,a,none⟩=false:=by
       have:=av (HRE.out.put.room a 1 HTH.out) HKW.out HNO.out;have:=(this 0 (by omega)).2;rwa [xB] at this
      have cl:=wK w5 _ c0;clear ho2 hk2 hb2;have HEL:=wB (HHALF.out.elem aa.cells_length rfl);generalize hW6:w5.setCell ⟨L,a,none⟩ (.slice (some ⟨gb,0,none⟩) (j+1) q2)=W6 at *;have HW6:=wB hW6;clear hW6;obtain ⟨bad6,s6',hb6,hr6,hn6,hG6,hs6⟩:=HHALF.out.gate;have e0:=HHALF.out.cell;clear hb6 hr6 hn6 hG6 hs6;go_upto_region 10 with fail
      rw [HW6.out];clear c0 cf cl;go_wp2_with fail
      refine (oZ W6 g R G gb (j*18) (some lj) HHALF.out.gate HEL.out.1 HEL.out.2.1 (by have h1:=HHALF.out.new;have h2:=HLT.out;omega)).mono ?_;rintro e w7 ⟨rfl,hp7⟩;obtain ⟨x7,s7,hr7⟩:=HHALF.out.read HA.out aa.cells_length rfl hp7;have HR7:=wB hr7
      have HF7:=wB (show Far s1 nv (j+1) from by
       obtain ⟨l,hl,_⟩:=HS1.out;have h2:=HLT2.out;exact .inl ⟨l,hl,by omega⟩)
      clear hp7 hr7 e0;have hjb:j<4096:=HB4.out;have hmeas:nv.toNat - (j+1)<nv.toNat - j:=by have h2:=HLT2.out;omega
      go_wp2_with fail
      go_roundw
      case rel=>exact wB ⟨j+1,xs++[x7],s7,_,by go_num,HF7.out,HR7.out⟩
      case measure=>simp [intOf];omega
  · have b1:decide ((j:Int)<nv)=false:=decide_eq_false hlt
    have HE:=wB (gI HST1.out HIN.out HJ.out HR.out (wC _) (.inl hlt));clear hlt;go_wp2_with fail
    exact wR (v:=.tuple #[]) (by simp [results,Tryz.results163,go_sem]) rfl ⟨rfl,HE.out⟩
theorem sP:∀ u ∈ ([.int .u8 0,.int .u8 0,.int .u8 0,.int .u8 0,.int .u8 0,.int .u8 0,.int .u8 0,.int .u8 0,.int .i16 0,.int .i16 0,.int .u8 0,.int .u8 0,.int .i64 0,.int .i64 0]:List Value),u.oneCell'=true:=xE.1 (rfl:([.int .u8 0,.int .u8 0,.int .u8 0,.int .u8 0,.int .u8 0,.int .u8 0,.int .u8 0,.int .u8 0,.int .i16 0,.int .i16 0,.int .u8 0,.int .u8 0,.int .i64 0,.int .i64 0]:List Value).all (·.oneCell')=true)
theorem uK (w:World) (g R G L a:Nat) (s:Option (List Int)) (h:GtR w g R G s) (hc:w.cell? ⟨L,a,none⟩=some (.slice none 0 0)) (hth:w.there L a 1) (hL:L≠g∧L≠R∧L≠G) (most:Nat) (hm:most≤4096) :
 Calls Tryz.prog 165 #[.pointer (some ⟨g,0,none⟩),.pointer (some ⟨L,a,none⟩),.int .i64 (most:Int),.func (.func 166) #[.pointer (some ⟨g,0,none⟩)] #[]] w fun e w'=>e = .returned (.tuple #[])∧kv w g R G L a s most fS ak.cells ak.Ok 14 w':=by
 have HLT:=wB h.lt;have HLL:=wB (show L<w.heap.size from wK w ⟨L,a,none⟩ hc);have HL:=wB hL;have HTH:=wB hth;have HC:=wB hc;have HW:=wB h;have HNB:=wB (wF w (.cells #[.int .i64 0] 3));have HBW:=wB ((wI w.heap.size w).alloc (wC _) (.cells #[.int .i64 0] 3));clear h hth hL;go_enter Tryz.func165,Tryz.ntmps165
 go_wp2_with fail
 generalize w.alloc (.cells #[.int .i64 0] 3)=W1 at *;have HG1:=wB (HW.out.below HBW.out);have HNL:=wB (wJ HNB.out);refine (dy W1 g R G w.heap.size 0 s HG1.out most (by omega) 0 (by rw [wG _ _ _ _ _ (0,0) HNB.out];rfl) fQ (aP HNB.out (wC 1)) (by have h1:=HLT.out;omega)).mono ?_;rintro e w2 ⟨rfl,nv,s1,hnv,hg1,hst1,hpt1,hra1⟩;have HA:=wB (show e9 w g R G L w.heap.size (some nv) from ⟨⟨HLT.out.1,HLT.out.2.1,HLT.out.2.2,HLL.out⟩,HL.out,Nat.le_succ _,fun _ _=>wC _⟩);have HG2:=wB hg1;have HST1:=wB hst1;have HNC:=wB (show w2.cell? ⟨w.heap.size,0,none⟩=some (.int .i64 nv) from hra1 0 _ rfl);have HPT1:=wB hpt1;have HNV:=wB hnv;have HLC:=wB (hpt1.keep.cell ((Keep.of_below HBW.out (wC _) (fun _=>False)).cell HC.out id) (by have h1:=HL.out;have h2:=HLL.out;show ¬ (L=g∨L=R∨L=w.heap.size);omega));have HLF:=wB (av (eU HTH.out HBW.out) hpt1.keep (by have h1:=HL.out;have h2:=HLL.out;show ¬ (L=g∨L=R∨L=w.heap.size);omega))
 have HP2:=wB (show aq w g R L a 1 w2 from by
  have h1:=HL.out;have h2:=HLL.out;have hk:=Keep.of_below HBW.out (wC _) (fun _=>False);exact ⟨hk.trans hpt1.keep (fun _ _ h=>h.elim) (fun i hi he=>by rcases he with e | e | e;exact .inl e;exact .inr (.inl e);omega),fun q hq v hv=>hpt1.keep.cell (hk.cell hv id) (by show ¬ (L=g∨L=R∨L=w.heap.size);omega),fun q m hm=>av (av hm hk id) hpt1.keep (by show ¬ (L=g∨L=R∨L=w.heap.size);omega)⟩)
 have HIN:=wB (nz (by omega) hst1 (fun l hl=>by subst hl;exact HG1.out.byt.1));have HF0:=wB (show Far s1 nv 0 from by cases hs:s1 with | none=>exact .inr ⟨rfl,rfl⟩ | some l=>exact .inl ⟨l,rfl,by have:=(HIN.out (by rw [hs];simp)).1;omega⟩);clear hnv hg1 hst1 hpt1 hra1 hc;obtain ⟨bad2,s2',hb2,hr2,hn2,hG2,hs2⟩:=HG2.out;obtain ⟨g0,g1,g2,gf⟩:=cells3 hb2;have lc:=HLC.out;have lf:w2.frozen? ⟨L,a,none⟩=false:=by have:=(HLF.out 0 (by omega)).2;rwa [xB] at this
 have hll2:=wK w2 _ lc;have hLg:¬ L=g:=HL.out.1;have HK3:=wB (aJ w2 L a (.slice none 0 0))
 have H0:=wB (show cX w g R G L a w.heap.size s1 fS ak.cells ak.Ok 14 (some nv) 0 [] s1 (.slice none 0 0) (w2.setCell ⟨L,a,none⟩ (.slice none 0 0)) from
  ⟨rfl,(fun x hx=>by cases hx),HG2.out.keep HK3.out (fun e=>HL.out.1 e.symm) (fun e=>HL.out.2.1 e.symm) (fun e=>HL.out.2.2 e.symm),Step.rep0 _ _,HP2.out.trans (aq.set w2 g R L a [.slice none 0 0]),by have:=wT w2 L a [.slice none 0 0] HLF.out 0 _ rfl;rwa [xB] at this,⟨rfl,.inl ⟨rfl,rfl⟩⟩,(fun b hb=>by cases hb),fun v hv=>by cases hv;exact HK3.out.cell HNC.out (by have:=HLL.out;show ¬ w.heap.size=L;omega)⟩)
 clear hb2 hr2 hn2 hG2 hs2;go_wp2_with fail
 clear g0 g1 g2 gf lc lf hll2;generalize w2.setCell ⟨L,a,none⟩ (.slice none 0 0)=W3 at *;go_loopw [9] (fun i wr=>Hid (∃ (j:Nat) (xs:List ak) (sj:Option (List Int)) (sv:Value),i = .int .i64 j∧Far s1 nv j∧cX w g R G L a w.heap.size s1 fS ak.cells ak.Ok 14 (some nv) j xs sj sv wr)) (fun i _=>nv.toNat - (intOf i).toNat)
 case atStart=>exact wB ⟨0,[],s1,_,rfl,HF0.out,H0.out⟩
 case round=>
  clear H0;obtain ⟨j,xs,sj,sv,rfl,hj,hr⟩:=hrel.out;clear hrel;have HR:=wB hr;have HJ:=wB hj;clear hr hj;have n0:=HR.out.num nv rfl;by_cases hlt:(j:Int)<nv
  · have b1:decide ((j:Int)<nv)=true:=decide_eq_true hlt
    have HLT2:=wB hlt;clear hlt;go_wp2_with fail
    refine (c7 wr g R G sj HR.out.gate).mono ?_;rintro e w4 ⟨rfl,hg4,hk4⟩;have HR4:=wB (HR.out.gated HA.out hg4 hk4);clear hg4 hk4 n0;cases sj with
    | none=>
      have HE:=wB (gI HST1.out HIN.out HJ.out HR4.out (wC _) (.inr rfl));go_wp2_with fail
      exact wR (v:=.tuple #[]) (by simp [results,Tryz.results165,go_sem]) rfl ⟨rfl,HE.out⟩
    | some lj=>
      have HS1:=wB (show ∃ l,s1=some l∧(j:Int)≤nv from by
       rcases HJ.out with h | ⟨h,_⟩
       · exact h
       · have:=HR.out.step.1
         rw [h] at this;cases this)
      have HB4:=wB (show j<4096 from by
       obtain ⟨l,hl,_⟩:=HS1.out;have h1:=(HIN.out (by rw [hl];simp)).2;have h2:=HLT2.out;omega)
      obtain ⟨bad4,s4',hb4,hr4,hn4,hG4,hs4⟩:=HR4.out.gate;obtain ⟨g0,g1,g2,gf⟩:=cells3 hb4;clear hb4 hr4 hn4 hG4 hs4;go_upto_region 9 with fail
      clear g0 g1 g2 gf;obtain ⟨E,hE⟩:∃ E,w4.heap.size=E:=⟨_,rfl⟩;have HEN:=wB hE;have HZE:=wB (wF w4 (.cells #[.int .u8 0,.int .u8 0,.int .u8 0,.int .u8 0,.int .u8 0,.int .u8 0,.int .u8 0,.int .u8 0,.int .i16 0,.int .i16 0,.int .u8 0,.int .u8 0,.int .i64 0,.int .i64 0] 83));have HRE:=wB (HR4.out.below ((wI w4.heap.size w4).alloc (wC _) (.cells #[.int .u8 0,.int .u8 0,.int .u8 0,.int .u8 0,.int .u8 0,.int .u8 0,.int .u8 0,.int .u8 0,.int .i16 0,.int .i16 0,.int .u8 0,.int .u8 0,.int .i64 0,.int .i64 0] 83)));have HOL:=wB (fun (b:Nat) (hb:sv.ownBlock=some b)=>show b<w4.heap.size from HR4.out.own.lt b hb);rw [hE] at HZE HOL;try rw [hE]
      clear hE;generalize w4.alloc (.cells #[.int .u8 0,.int .u8 0,.int .u8 0,.int .u8 0,.int .u8 0,.int .u8 0,.int .u8 0,.int .u8 0,.int .i16 0,.int .i16 0,.int .u8 0,.int .u8 0,.int .i64 0,.int .i64 0] 83)=WE at *;have HZC:=wB (fun (w':World) (k:Keep (fun k=>sv.ownBlock=some k) WE w') (i:Nat) (u:Value) (hu:([.int .u8 0,.int .u8 0,.int .u8 0,.int .u8 0,.int .u8 0,.int .u8 0,.int .u8 0,.int .u8 0,.int .i16 0,.int .i16 0,.int .u8 0,.int .u8 0,.int .i64 0,.int .i64 0]:List Value)[i]?=some u)=>show w'.cell? ⟨E,0+i,none⟩=some u from k.cell (bf HZE.out 14 (show ([.int .u8 0,.int .u8 0,.int .u8 0,.int .u8 0,.int .u8 0,.int .u8 0,.int .u8 0,.int .u8 0,.int .i16 0,.int .i16 0,.int .u8 0,.int .u8 0,.int .i64 0,.int .i64 0]:List Value)=(#[.int .u8 0,.int .u8 0,.int .u8 0,.int .u8 0,.int .u8 0,.int .u8 0,.int .u8 0,.int .u8 0,.int .i16 0,.int .i16 0,.int .u8 0,.int .u8 0,.int .i64 0,.int .i64 0]:Array Value).toList.take 14 from rfl) i u hu) (fun e=>by have:=HOL.out E e;omega));have HNO:=wB (show ¬ sv.ownBlock=some L from fun e=>by have h1:=HRE.out.new L e;have h2:=HLL.out;omega);have HSK:=wB (fun (w':World) (k:Keep (fun k=>sv.ownBlock=some k) WE w')=>show w'.cell? ⟨L,a,none⟩=some sv∧∀ (i:Nat) (u:Value),([.int .u8 0,.int .u8 0,.int .u8 0,.int .u8 0,.int .u8 0,.int .u8 0,.int .u8 0,.int .u8 0,.int .i16 0,.int .i16 0,.int .u8 0,.int .u8 0,.int .i64 0,.int .i64 0]:List Value)[i]?=some u→w'.cell? ⟨E,0+i,none⟩=some u from ⟨k.cell HRE.out.cell HNO.out,HZC.out w' k⟩);obtain ⟨i5,hi,hz0,hz1,hz2⟩:=dF mu;refine c9 5 2 (fun w'=>w'.cell? ⟨L,a,none⟩=some sv∧∀ (i:Nat) (u:Value),([.int .u8 0,.int .u8 0,.int .u8 0,.int .u8 0,.int .u8 0,.int .u8 0,.int .u8 0,.int .u8 0,.int .i16 0,.int .i16 0,.int .u8 0,.int .u8 0,.int .i64 0,.int .i64 0]:List Value)[i]?=some u→w'.cell? ⟨E,0+i,none⟩=some u) (by kernel_rfl) (by kernel_rfl) (fun _ _ _ _ _ h=>h) (HSK.out _ (Keep.drew _ _)) ?_;simp only [xS,xF,List.drop_succ_cons,List.drop_zero]
      iterate 4 (
       refine dv (v:=?_) (Or.inl ⟨by rfl,?_⟩) ?_
       rotate_left
       · intro w' hSw
         have hSx:=hSw.1;clear hSw;try dsimp only at hSx
         go_simp
         try with_reducible rfl
       try simp only [Act.put,wU,xi,xj])
      refine fN (o:=⟨some 44,.load 83 (.tmp 10),_,_,_,_⟩) rfl 83 (.tmp 10) rfl E 0 rfl [.int .u8 0,.int .u8 0,.int .u8 0,.int .u8 0,.int .u8 0,.int .u8 0,.int .u8 0,.int .u8 0,.int .i16 0,.int .i16 0,.int .u8 0,.int .u8 0,.int .i64 0,.int .i64 0] #[.int .u8 0,.int .u8 0,.int .u8 0,.int .u8 0,.int .u8 0,.int .u8 0,.int .u8 0,.int .u8 0,.int .i16 0,.int .i16 0,.int .u8 0,.int .u8 0,.int .i64 0,.int .i64 0] rfl _ (fun w' hSw=>hSw.2) Tryz.underlying83 rfl ew ?_;try simp only [Act.put,wU,xi,xj]
      refine d7 ?_;simp only [dY];refine cF rfl (fun K hK=>?_);go_simp
      refine hK _ _ ⟨HSK.out _ (Keep.of_below (((wI WE.heap.size WE).alloc (wC _) _).drew) (wC _) _),?_⟩;clear hK K;refine cF rfl (fun K hK=>?_);refine bB rfl (.tmp 43) (.tmp 45) 25 25 rfl 83 i5 _ 14 32 Tryz.underlying25 hi hz0 hz1 hz2 rfl sv j (cellsOf ak.cells xs) (by simp [Act.eval]) (HRE.out.own.keep (Keep.of_below (((wI WE.heap.size WE).alloc (wC _) _).drew) (wC _) (fun _=>False)) (fun _ _=>id)) (.slice (some ⟨WE.heap.size,0,none⟩) 1 1) 1 [.int .u8 0,.int .u8 0,.int .u8 0,.int .u8 0,.int .u8 0,.int .u8 0,.int .u8 0,.int .u8 0,.int .i16 0,.int .i16 0,.int .u8 0,.int .u8 0,.int .i64 0,.int .i64 0] (by simp [Act.eval]) (Src.litDrew Tryz.underlying25 14 _ rfl (sP) _ _ (by first | rfl | simp)) (by have:=HB4.out;unfold maxLen;omega) (by have:=HB4.out;omega) ?_;intro ao2 q2 w5 ho2 hk2 hb2;have HKW:=wB (show Keep (fun k=>sv.ownBlock=some k) WE w5 from (Keep.of_below (((wI WE.heap.size WE).alloc (wC _) (.cells #[.int .u8 0,.int .u8 0,.int .u8 0,.int .u8 0,.int .u8 0,.int .u8 0,.int .u8 0,.int .u8 0,.int .i16 0,.int .i16 0,.int .u8 0,.int .u8 0,.int .i64 0,.int .i64 0] 83)).drew) (wC _) (fun _=>False)).trans hk2 (fun _ _ h=>h.elim) (fun _ _ h=>h));refine hK _ _ ⟨HSK.out _ HKW.out,?_⟩;clear hK K
      obtain ⟨gb,rfl⟩:∃ gb,ao2=some ⟨gb,0,none⟩:=by
       rcases ho2.2 with ⟨h1,h2⟩ | ⟨gb,cap,h1,_⟩
       · omega
       · cases h1;exact ⟨gb,rfl⟩
      have HHALF:=wB (HRE.out.laid HA.out (by have h1:=wK WE _ (HRE.out.num nv rfl);exact h1) HTH.out HKW.out ho2 (by
       rcases hb2 with h | ⟨gg,h1,h2⟩
       · exact .inl (by rw [←h];rfl)
       · cases h1
         refine .inr (xc ?_ h2);simp))
      have c0:=HKW.out.cell HRE.out.cell HNO.out
      have cf:w5.frozen? ⟨L,a,none⟩=false:=by
       have:=av (HRE.out.put.room a 1 HTH.out) HKW.out HNO.out;have:=(this 0 (by omega)).2;rwa [xB] at this
      have cl:=wK w5 _ c0;clear ho2 hk2 hb2;have HEL:=wB (HHALF.out.elem ak.cells_length rfl);generalize hW6:w5.setCell ⟨L,a,none⟩ (.slice (some ⟨gb,0,none⟩) (j+1) q2)=W6 at *;have HW6:=wB hW6;clear hW6;obtain ⟨bad6,s6',hb6,hr6,hn6,hG6,hs6⟩:=HHALF.out.gate;have e0:=HHALF.out.cell;clear hb6 hr6 hn6 hG6 hs6;go_upto_region 10 with fail
      rw [HW6.out];clear c0 cf cl;go_wp2_with fail
      refine (uE W6 g R G gb (j*14) (some lj) HHALF.out.gate HEL.out.1 HEL.out.2.1 (by have h1:=HHALF.out.new;have h2:=HLT.out;omega)).mono ?_;rintro e w7 ⟨rfl,hp7⟩;obtain ⟨x7,s7,hr7⟩:=HHALF.out.read HA.out ak.cells_length rfl hp7;have HR7:=wB hr7
      have HF7:=wB (show Far s1 nv (j+1) from by
       obtain ⟨l,hl,_⟩:=HS1.out;have h2:=HLT2.out;exact .inl ⟨l,hl,by omega⟩)
      clear hp7 hr7 e0;have hjb:j<4096:=HB4.out;have hmeas:nv.toNat - (j+1)<nv.toNat - j:=by have h2:=HLT2.out;omega
      go_wp2_with fail
      go_roundw
      case rel=>exact wB ⟨j+1,xs++[x7],s7,_,by go_num,HF7.out,HR7.out⟩
      case measure=>simp [intOf];omega
  · have b1:decide ((j:Int)<nv)=false:=decide_eq_false hlt
    have HE:=wB (gI HST1.out HIN.out HJ.out HR.out (wC _) (.inl hlt));clear hlt;go_wp2_with fail
    exact wR (v:=.tuple #[]) (by simp [results,Tryz.results165,go_sem]) rfl ⟨rfl,HE.out⟩
theorem sQ:∀ u ∈ ([.int .i64 0,.int .i64 0,.int .i64 0]:List Value),u.oneCell'=true:=xE.1 (rfl:([.int .i64 0,.int .i64 0,.int .i64 0]:List Value).all (·.oneCell')=true)
theorem uL (w:World) (g R G L a:Nat) (s:Option (List Int)) (h:GtR w g R G s) (B:Nat) (hB:w.heap[B]?=some (.cells #[.pointer (some ⟨g,0,none⟩)] 142 (0,0))) (hBn:B≠g∧B≠R∧B≠L) (hc:w.cell? ⟨L,a,none⟩=some (.slice none 0 0)) (hth:w.there L a 1) (hL:L≠g∧L≠R∧L≠G) (most:Nat) (hm:most≤4096) :
 Calls Tryz.prog 167 #[.pointer (some ⟨g,0,none⟩),.pointer (some ⟨L,a,none⟩),.int .i64 (most:Int),.func (.func 168) #[] #[.pointer (some ⟨B,0,none⟩)]] w fun e w'=>e = .returned (.tuple #[])∧kv w g R G L a s most fU ab.cells ab.Ok 3 w':=by
 have HLT:=wB h.lt;have HLL:=wB (show L<w.heap.size from wK w ⟨L,a,none⟩ hc);have HL:=wB hL;have HTH:=wB hth;have HB:=wB hB;have HBN:=wB hBn;have HBL:=wB (wJ hB);clear hB hBn;have HC:=wB hc;have HW:=wB h;have HNB:=wB (wF w (.cells #[.int .i64 0] 3));have HBW:=wB ((wI w.heap.size w).alloc (wC _) (.cells #[.int .i64 0] 3));clear h hth hL;go_enter Tryz.func167,Tryz.ntmps167
 go_wp2_with fail
 generalize w.alloc (.cells #[.int .i64 0] 3)=W1 at *;have HG1:=wB (HW.out.below HBW.out);have HNL:=wB (wJ HNB.out);refine (dy W1 g R G w.heap.size 0 s HG1.out most (by omega) 0 (by rw [wG _ _ _ _ _ (0,0) HNB.out];rfl) fQ (aP HNB.out (wC 1)) (by have h1:=HLT.out;omega)).mono ?_;rintro e w2 ⟨rfl,nv,s1,hnv,hg1,hst1,hpt1,hra1⟩;have HA:=wB (show e9 w g R G L w.heap.size (some nv) from ⟨⟨HLT.out.1,HLT.out.2.1,HLT.out.2.2,HLL.out⟩,HL.out,Nat.le_succ _,fun _ _=>wC _⟩);have HG2:=wB hg1;have HST1:=wB hst1;have HNC:=wB (show w2.cell? ⟨w.heap.size,0,none⟩=some (.int .i64 nv) from hra1 0 _ rfl);have HPT1:=wB hpt1;have HNV:=wB hnv;have HLC:=wB (hpt1.keep.cell ((Keep.of_below HBW.out (wC _) (fun _=>False)).cell HC.out id) (by have h1:=HL.out;have h2:=HLL.out;show ¬ (L=g∨L=R∨L=w.heap.size);omega));have HLF:=wB (av (eU HTH.out HBW.out) hpt1.keep (by have h1:=HL.out;have h2:=HLL.out;show ¬ (L=g∨L=R∨L=w.heap.size);omega))
 have HP2:=wB (show aq w g R L a 1 w2 from by
  have h1:=HL.out;have h2:=HLL.out;have hk:=Keep.of_below HBW.out (wC _) (fun _=>False);exact ⟨hk.trans hpt1.keep (fun _ _ h=>h.elim) (fun i hi he=>by rcases he with e | e | e;exact .inl e;exact .inr (.inl e);omega),fun q hq v hv=>hpt1.keep.cell (hk.cell hv id) (by show ¬ (L=g∨L=R∨L=w.heap.size);omega),fun q m hm=>av (av hm hk id) hpt1.keep (by show ¬ (L=g∨L=R∨L=w.heap.size);omega)⟩)
 have HIN:=wB (nz (by omega) hst1 (fun l hl=>by subst hl;exact HG1.out.byt.1));have HF0:=wB (show Far s1 nv 0 from by cases hs:s1 with | none=>exact .inr ⟨rfl,rfl⟩ | some l=>exact .inl ⟨l,rfl,by have:=(HIN.out (by rw [hs];simp)).1;omega⟩);clear hnv hg1 hst1 hpt1 hra1 hc;obtain ⟨bad2,s2',hb2,hr2,hn2,hG2,hs2⟩:=HG2.out;obtain ⟨g0,g1,g2,gf⟩:=cells3 hb2;have lc:=HLC.out;have lf:w2.frozen? ⟨L,a,none⟩=false:=by have:=(HLF.out 0 (by omega)).2;rwa [xB] at this
 have hll2:=wK w2 _ lc;have hLg:¬ L=g:=HL.out.1;have HK3:=wB (aJ w2 L a (.slice none 0 0))
 have H0:=wB (show cX w g R G L a w.heap.size s1 fU ab.cells ab.Ok 3 (some nv) 0 [] s1 (.slice none 0 0) (w2.setCell ⟨L,a,none⟩ (.slice none 0 0)) from
  ⟨rfl,(fun x hx=>by cases hx),HG2.out.keep HK3.out (fun e=>HL.out.1 e.symm) (fun e=>HL.out.2.1 e.symm) (fun e=>HL.out.2.2 e.symm),Step.rep0 _ _,HP2.out.trans (aq.set w2 g R L a [.slice none 0 0]),by have:=wT w2 L a [.slice none 0 0] HLF.out 0 _ rfl;rwa [xB] at this,⟨rfl,.inl ⟨rfl,rfl⟩⟩,(fun b hb=>by cases hb),fun v hv=>by cases hv;exact HK3.out.cell HNC.out (by have:=HLL.out;show ¬ w.heap.size=L;omega)⟩)
 clear hb2 hr2 hn2 hG2 hs2;go_wp2_with fail
 clear g0 g1 g2 gf lc lf hll2;generalize w2.setCell ⟨L,a,none⟩ (.slice none 0 0)=W3 at *;go_loopw [9] (fun i wr=>Hid (∃ (j:Nat) (xs:List ab) (sj:Option (List Int)) (sv:Value),i = .int .i64 j∧Far s1 nv j∧cX w g R G L a w.heap.size s1 fU ab.cells ab.Ok 3 (some nv) j xs sj sv wr)) (fun i _=>nv.toNat - (intOf i).toNat)
 case atStart=>exact wB ⟨0,[],s1,_,rfl,HF0.out,H0.out⟩
 case round=>
  clear H0;obtain ⟨j,xs,sj,sv,rfl,hj,hr⟩:=hrel.out;clear hrel;have HR:=wB hr;have HJ:=wB hj;clear hr hj;have n0:=HR.out.num nv rfl;by_cases hlt:(j:Int)<nv
  · have b1:decide ((j:Int)<nv)=true:=decide_eq_true hlt
    have HLT2:=wB hlt;clear hlt;go_wp2_with fail
    refine (c7 wr g R G sj HR.out.gate).mono ?_;rintro e w4 ⟨rfl,hg4,hk4⟩;have HR4:=wB (HR.out.gated HA.out hg4 hk4);clear hg4 hk4 n0;cases sj with
    | none=>
      have HE:=wB (gI HST1.out HIN.out HJ.out HR4.out (wC _) (.inr rfl));go_wp2_with fail
      exact wR (v:=.tuple #[]) (by simp [results,Tryz.results167,go_sem]) rfl ⟨rfl,HE.out⟩
    | some lj=>
      have HS1:=wB (show ∃ l,s1=some l∧(j:Int)≤nv from by
       rcases HJ.out with h | ⟨h,_⟩
       · exact h
       · have:=HR.out.step.1
         rw [h] at this;cases this)
      have HB4:=wB (show j<4096 from by
       obtain ⟨l,hl,_⟩:=HS1.out;have h1:=(HIN.out (by rw [hl];simp)).2;have h2:=HLT2.out;omega)
      obtain ⟨bad4,s4',hb4,hr4,hn4,hG4,hs4⟩:=HR4.out.gate;obtain ⟨g0,g1,g2,gf⟩:=cells3 hb4;clear hb4 hr4 hn4 hG4 hs4;go_upto_region 9 with fail
      clear g0 g1 g2 gf;obtain ⟨E,hE⟩:∃ E,w4.heap.size=E:=⟨_,rfl⟩;have HEN:=wB hE;have HZE:=wB (wF w4 (.cells #[.int .i64 0,.int .i64 0,.int .i64 0] 114));have HRE:=wB (HR4.out.below ((wI w4.heap.size w4).alloc (wC _) (.cells #[.int .i64 0,.int .i64 0,.int .i64 0] 114)));have HOL:=wB (fun (b:Nat) (hb:sv.ownBlock=some b)=>show b<w4.heap.size from HR4.out.own.lt b hb);rw [hE] at HZE HOL;try rw [hE]
      clear hE;generalize w4.alloc (.cells #[.int .i64 0,.int .i64 0,.int .i64 0] 114)=WE at *;have HZC:=wB (fun (w':World) (k:Keep (fun k=>sv.ownBlock=some k) WE w') (i:Nat) (u:Value) (hu:([.int .i64 0,.int .i64 0,.int .i64 0]:List Value)[i]?=some u)=>show w'.cell? ⟨E,0+i,none⟩=some u from k.cell (bf HZE.out 3 (show ([.int .i64 0,.int .i64 0,.int .i64 0]:List Value)=(#[.int .i64 0,.int .i64 0,.int .i64 0]:Array Value).toList.take 3 from rfl) i u hu) (fun e=>by have:=HOL.out E e;omega));have HNO:=wB (show ¬ sv.ownBlock=some L from fun e=>by have h1:=HRE.out.new L e;have h2:=HLL.out;omega);have HSK:=wB (fun (w':World) (k:Keep (fun k=>sv.ownBlock=some k) WE w')=>show w'.cell? ⟨L,a,none⟩=some sv∧∀ (i:Nat) (u:Value),([.int .i64 0,.int .i64 0,.int .i64 0]:List Value)[i]?=some u→w'.cell? ⟨E,0+i,none⟩=some u from ⟨k.cell HRE.out.cell HNO.out,HZC.out w' k⟩);obtain ⟨i5,hi,hz0,hz1,hz2⟩:=dF jp;refine c9 5 2 (fun w'=>w'.cell? ⟨L,a,none⟩=some sv∧∀ (i:Nat) (u:Value),([.int .i64 0,.int .i64 0,.int .i64 0]:List Value)[i]?=some u→w'.cell? ⟨E,0+i,none⟩=some u) (by kernel_rfl) (by kernel_rfl) (fun _ _ _ _ _ h=>h) (HSK.out _ (Keep.drew _ _)) ?_;simp only [xS,xF,List.drop_succ_cons,List.drop_zero]
      iterate 4 (
       refine dv (v:=?_) (Or.inl ⟨by rfl,?_⟩) ?_
       rotate_left
       · intro w' hSw
         have hSx:=hSw.1;clear hSw;try dsimp only at hSx
         go_simp
         try with_reducible rfl
       try simp only [Act.put,wU,xi,xj])
      refine fN (o:=⟨some 44,.load 114 (.tmp 10),_,_,_,_⟩) rfl 114 (.tmp 10) rfl E 0 rfl [.int .i64 0,.int .i64 0,.int .i64 0] #[.int .i64 0,.int .i64 0,.int .i64 0] rfl _ (fun w' hSw=>hSw.2) Tryz.underlying114 rfl vO ?_;try simp only [Act.put,wU,xi,xj]
      refine d7 ?_;simp only [dY];refine cF rfl (fun K hK=>?_);go_simp
      refine hK _ _ ⟨HSK.out _ (Keep.of_below (((wI WE.heap.size WE).alloc (wC _) _).drew) (wC _) _),?_⟩;clear hK K;refine cF rfl (fun K hK=>?_);refine bB rfl (.tmp 43) (.tmp 45) 26 26 rfl 114 i5 _ 3 24 Tryz.underlying26 hi hz0 hz1 hz2 rfl sv j (cellsOf ab.cells xs) (by simp [Act.eval]) (HRE.out.own.keep (Keep.of_below (((wI WE.heap.size WE).alloc (wC _) _).drew) (wC _) (fun _=>False)) (fun _ _=>id)) (.slice (some ⟨WE.heap.size,0,none⟩) 1 1) 1 [.int .i64 0,.int .i64 0,.int .i64 0] (by simp [Act.eval]) (Src.litDrew Tryz.underlying26 3 _ rfl (sQ) _ _ (by first | rfl | simp)) (by have:=HB4.out;unfold maxLen;omega) (by have:=HB4.out;omega) ?_;intro ao2 q2 w5 ho2 hk2 hb2;have HKW:=wB (show Keep (fun k=>sv.ownBlock=some k) WE w5 from (Keep.of_below (((wI WE.heap.size WE).alloc (wC _) (.cells #[.int .i64 0,.int .i64 0,.int .i64 0] 114)).drew) (wC _) (fun _=>False)).trans hk2 (fun _ _ h=>h.elim) (fun _ _ h=>h));refine hK _ _ ⟨HSK.out _ HKW.out,?_⟩;clear hK K
      obtain ⟨gb,rfl⟩:∃ gb,ao2=some ⟨gb,0,none⟩:=by
       rcases ho2.2 with ⟨h1,h2⟩ | ⟨gb,cap,h1,_⟩
       · omega
       · cases h1;exact ⟨gb,rfl⟩
      have HHALF:=wB (HRE.out.laid HA.out (by have h1:=wK WE _ (HRE.out.num nv rfl);exact h1) HTH.out HKW.out ho2 (by
       rcases hb2 with h | ⟨gg,h1,h2⟩
       · exact .inl (by rw [←h];rfl)
       · cases h1
         refine .inr (xc ?_ h2);simp))
      have c0:=HKW.out.cell HRE.out.cell HNO.out
      have cf:w5.frozen? ⟨L,a,none⟩=false:=by
       have:=av (HRE.out.put.room a 1 HTH.out) HKW.out HNO.out;have:=(this 0 (by omega)).2;rwa [xB] at this
      have cl:=wK w5 _ c0;clear ho2 hk2 hb2;have HEL:=wB (HHALF.out.elem ab.cells_length rfl);generalize hW6:w5.setCell ⟨L,a,none⟩ (.slice (some ⟨gb,0,none⟩) (j+1) q2)=W6 at *;have HW6:=wB hW6;clear hW6;obtain ⟨bad6,s6',hb6,hr6,hn6,hG6,hs6⟩:=HHALF.out.gate;have e0:=HHALF.out.cell;clear hb6 hr6 hn6 hG6 hs6;go_upto_region 10 with fail
      rw [HW6.out];clear c0 cf cl;go_wp2_with fail
      refine (uF W6 g R G gb (j*3) (some lj) HHALF.out.gate B (HHALF.out.put.old HB.out HBN.out) (by have h1:=HBN.out;have h2:=HHALF.out.new;have h3:=HBL.out;omega) HEL.out.1 HEL.out.2.1 (by have h1:=HHALF.out.new;have h2:=HLT.out;omega)).mono ?_;rintro e w7 ⟨rfl,hp7⟩;obtain ⟨x7,s7,hr7⟩:=HHALF.out.read HA.out ab.cells_length rfl hp7;have HR7:=wB hr7
      have HF7:=wB (show Far s1 nv (j+1) from by
       obtain ⟨l,hl,_⟩:=HS1.out;have h2:=HLT2.out;exact .inl ⟨l,hl,by omega⟩)
      clear hp7 hr7 e0;have hjb:j<4096:=HB4.out;have hmeas:nv.toNat - (j+1)<nv.toNat - j:=by have h2:=HLT2.out;omega
      go_wp2_with fail
      go_roundw
      case rel=>exact wB ⟨j+1,xs++[x7],s7,_,by go_num,HF7.out,HR7.out⟩
      case measure=>simp [intOf];omega
  · have b1:decide ((j:Int)<nv)=false:=decide_eq_false hlt
    have HE:=wB (gI HST1.out HIN.out HJ.out HR.out (wC _) (.inl hlt));clear hlt;go_wp2_with fail
    exact wR (v:=.tuple #[]) (by simp [results,Tryz.results167,go_sem]) rfl ⟨rfl,HE.out⟩
theorem sR:∀ u ∈ ([.int .i64 0,.int .i64 0]:List Value),u.oneCell'=true:=xE.1 (rfl:([.int .i64 0,.int .i64 0]:List Value).all (·.oneCell')=true)
theorem uM (w:World) (g R G L a:Nat) (s:Option (List Int)) (h:GtR w g R G s) (B:Nat) (hB:w.heap[B]?=some (.cells #[.pointer (some ⟨g,0,none⟩)] 142 (0,0))) (hBn:B≠g∧B≠R∧B≠L) (hc:w.cell? ⟨L,a,none⟩=some (.slice none 0 0)) (hth:w.there L a 1) (hL:L≠g∧L≠R∧L≠G) (most:Nat) (hm:most≤4096) :
 Calls Tryz.prog 169 #[.pointer (some ⟨g,0,none⟩),.pointer (some ⟨L,a,none⟩),.int .i64 (most:Int),.func (.func 170) #[] #[.pointer (some ⟨B,0,none⟩)]] w fun e w'=>e = .returned (.tuple #[])∧kv w g R G L a s most rdPair ai.cells ai.Ok 2 w':=by
 have HLT:=wB h.lt;have HLL:=wB (show L<w.heap.size from wK w ⟨L,a,none⟩ hc);have HL:=wB hL;have HTH:=wB hth;have HB:=wB hB;have HBN:=wB hBn;have HBL:=wB (wJ hB);clear hB hBn;have HC:=wB hc;have HW:=wB h;have HNB:=wB (wF w (.cells #[.int .i64 0] 3));have HBW:=wB ((wI w.heap.size w).alloc (wC _) (.cells #[.int .i64 0] 3));clear h hth hL;go_enter Tryz.func169,Tryz.ntmps169
 go_wp2_with fail
 generalize w.alloc (.cells #[.int .i64 0] 3)=W1 at *;have HG1:=wB (HW.out.below HBW.out);have HNL:=wB (wJ HNB.out);refine (dy W1 g R G w.heap.size 0 s HG1.out most (by omega) 0 (by rw [wG _ _ _ _ _ (0,0) HNB.out];rfl) fQ (aP HNB.out (wC 1)) (by have h1:=HLT.out;omega)).mono ?_;rintro e w2 ⟨rfl,nv,s1,hnv,hg1,hst1,hpt1,hra1⟩;have HA:=wB (show e9 w g R G L w.heap.size (some nv) from ⟨⟨HLT.out.1,HLT.out.2.1,HLT.out.2.2,HLL.out⟩,HL.out,Nat.le_succ _,fun _ _=>wC _⟩);have HG2:=wB hg1;have HST1:=wB hst1;have HNC:=wB (show w2.cell? ⟨w.heap.size,0,none⟩=some (.int .i64 nv) from hra1 0 _ rfl);have HPT1:=wB hpt1;have HNV:=wB hnv;have HLC:=wB (hpt1.keep.cell ((Keep.of_below HBW.out (wC _) (fun _=>False)).cell HC.out id) (by have h1:=HL.out;have h2:=HLL.out;show ¬ (L=g∨L=R∨L=w.heap.size);omega));have HLF:=wB (av (eU HTH.out HBW.out) hpt1.keep (by have h1:=HL.out;have h2:=HLL.out;show ¬ (L=g∨L=R∨L=w.heap.size);omega))
 have HP2:=wB (show aq w g R L a 1 w2 from by
  have h1:=HL.out;have h2:=HLL.out;have hk:=Keep.of_below HBW.out (wC _) (fun _=>False);exact ⟨hk.trans hpt1.keep (fun _ _ h=>h.elim) (fun i hi he=>by rcases he with e | e | e;exact .inl e;exact .inr (.inl e);omega),fun q hq v hv=>hpt1.keep.cell (hk.cell hv id) (by show ¬ (L=g∨L=R∨L=w.heap.size);omega),fun q m hm=>av (av hm hk id) hpt1.keep (by show ¬ (L=g∨L=R∨L=w.heap.size);omega)⟩)
 have HIN:=wB (nz (by omega) hst1 (fun l hl=>by subst hl;exact HG1.out.byt.1));have HF0:=wB (show Far s1 nv 0 from by cases hs:s1 with | none=>exact .inr ⟨rfl,rfl⟩ | some l=>exact .inl ⟨l,rfl,by have:=(HIN.out (by rw [hs];simp)).1;omega⟩);clear hnv hg1 hst1 hpt1 hra1 hc;obtain ⟨bad2,s2',hb2,hr2,hn2,hG2,hs2⟩:=HG2.out;obtain ⟨g0,g1,g2,gf⟩:=cells3 hb2;have lc:=HLC.out;have lf:w2.frozen? ⟨L,a,none⟩=false:=by have:=(HLF.out 0 (by omega)).2;rwa [xB] at this
 have hll2:=wK w2 _ lc;have hLg:¬ L=g:=HL.out.1;have HK3:=wB (aJ w2 L a (.slice none 0 0))
 have H0:=wB (show cX w g R G L a w.heap.size s1 rdPair ai.cells ai.Ok 2 (some nv) 0 [] s1 (.slice none 0 0) (w2.setCell ⟨L,a,none⟩ (.slice none 0 0)) from
  ⟨rfl,(fun x hx=>by cases hx),HG2.out.keep HK3.out (fun e=>HL.out.1 e.symm) (fun e=>HL.out.2.1 e.symm) (fun e=>HL.out.2.2 e.symm),Step.rep0 _ _,HP2.out.trans (aq.set w2 g R L a [.slice none 0 0]),by have:=wT w2 L a [.slice none 0 0] HLF.out 0 _ rfl;rwa [xB] at this,⟨rfl,.inl ⟨rfl,rfl⟩⟩,(fun b hb=>by cases hb),fun v hv=>by cases hv;exact HK3.out.cell HNC.out (by have:=HLL.out;show ¬ w.heap.size=L;omega)⟩)
 clear hb2 hr2 hn2 hG2 hs2;go_wp2_with fail
 clear g0 g1 g2 gf lc lf hll2;generalize w2.setCell ⟨L,a,none⟩ (.slice none 0 0)=W3 at *;go_loopw [9] (fun i wr=>Hid (∃ (j:Nat) (xs:List ai) (sj:Option (List Int)) (sv:Value),i = .int .i64 j∧Far s1 nv j∧cX w g R G L a w.heap.size s1 rdPair ai.cells ai.Ok 2 (some nv) j xs sj sv wr)) (fun i _=>nv.toNat - (intOf i).toNat)
 case atStart=>exact wB ⟨0,[],s1,_,rfl,HF0.out,H0.out⟩
 case round=>
  clear H0;obtain ⟨j,xs,sj,sv,rfl,hj,hr⟩:=hrel.out;clear hrel;have HR:=wB hr;have HJ:=wB hj;clear hr hj;have n0:=HR.out.num nv rfl;by_cases hlt:(j:Int)<nv
  · have b1:decide ((j:Int)<nv)=true:=decide_eq_true hlt
    have HLT2:=wB hlt;clear hlt;go_wp2_with fail
    refine (c7 wr g R G sj HR.out.gate).mono ?_;rintro e w4 ⟨rfl,hg4,hk4⟩;have HR4:=wB (HR.out.gated HA.out hg4 hk4);clear hg4 hk4 n0;cases sj with
    | none=>
      have HE:=wB (gI HST1.out HIN.out HJ.out HR4.out (wC _) (.inr rfl));go_wp2_with fail
      exact wR (v:=.tuple #[]) (by simp [results,Tryz.results169,go_sem]) rfl ⟨rfl,HE.out⟩
    | some lj=>
      have HS1:=wB (show ∃ l,s1=some l∧(j:Int)≤nv from by
       rcases HJ.out with h | ⟨h,_⟩
       · exact h
       · have:=HR.out.step.1
         rw [h] at this;cases this)
      have HB4:=wB (show j<4096 from by
       obtain ⟨l,hl,_⟩:=HS1.out;have h1:=(HIN.out (by rw [hl];simp)).2;have h2:=HLT2.out;omega)
      obtain ⟨bad4,s4',hb4,hr4,hn4,hG4,hs4⟩:=HR4.out.gate;obtain ⟨g0,g1,g2,gf⟩:=cells3 hb4;clear hb4 hr4 hn4 hG4 hs4;go_upto_region 9 with fail
      clear g0 g1 g2 gf;obtain ⟨E,hE⟩:∃ E,w4.heap.size=E:=⟨_,rfl⟩;have HEN:=wB hE;have HZE:=wB (wF w4 (.cells #[.int .i64 0,.int .i64 0] 69));have HRE:=wB (HR4.out.below ((wI w4.heap.size w4).alloc (wC _) (.cells #[.int .i64 0,.int .i64 0] 69)));have HOL:=wB (fun (b:Nat) (hb:sv.ownBlock=some b)=>show b<w4.heap.size from HR4.out.own.lt b hb);rw [hE] at HZE HOL;try rw [hE]
      clear hE;generalize w4.alloc (.cells #[.int .i64 0,.int .i64 0] 69)=WE at *;have HZC:=wB (fun (w':World) (k:Keep (fun k=>sv.ownBlock=some k) WE w') (i:Nat) (u:Value) (hu:([.int .i64 0,.int .i64 0]:List Value)[i]?=some u)=>show w'.cell? ⟨E,0+i,none⟩=some u from k.cell (bf HZE.out 2 (show ([.int .i64 0,.int .i64 0]:List Value)=(#[.int .i64 0,.int .i64 0]:Array Value).toList.take 2 from rfl) i u hu) (fun e=>by have:=HOL.out E e;omega));have HNO:=wB (show ¬ sv.ownBlock=some L from fun e=>by have h1:=HRE.out.new L e;have h2:=HLL.out;omega);have HSK:=wB (fun (w':World) (k:Keep (fun k=>sv.ownBlock=some k) WE w')=>show w'.cell? ⟨L,a,none⟩=some sv∧∀ (i:Nat) (u:Value),([.int .i64 0,.int .i64 0]:List Value)[i]?=some u→w'.cell? ⟨E,0+i,none⟩=some u from ⟨k.cell HRE.out.cell HNO.out,HZC.out w' k⟩);obtain ⟨i5,hi,hz0,hz1,hz2⟩:=dF jq;refine c9 5 2 (fun w'=>w'.cell? ⟨L,a,none⟩=some sv∧∀ (i:Nat) (u:Value),([.int .i64 0,.int .i64 0]:List Value)[i]?=some u→w'.cell? ⟨E,0+i,none⟩=some u) (by kernel_rfl) (by kernel_rfl) (fun _ _ _ _ _ h=>h) (HSK.out _ (Keep.drew _ _)) ?_;simp only [xS,xF,List.drop_succ_cons,List.drop_zero]
      iterate 4 (
       refine dv (v:=?_) (Or.inl ⟨by rfl,?_⟩) ?_
       rotate_left
       · intro w' hSw
         have hSx:=hSw.1;clear hSw;try dsimp only at hSx
         go_simp
         try with_reducible rfl
       try simp only [Act.put,wU,xi,xj])
      refine fN (o:=⟨some 44,.load 69 (.tmp 10),_,_,_,_⟩) rfl 69 (.tmp 10) rfl E 0 rfl [.int .i64 0,.int .i64 0] #[.int .i64 0,.int .i64 0] rfl _ (fun w' hSw=>hSw.2) Tryz.underlying69 rfl ns ?_;try simp only [Act.put,wU,xi,xj]
      refine d7 ?_;simp only [dY];refine cF rfl (fun K hK=>?_);go_simp
      refine hK _ _ ⟨HSK.out _ (Keep.of_below (((wI WE.heap.size WE).alloc (wC _) _).drew) (wC _) _),?_⟩;clear hK K;refine cF rfl (fun K hK=>?_);refine bB rfl (.tmp 43) (.tmp 45) 29 29 rfl 69 i5 _ 2 16 Tryz.underlying29 hi hz0 hz1 hz2 rfl sv j (cellsOf ai.cells xs) (by simp [Act.eval]) (HRE.out.own.keep (Keep.of_below (((wI WE.heap.size WE).alloc (wC _) _).drew) (wC _) (fun _=>False)) (fun _ _=>id)) (.slice (some ⟨WE.heap.size,0,none⟩) 1 1) 1 [.int .i64 0,.int .i64 0] (by simp [Act.eval]) (Src.litDrew Tryz.underlying29 2 _ rfl (sR) _ _ (by first | rfl | simp)) (by have:=HB4.out;unfold maxLen;omega) (by have:=HB4.out;omega) ?_;intro ao2 q2 w5 ho2 hk2 hb2;have HKW:=wB (show Keep (fun k=>sv.ownBlock=some k) WE w5 from (Keep.of_below (((wI WE.heap.size WE).alloc (wC _) (.cells #[.int .i64 0,.int .i64 0] 69)).drew) (wC _) (fun _=>False)).trans hk2 (fun _ _ h=>h.elim) (fun _ _ h=>h));refine hK _ _ ⟨HSK.out _ HKW.out,?_⟩;clear hK K
      obtain ⟨gb,rfl⟩:∃ gb,ao2=some ⟨gb,0,none⟩:=by
       rcases ho2.2 with ⟨h1,h2⟩ | ⟨gb,cap,h1,_⟩
       · omega
       · cases h1;exact ⟨gb,rfl⟩
      have HHALF:=wB (HRE.out.laid HA.out (by have h1:=wK WE _ (HRE.out.num nv rfl);exact h1) HTH.out HKW.out ho2 (by
       rcases hb2 with h | ⟨gg,h1,h2⟩
       · exact .inl (by rw [←h];rfl)
       · cases h1
         refine .inr (xc ?_ h2);simp))
      have c0:=HKW.out.cell HRE.out.cell HNO.out
      have cf:w5.frozen? ⟨L,a,none⟩=false:=by
       have:=av (HRE.out.put.room a 1 HTH.out) HKW.out HNO.out;have:=(this 0 (by omega)).2;rwa [xB] at this
      have cl:=wK w5 _ c0;clear ho2 hk2 hb2;have HEL:=wB (HHALF.out.elem ai.cells_length rfl);generalize hW6:w5.setCell ⟨L,a,none⟩ (.slice (some ⟨gb,0,none⟩) (j+1) q2)=W6 at *;have HW6:=wB hW6;clear hW6;obtain ⟨bad6,s6',hb6,hr6,hn6,hG6,hs6⟩:=HHALF.out.gate;have e0:=HHALF.out.cell;clear hb6 hr6 hn6 hG6 hs6;go_upto_region 10 with fail
      rw [HW6.out];clear c0 cf cl;go_wp2_with fail
      refine (uG W6 g R G gb (j*2) (some lj) HHALF.out.gate B (HHALF.out.put.old HB.out HBN.out) (by have h1:=HBN.out;have h2:=HHALF.out.new;have h3:=HBL.out;omega) HEL.out.1 HEL.out.2.1 (by have h1:=HHALF.out.new;have h2:=HLT.out;omega)).mono ?_;rintro e w7 ⟨rfl,hp7⟩;obtain ⟨x7,s7,hr7⟩:=HHALF.out.read HA.out ai.cells_length rfl hp7;have HR7:=wB hr7
      have HF7:=wB (show Far s1 nv (j+1) from by
       obtain ⟨l,hl,_⟩:=HS1.out;have h2:=HLT2.out;exact .inl ⟨l,hl,by omega⟩)
      clear hp7 hr7 e0;have hjb:j<4096:=HB4.out;have hmeas:nv.toNat - (j+1)<nv.toNat - j:=by have h2:=HLT2.out;omega
      go_wp2_with fail
      go_roundw
      case rel=>exact wB ⟨j+1,xs++[x7],s7,_,by go_num,HF7.out,HR7.out⟩
      case measure=>simp [intOf];omega
  · have b1:decide ((j:Int)<nv)=false:=decide_eq_false hlt
    have HE:=wB (gI HST1.out HIN.out HJ.out HR.out (wC _) (.inl hlt));clear hlt;go_wp2_with fail
    exact wR (v:=.tuple #[]) (by simp [results,Tryz.results169,go_sem]) rfl ⟨rfl,HE.out⟩
end Go.Proofs.YtcaicgipibcicaaGreat
