/- The gate reads lists. Printed by wip/genrdl.py. -/
import Derived.Test.YtcaicgipibcicaaGreatQRdL
set_option maxRecDepth 100000
set_option maxHeartbeats 16000000
set_option linter.unusedSimpArgs false
set_option linter.unusedVariables false
open Go renaming bodyPost_end→z9,cell_of_row→yI,heap_alloc_new→yE,lt_of_block→yK
open Go.Lib renaming hid→yA
open Go.RowKit.Below renaming refl→yH
open Go.World renaming block_lt_of_cell?→yL,rangeAt_setCells_same→yJ
open List renaming all_eq_true→zO,drop_succ_cons→zI,drop_zero→zK,setIfInBounds_toArray→yM,set_cons_succ→yZ,set_cons_zero→yX,take_succ_cons→zH,take_zero→zE
open Nat renaming add_zero→zM,le_refl→yB,le_trans→yV
namespace Go.Proofs.YtcaicgipibcicaaGreat
open Go.RowKit Go.Sort
theorem px:∀ u ∈ ([.int .u8 0,.int .u8 0,.int .u8 0,.int .u8 0,.int .u8 0,.int .u8 0,.int .u8 0,.int .u8 0,.int .i16 0,.int .i16 0,.int .i16 0,.int .i16 0,.int .u8 0,.int .u8 0,.int .i64 0,.int .i64 0,.int .i64 0,.int .i64 0]:List Value),u.oneCell'=true:=zO.1 (rfl:([.int .u8 0,.int .u8 0,.int .u8 0,.int .u8 0,.int .u8 0,.int .u8 0,.int .u8 0,.int .u8 0,.int .i16 0,.int .i16 0,.int .i16 0,.int .i16 0,.int .u8 0,.int .u8 0,.int .i64 0,.int .i64 0,.int .i64 0,.int .i64 0]:List Value).all (·.oneCell')=true)
theorem wK (w:World) (g R G L a:Nat) (s:Option (List Int)) (h:GtR w g R G s) (hc:w.cell? ⟨L,a,none⟩=some (.slice none 0 0)) (hth:w.there L a 1) (hL:L≠g∧L≠R∧L≠G) (most:Nat) (hm:most≤4096) :
 Calls Tryz.prog 163 #[.pointer (some ⟨g,0,none⟩),.pointer (some ⟨L,a,none⟩),.int .i64 (most:Int),.func (.func 164) #[.pointer (some ⟨g,0,none⟩)] #[]] w fun e w'=>e = .returned (.tuple #[])∧l9 w g R G L a s most dL ad.cells ad.Ok 18 w':=by
 have HLT:=yA h.lt;have HLL:=yA (show L<w.heap.size from yL w ⟨L,a,none⟩ hc);have HL:=yA hL;have HTH:=yA hth;have HC:=yA hc;have HW:=yA h;have HNB:=yA (yE w (.cells #[.int .i64 0] 3));have HBW:=yA ((yH w.heap.size w).alloc (yB _) (.cells #[.int .i64 0] 3));clear h hth hL;go_enter Tryz.func163,Tryz.ntmps163
 go_wp2_with fail
 generalize w.alloc (.cells #[.int .i64 0] 3)=W1 at *;have HG1:=yA (HW.out.below HBW.out);have HNL:=yA (yK HNB.out);refine (d6 W1 g R G w.heap.size 0 s HG1.out most (by omega) 0 (by rw [yI _ _ _ _ _ (0,0) HNB.out];rfl) gM (aw HNB.out (yB 1)) (by have h1:=HLT.out;omega)).mono ?_;rintro e w2 ⟨rfl,nv,s1,hnv,hg1,hst1,hpt1,hra1⟩;have HA:=yA (show gj w g R G L w.heap.size (some nv) from ⟨⟨HLT.out.1,HLT.out.2.1,HLT.out.2.2,HLL.out⟩,HL.out,Nat.le_succ _,fun _ _=>yB _⟩);have HG2:=yA hg1;have HST1:=yA hst1;have HNC:=yA (show w2.cell? ⟨w.heap.size,0,none⟩=some (.int .i64 nv) from hra1 0 _ rfl);have HPT1:=yA hpt1;have HNV:=yA hnv;have HLC:=yA (hpt1.keep.cell ((Keep.of_below HBW.out (yB _) (fun _=>False)).cell HC.out id) (by have h1:=HL.out;have h2:=HLL.out;show ¬ (L=g∨L=R∨L=w.heap.size);omega));have HLF:=yA (aq (f9 HTH.out HBW.out) hpt1.keep (by have h1:=HL.out;have h2:=HLL.out;show ¬ (L=g∨L=R∨L=w.heap.size);omega))
 have HP2:=yA (show av w g R L a 1 w2 from by
  have h1:=HL.out;have h2:=HLL.out;have hk:=Keep.of_below HBW.out (yB _) (fun _=>False);exact ⟨hk.trans hpt1.keep (fun _ _ h=>h.elim) (fun i hi he=>by rcases he with e | e | e;exact .inl e;exact .inr (.inl e);omega),fun q hq v hv=>hpt1.keep.cell (hk.cell hv id) (by show ¬ (L=g∨L=R∨L=w.heap.size);omega),fun q m hm=>aq (aq hm hk id) hpt1.keep (by show ¬ (L=g∨L=R∨L=w.heap.size);omega)⟩)
 have HIN:=yA (pw (by omega) hst1 (fun l hl=>by subst hl;exact HG1.out.byt.1));have HF0:=yA (show Far s1 nv 0 from by cases hs:s1 with | none=>exact .inr ⟨rfl,rfl⟩ | some l=>exact .inl ⟨l,rfl,by have:=(HIN.out (by rw [hs];simp)).1;omega⟩);clear hnv hg1 hst1 hpt1 hra1 hc;obtain ⟨bad2,s2',hb2,hr2,hn2,hG2,hs2⟩:=HG2.out;obtain ⟨g0,g1,g2,gf⟩:=cells3 hb2;have lc:=HLC.out;have lf:w2.frozen? ⟨L,a,none⟩=false:=by have:=(HLF.out 0 (by omega)).2;rwa [zM] at this
 have hll2:=yL w2 _ lc;have hLg:¬ L=g:=HL.out.1;have HK3:=yA (aS w2 L a (.slice none 0 0))
 have H0:=yA (show dC w g R G L a w.heap.size s1 dL ad.cells ad.Ok 18 (some nv) 0 [] s1 (.slice none 0 0) (w2.setCell ⟨L,a,none⟩ (.slice none 0 0)) from
  ⟨rfl,(fun x hx=>by cases hx),HG2.out.keep HK3.out (fun e=>HL.out.1 e.symm) (fun e=>HL.out.2.1 e.symm) (fun e=>HL.out.2.2 e.symm),Step.rep0 _ _,HP2.out.trans (av.set w2 g R L a [.slice none 0 0]),by have:=yJ w2 L a [.slice none 0 0] HLF.out 0 _ rfl;rwa [zM] at this,⟨rfl,.inl ⟨rfl,rfl⟩⟩,(fun b hb=>by cases hb),fun v hv=>by cases hv;exact HK3.out.cell HNC.out (by have:=HLL.out;show ¬ w.heap.size=L;omega)⟩)
 clear hb2 hr2 hn2 hG2 hs2;go_wp2_with fail
 clear g0 g1 g2 gf lc lf hll2;generalize w2.setCell ⟨L,a,none⟩ (.slice none 0 0)=W3 at *;go_loopw [9] (fun i wr=>Hid (∃ (j:Nat) (xs:List ad) (sj:Option (List Int)) (sv:Value),i = .int .i64 j∧Far s1 nv j∧dC w g R G L a w.heap.size s1 dL ad.cells ad.Ok 18 (some nv) j xs sj sv wr)) (fun i _=>nv.toNat - (intOf i).toNat)
 case atStart=>exact yA ⟨0,[],s1,_,rfl,HF0.out,H0.out⟩
 case round=>
  clear H0;obtain ⟨j,xs,sj,sv,rfl,hj,hr⟩:=hrel.out;clear hrel;have HR:=yA hr;have HJ:=yA hj;clear hr hj;have n0:=HR.out.num nv rfl;by_cases hlt:(j:Int)<nv
  · have b1:decide ((j:Int)<nv)=true:=decide_eq_true hlt
    have HLT2:=yA hlt;clear hlt;go_wp2_with fail
    refine (dG wr g R G sj HR.out.gate).mono ?_;rintro e w4 ⟨rfl,hg4,hk4⟩;have HR4:=yA (HR.out.gated HA.out hg4 hk4);clear hg4 hk4 n0;cases sj with
    | none=>
      have HE:=yA (iE HST1.out HIN.out HJ.out HR4.out (yB _) (.inr rfl));go_wp2_with fail
      exact z9 (v:=.tuple #[]) (by simp [results,Tryz.results163,go_sem]) rfl ⟨rfl,HE.out⟩
    | some lj=>
      have HS1:=yA (show ∃ l,s1=some l∧(j:Int)≤nv from by
       rcases HJ.out with h | ⟨h,_⟩
       · exact h
       · have:=HR.out.step.1
         rw [h] at this;cases this)
      have HB4:=yA (show j<4096 from by
       obtain ⟨l,hl,_⟩:=HS1.out;have h1:=(HIN.out (by rw [hl];simp)).2;have h2:=HLT2.out;omega)
      obtain ⟨bad4,s4',hb4,hr4,hn4,hG4,hs4⟩:=HR4.out.gate;obtain ⟨g0,g1,g2,gf⟩:=cells3 hb4;clear hb4 hr4 hn4 hG4 hs4;go_upto_region 9 with fail
      clear g0 g1 g2 gf;obtain ⟨E,hE⟩:∃ E,w4.heap.size=E:=⟨_,rfl⟩;have HEN:=yA hE;have HZE:=yA (yE w4 (.cells #[.int .u8 0,.int .u8 0,.int .u8 0,.int .u8 0,.int .u8 0,.int .u8 0,.int .u8 0,.int .u8 0,.int .i16 0,.int .i16 0,.int .i16 0,.int .i16 0,.int .u8 0,.int .u8 0,.int .i64 0,.int .i64 0,.int .i64 0,.int .i64 0] 79));have HRE:=yA (HR4.out.below ((yH w4.heap.size w4).alloc (yB _) (.cells #[.int .u8 0,.int .u8 0,.int .u8 0,.int .u8 0,.int .u8 0,.int .u8 0,.int .u8 0,.int .u8 0,.int .i16 0,.int .i16 0,.int .i16 0,.int .i16 0,.int .u8 0,.int .u8 0,.int .i64 0,.int .i64 0,.int .i64 0,.int .i64 0] 79)));have HOL:=yA (fun (b:Nat) (hb:sv.ownBlock=some b)=>show b<w4.heap.size from HR4.out.own.lt b hb);rw [hE] at HZE HOL;try rw [hE]
      clear hE;generalize w4.alloc (.cells #[.int .u8 0,.int .u8 0,.int .u8 0,.int .u8 0,.int .u8 0,.int .u8 0,.int .u8 0,.int .u8 0,.int .i16 0,.int .i16 0,.int .i16 0,.int .i16 0,.int .u8 0,.int .u8 0,.int .i64 0,.int .i64 0,.int .i64 0,.int .i64 0] 79)=WE at *;have HZC:=yA (fun (w':World) (k:Keep (fun k=>sv.ownBlock=some k) WE w') (i:Nat) (u:Value) (hu:([.int .u8 0,.int .u8 0,.int .u8 0,.int .u8 0,.int .u8 0,.int .u8 0,.int .u8 0,.int .u8 0,.int .i16 0,.int .i16 0,.int .i16 0,.int .i16 0,.int .u8 0,.int .u8 0,.int .i64 0,.int .i64 0,.int .i64 0,.int .i64 0]:List Value)[i]?=some u)=>show w'.cell? ⟨E,0+i,none⟩=some u from k.cell (bp HZE.out 18 (show ([.int .u8 0,.int .u8 0,.int .u8 0,.int .u8 0,.int .u8 0,.int .u8 0,.int .u8 0,.int .u8 0,.int .i16 0,.int .i16 0,.int .i16 0,.int .i16 0,.int .u8 0,.int .u8 0,.int .i64 0,.int .i64 0,.int .i64 0,.int .i64 0]:List Value)=(#[.int .u8 0,.int .u8 0,.int .u8 0,.int .u8 0,.int .u8 0,.int .u8 0,.int .u8 0,.int .u8 0,.int .i16 0,.int .i16 0,.int .i16 0,.int .i16 0,.int .u8 0,.int .u8 0,.int .i64 0,.int .i64 0,.int .i64 0,.int .i64 0]:Array Value).toList.take 18 from rfl) i u hu) (fun e=>by have:=HOL.out E e;omega));have HNO:=yA (show ¬ sv.ownBlock=some L from fun e=>by have h1:=HRE.out.new L e;have h2:=HLL.out;omega);have HSK:=yA (fun (w':World) (k:Keep (fun k=>sv.ownBlock=some k) WE w')=>show w'.cell? ⟨L,a,none⟩=some sv∧∀ (i:Nat) (u:Value),([.int .u8 0,.int .u8 0,.int .u8 0,.int .u8 0,.int .u8 0,.int .u8 0,.int .u8 0,.int .u8 0,.int .i16 0,.int .i16 0,.int .i16 0,.int .i16 0,.int .u8 0,.int .u8 0,.int .i64 0,.int .i64 0,.int .i64 0,.int .i64 0]:List Value)[i]?=some u→w'.cell? ⟨E,0+i,none⟩=some u from ⟨k.cell HRE.out.cell HNO.out,HZC.out w' k⟩);obtain ⟨i5,hi,hz0,hz1,hz2⟩:=cR li;refine bd 5 2 (fun w'=>w'.cell? ⟨L,a,none⟩=some sv∧∀ (i:Nat) (u:Value),([.int .u8 0,.int .u8 0,.int .u8 0,.int .u8 0,.int .u8 0,.int .u8 0,.int .u8 0,.int .u8 0,.int .i16 0,.int .i16 0,.int .i16 0,.int .i16 0,.int .u8 0,.int .u8 0,.int .i64 0,.int .i64 0,.int .i64 0,.int .i64 0]:List Value)[i]?=some u→w'.cell? ⟨E,0+i,none⟩=some u) (by kernel_rfl) (by kernel_rfl) (fun _ _ _ _ _ h=>h) (HSK.out _ (Keep.drew _ _)) ?_;simp only [zH,zE,zI,zK]
      iterate 4 (
       refine bg (v:=?_) (Or.inl ⟨by rfl,?_⟩) ?_
       rotate_left
       · intro w' hSw
         have hSx:=hSw.1;clear hSw;try dsimp only at hSx
         go_simp
         try with_reducible rfl
       try simp only [Act.put,yM,yX,yZ])
      refine fE (o:=⟨some 44,.load 79 (.tmp 10),_,_,_,_⟩) rfl 79 (.tmp 10) rfl E 0 rfl [.int .u8 0,.int .u8 0,.int .u8 0,.int .u8 0,.int .u8 0,.int .u8 0,.int .u8 0,.int .u8 0,.int .i16 0,.int .i16 0,.int .i16 0,.int .i16 0,.int .u8 0,.int .u8 0,.int .i64 0,.int .i64 0,.int .i64 0,.int .i64 0] #[.int .u8 0,.int .u8 0,.int .u8 0,.int .u8 0,.int .u8 0,.int .u8 0,.int .u8 0,.int .u8 0,.int .i16 0,.int .i16 0,.int .i16 0,.int .i16 0,.int .u8 0,.int .u8 0,.int .i64 0,.int .i64 0,.int .i64 0,.int .i64 0] rfl _ (fun w' hSw=>hSw.2) Tryz.underlying79 rfl aK ?_;try simp only [Act.put,yM,yX,yZ]
      refine bs ?_;simp only [cF];refine aC rfl (fun K hK=>?_);go_simp
      refine hK _ _ ⟨HSK.out _ (Keep.of_below (((yH WE.heap.size WE).alloc (yB _) _).drew) (yB _) _),?_⟩;clear hK K;refine aC rfl (fun K hK=>?_);refine aM rfl (.tmp 43) (.tmp 45) 24 24 rfl 79 i5 _ 18 56 Tryz.underlying24 hi hz0 hz1 hz2 rfl sv j (cellsOf ad.cells xs) (by simp [Act.eval]) (HRE.out.own.keep (Keep.of_below (((yH WE.heap.size WE).alloc (yB _) _).drew) (yB _) (fun _=>False)) (fun _ _=>id)) (.slice (some ⟨WE.heap.size,0,none⟩) 1 1) 1 [.int .u8 0,.int .u8 0,.int .u8 0,.int .u8 0,.int .u8 0,.int .u8 0,.int .u8 0,.int .u8 0,.int .i16 0,.int .i16 0,.int .i16 0,.int .i16 0,.int .u8 0,.int .u8 0,.int .i64 0,.int .i64 0,.int .i64 0,.int .i64 0] (by simp [Act.eval]) (Src.litDrew Tryz.underlying24 18 _ rfl (px) _ _ (by first | rfl | simp)) (by have:=HB4.out;unfold maxLen;omega) (by have:=HB4.out;omega) ?_;intro ao2 q2 w5 ho2 hk2 hb2;have HKW:=yA (show Keep (fun k=>sv.ownBlock=some k) WE w5 from (Keep.of_below (((yH WE.heap.size WE).alloc (yB _) (.cells #[.int .u8 0,.int .u8 0,.int .u8 0,.int .u8 0,.int .u8 0,.int .u8 0,.int .u8 0,.int .u8 0,.int .i16 0,.int .i16 0,.int .i16 0,.int .i16 0,.int .u8 0,.int .u8 0,.int .i64 0,.int .i64 0,.int .i64 0,.int .i64 0] 79)).drew) (yB _) (fun _=>False)).trans hk2 (fun _ _ h=>h.elim) (fun _ _ h=>h));refine hK _ _ ⟨HSK.out _ HKW.out,?_⟩;clear hK K
      obtain ⟨gb,rfl⟩:∃ gb,ao2=some ⟨gb,0,none⟩:=by
       rcases ho2.2 with ⟨h1,h2⟩ | ⟨gb,cap,h1,_⟩
       · omega
       · cases h1;exact ⟨gb,rfl⟩
      have HHALF:=yA (HRE.out.laid HA.out (by have h1:=yL WE _ (HRE.out.num nv rfl);exact h1) HTH.out HKW.out ho2 (by
       rcases hb2 with h | ⟨gg,h1,h2⟩
       · exact .inl (by rw [←h];rfl)
       · cases h1
         refine .inr (yV ?_ h2);simp))
      have c0:=HKW.out.cell HRE.out.cell HNO.out
      have cf:w5.frozen? ⟨L,a,none⟩=false:=by
       have:=aq (HRE.out.put.room a 1 HTH.out) HKW.out HNO.out;have:=(this 0 (by omega)).2;rwa [zM] at this
      have cl:=yL w5 _ c0;clear ho2 hk2 hb2;have HEL:=yA (HHALF.out.elem ad.cells_length rfl);generalize hW6:w5.setCell ⟨L,a,none⟩ (.slice (some ⟨gb,0,none⟩) (j+1) q2)=W6 at *;have HW6:=yA hW6;clear hW6;obtain ⟨bad6,s6',hb6,hr6,hn6,hG6,hs6⟩:=HHALF.out.gate;have e0:=HHALF.out.cell;clear hb6 hr6 hn6 hG6 hs6;go_upto_region 10 with fail
      rw [HW6.out];clear c0 cf cl;go_wp2_with fail
      refine (qI W6 g R G gb (j*18) (some lj) HHALF.out.gate HEL.out.1 HEL.out.2.1 (by have h1:=HHALF.out.new;have h2:=HLT.out;omega)).mono ?_;rintro e w7 ⟨rfl,hp7⟩;obtain ⟨x7,s7,hr7⟩:=HHALF.out.read HA.out ad.cells_length rfl hp7;have HR7:=yA hr7
      have HF7:=yA (show Far s1 nv (j+1) from by
       obtain ⟨l,hl,_⟩:=HS1.out;have h2:=HLT2.out;exact .inl ⟨l,hl,by omega⟩)
      clear hp7 hr7 e0;have hjb:j<4096:=HB4.out;have hmeas:nv.toNat - (j+1)<nv.toNat - j:=by have h2:=HLT2.out;omega
      go_wp2_with fail
      go_roundw
      case rel=>exact yA ⟨j+1,xs++[x7],s7,_,by go_num,HF7.out,HR7.out⟩
      case measure=>simp [intOf];omega
  · have b1:decide ((j:Int)<nv)=false:=decide_eq_false hlt
    have HE:=yA (iE HST1.out HIN.out HJ.out HR.out (yB _) (.inl hlt));clear hlt;go_wp2_with fail
    exact z9 (v:=.tuple #[]) (by simp [results,Tryz.results163,go_sem]) rfl ⟨rfl,HE.out⟩
theorem uG:∀ u ∈ ([.int .u8 0,.int .u8 0,.int .u8 0,.int .u8 0,.int .u8 0,.int .u8 0,.int .u8 0,.int .u8 0,.int .i16 0,.int .i16 0,.int .u8 0,.int .u8 0,.int .i64 0,.int .i64 0]:List Value),u.oneCell'=true:=zO.1 (rfl:([.int .u8 0,.int .u8 0,.int .u8 0,.int .u8 0,.int .u8 0,.int .u8 0,.int .u8 0,.int .u8 0,.int .i16 0,.int .i16 0,.int .u8 0,.int .u8 0,.int .i64 0,.int .i64 0]:List Value).all (·.oneCell')=true)
theorem wL (w:World) (g R G L a:Nat) (s:Option (List Int)) (h:GtR w g R G s) (hc:w.cell? ⟨L,a,none⟩=some (.slice none 0 0)) (hth:w.there L a 1) (hL:L≠g∧L≠R∧L≠G) (most:Nat) (hm:most≤4096) :
 Calls Tryz.prog 165 #[.pointer (some ⟨g,0,none⟩),.pointer (some ⟨L,a,none⟩),.int .i64 (most:Int),.func (.func 166) #[.pointer (some ⟨g,0,none⟩)] #[]] w fun e w'=>e = .returned (.tuple #[])∧l9 w g R G L a s most d7 ak.cells ak.Ok 14 w':=by
 have HLT:=yA h.lt;have HLL:=yA (show L<w.heap.size from yL w ⟨L,a,none⟩ hc);have HL:=yA hL;have HTH:=yA hth;have HC:=yA hc;have HW:=yA h;have HNB:=yA (yE w (.cells #[.int .i64 0] 3));have HBW:=yA ((yH w.heap.size w).alloc (yB _) (.cells #[.int .i64 0] 3));clear h hth hL;go_enter Tryz.func165,Tryz.ntmps165
 go_wp2_with fail
 generalize w.alloc (.cells #[.int .i64 0] 3)=W1 at *;have HG1:=yA (HW.out.below HBW.out);have HNL:=yA (yK HNB.out);refine (d6 W1 g R G w.heap.size 0 s HG1.out most (by omega) 0 (by rw [yI _ _ _ _ _ (0,0) HNB.out];rfl) gM (aw HNB.out (yB 1)) (by have h1:=HLT.out;omega)).mono ?_;rintro e w2 ⟨rfl,nv,s1,hnv,hg1,hst1,hpt1,hra1⟩;have HA:=yA (show gj w g R G L w.heap.size (some nv) from ⟨⟨HLT.out.1,HLT.out.2.1,HLT.out.2.2,HLL.out⟩,HL.out,Nat.le_succ _,fun _ _=>yB _⟩);have HG2:=yA hg1;have HST1:=yA hst1;have HNC:=yA (show w2.cell? ⟨w.heap.size,0,none⟩=some (.int .i64 nv) from hra1 0 _ rfl);have HPT1:=yA hpt1;have HNV:=yA hnv;have HLC:=yA (hpt1.keep.cell ((Keep.of_below HBW.out (yB _) (fun _=>False)).cell HC.out id) (by have h1:=HL.out;have h2:=HLL.out;show ¬ (L=g∨L=R∨L=w.heap.size);omega));have HLF:=yA (aq (f9 HTH.out HBW.out) hpt1.keep (by have h1:=HL.out;have h2:=HLL.out;show ¬ (L=g∨L=R∨L=w.heap.size);omega))
 have HP2:=yA (show av w g R L a 1 w2 from by
  have h1:=HL.out;have h2:=HLL.out;have hk:=Keep.of_below HBW.out (yB _) (fun _=>False);exact ⟨hk.trans hpt1.keep (fun _ _ h=>h.elim) (fun i hi he=>by rcases he with e | e | e;exact .inl e;exact .inr (.inl e);omega),fun q hq v hv=>hpt1.keep.cell (hk.cell hv id) (by show ¬ (L=g∨L=R∨L=w.heap.size);omega),fun q m hm=>aq (aq hm hk id) hpt1.keep (by show ¬ (L=g∨L=R∨L=w.heap.size);omega)⟩)
 have HIN:=yA (pw (by omega) hst1 (fun l hl=>by subst hl;exact HG1.out.byt.1));have HF0:=yA (show Far s1 nv 0 from by cases hs:s1 with | none=>exact .inr ⟨rfl,rfl⟩ | some l=>exact .inl ⟨l,rfl,by have:=(HIN.out (by rw [hs];simp)).1;omega⟩);clear hnv hg1 hst1 hpt1 hra1 hc;obtain ⟨bad2,s2',hb2,hr2,hn2,hG2,hs2⟩:=HG2.out;obtain ⟨g0,g1,g2,gf⟩:=cells3 hb2;have lc:=HLC.out;have lf:w2.frozen? ⟨L,a,none⟩=false:=by have:=(HLF.out 0 (by omega)).2;rwa [zM] at this
 have hll2:=yL w2 _ lc;have hLg:¬ L=g:=HL.out.1;have HK3:=yA (aS w2 L a (.slice none 0 0))
 have H0:=yA (show dC w g R G L a w.heap.size s1 d7 ak.cells ak.Ok 14 (some nv) 0 [] s1 (.slice none 0 0) (w2.setCell ⟨L,a,none⟩ (.slice none 0 0)) from
  ⟨rfl,(fun x hx=>by cases hx),HG2.out.keep HK3.out (fun e=>HL.out.1 e.symm) (fun e=>HL.out.2.1 e.symm) (fun e=>HL.out.2.2 e.symm),Step.rep0 _ _,HP2.out.trans (av.set w2 g R L a [.slice none 0 0]),by have:=yJ w2 L a [.slice none 0 0] HLF.out 0 _ rfl;rwa [zM] at this,⟨rfl,.inl ⟨rfl,rfl⟩⟩,(fun b hb=>by cases hb),fun v hv=>by cases hv;exact HK3.out.cell HNC.out (by have:=HLL.out;show ¬ w.heap.size=L;omega)⟩)
 clear hb2 hr2 hn2 hG2 hs2;go_wp2_with fail
 clear g0 g1 g2 gf lc lf hll2;generalize w2.setCell ⟨L,a,none⟩ (.slice none 0 0)=W3 at *;go_loopw [9] (fun i wr=>Hid (∃ (j:Nat) (xs:List ak) (sj:Option (List Int)) (sv:Value),i = .int .i64 j∧Far s1 nv j∧dC w g R G L a w.heap.size s1 d7 ak.cells ak.Ok 14 (some nv) j xs sj sv wr)) (fun i _=>nv.toNat - (intOf i).toNat)
 case atStart=>exact yA ⟨0,[],s1,_,rfl,HF0.out,H0.out⟩
 case round=>
  clear H0;obtain ⟨j,xs,sj,sv,rfl,hj,hr⟩:=hrel.out;clear hrel;have HR:=yA hr;have HJ:=yA hj;clear hr hj;have n0:=HR.out.num nv rfl;by_cases hlt:(j:Int)<nv
  · have b1:decide ((j:Int)<nv)=true:=decide_eq_true hlt
    have HLT2:=yA hlt;clear hlt;go_wp2_with fail
    refine (dG wr g R G sj HR.out.gate).mono ?_;rintro e w4 ⟨rfl,hg4,hk4⟩;have HR4:=yA (HR.out.gated HA.out hg4 hk4);clear hg4 hk4 n0;cases sj with
    | none=>
      have HE:=yA (iE HST1.out HIN.out HJ.out HR4.out (yB _) (.inr rfl));go_wp2_with fail
      exact z9 (v:=.tuple #[]) (by simp [results,Tryz.results165,go_sem]) rfl ⟨rfl,HE.out⟩
    | some lj=>
      have HS1:=yA (show ∃ l,s1=some l∧(j:Int)≤nv from by
       rcases HJ.out with h | ⟨h,_⟩
       · exact h
       · have:=HR.out.step.1
         rw [h] at this;cases this)
      have HB4:=yA (show j<4096 from by
       obtain ⟨l,hl,_⟩:=HS1.out;have h1:=(HIN.out (by rw [hl];simp)).2;have h2:=HLT2.out;omega)
      obtain ⟨bad4,s4',hb4,hr4,hn4,hG4,hs4⟩:=HR4.out.gate;obtain ⟨g0,g1,g2,gf⟩:=cells3 hb4;clear hb4 hr4 hn4 hG4 hs4;go_upto_region 9 with fail
      clear g0 g1 g2 gf;obtain ⟨E,hE⟩:∃ E,w4.heap.size=E:=⟨_,rfl⟩;have HEN:=yA hE;have HZE:=yA (yE w4 (.cells #[.int .u8 0,.int .u8 0,.int .u8 0,.int .u8 0,.int .u8 0,.int .u8 0,.int .u8 0,.int .u8 0,.int .i16 0,.int .i16 0,.int .u8 0,.int .u8 0,.int .i64 0,.int .i64 0] 83));have HRE:=yA (HR4.out.below ((yH w4.heap.size w4).alloc (yB _) (.cells #[.int .u8 0,.int .u8 0,.int .u8 0,.int .u8 0,.int .u8 0,.int .u8 0,.int .u8 0,.int .u8 0,.int .i16 0,.int .i16 0,.int .u8 0,.int .u8 0,.int .i64 0,.int .i64 0] 83)));have HOL:=yA (fun (b:Nat) (hb:sv.ownBlock=some b)=>show b<w4.heap.size from HR4.out.own.lt b hb);rw [hE] at HZE HOL;try rw [hE]
      clear hE;generalize w4.alloc (.cells #[.int .u8 0,.int .u8 0,.int .u8 0,.int .u8 0,.int .u8 0,.int .u8 0,.int .u8 0,.int .u8 0,.int .i16 0,.int .i16 0,.int .u8 0,.int .u8 0,.int .i64 0,.int .i64 0] 83)=WE at *;have HZC:=yA (fun (w':World) (k:Keep (fun k=>sv.ownBlock=some k) WE w') (i:Nat) (u:Value) (hu:([.int .u8 0,.int .u8 0,.int .u8 0,.int .u8 0,.int .u8 0,.int .u8 0,.int .u8 0,.int .u8 0,.int .i16 0,.int .i16 0,.int .u8 0,.int .u8 0,.int .i64 0,.int .i64 0]:List Value)[i]?=some u)=>show w'.cell? ⟨E,0+i,none⟩=some u from k.cell (bp HZE.out 14 (show ([.int .u8 0,.int .u8 0,.int .u8 0,.int .u8 0,.int .u8 0,.int .u8 0,.int .u8 0,.int .u8 0,.int .i16 0,.int .i16 0,.int .u8 0,.int .u8 0,.int .i64 0,.int .i64 0]:List Value)=(#[.int .u8 0,.int .u8 0,.int .u8 0,.int .u8 0,.int .u8 0,.int .u8 0,.int .u8 0,.int .u8 0,.int .i16 0,.int .i16 0,.int .u8 0,.int .u8 0,.int .i64 0,.int .i64 0]:Array Value).toList.take 14 from rfl) i u hu) (fun e=>by have:=HOL.out E e;omega));have HNO:=yA (show ¬ sv.ownBlock=some L from fun e=>by have h1:=HRE.out.new L e;have h2:=HLL.out;omega);have HSK:=yA (fun (w':World) (k:Keep (fun k=>sv.ownBlock=some k) WE w')=>show w'.cell? ⟨L,a,none⟩=some sv∧∀ (i:Nat) (u:Value),([.int .u8 0,.int .u8 0,.int .u8 0,.int .u8 0,.int .u8 0,.int .u8 0,.int .u8 0,.int .u8 0,.int .i16 0,.int .i16 0,.int .u8 0,.int .u8 0,.int .i64 0,.int .i64 0]:List Value)[i]?=some u→w'.cell? ⟨E,0+i,none⟩=some u from ⟨k.cell HRE.out.cell HNO.out,HZC.out w' k⟩);obtain ⟨i5,hi,hz0,hz1,hz2⟩:=cR lk;refine bd 5 2 (fun w'=>w'.cell? ⟨L,a,none⟩=some sv∧∀ (i:Nat) (u:Value),([.int .u8 0,.int .u8 0,.int .u8 0,.int .u8 0,.int .u8 0,.int .u8 0,.int .u8 0,.int .u8 0,.int .i16 0,.int .i16 0,.int .u8 0,.int .u8 0,.int .i64 0,.int .i64 0]:List Value)[i]?=some u→w'.cell? ⟨E,0+i,none⟩=some u) (by kernel_rfl) (by kernel_rfl) (fun _ _ _ _ _ h=>h) (HSK.out _ (Keep.drew _ _)) ?_;simp only [zH,zE,zI,zK]
      iterate 4 (
       refine bg (v:=?_) (Or.inl ⟨by rfl,?_⟩) ?_
       rotate_left
       · intro w' hSw
         have hSx:=hSw.1;clear hSw;try dsimp only at hSx
         go_simp
         try with_reducible rfl
       try simp only [Act.put,yM,yX,yZ])
      refine fE (o:=⟨some 44,.load 83 (.tmp 10),_,_,_,_⟩) rfl 83 (.tmp 10) rfl E 0 rfl [.int .u8 0,.int .u8 0,.int .u8 0,.int .u8 0,.int .u8 0,.int .u8 0,.int .u8 0,.int .u8 0,.int .i16 0,.int .i16 0,.int .u8 0,.int .u8 0,.int .i64 0,.int .i64 0] #[.int .u8 0,.int .u8 0,.int .u8 0,.int .u8 0,.int .u8 0,.int .u8 0,.int .u8 0,.int .u8 0,.int .i16 0,.int .i16 0,.int .u8 0,.int .u8 0,.int .i64 0,.int .i64 0] rfl _ (fun w' hSw=>hSw.2) Tryz.underlying83 rfl dF ?_;try simp only [Act.put,yM,yX,yZ]
      refine bs ?_;simp only [cF];refine aC rfl (fun K hK=>?_);go_simp
      refine hK _ _ ⟨HSK.out _ (Keep.of_below (((yH WE.heap.size WE).alloc (yB _) _).drew) (yB _) _),?_⟩;clear hK K;refine aC rfl (fun K hK=>?_);refine aM rfl (.tmp 43) (.tmp 45) 25 25 rfl 83 i5 _ 14 32 Tryz.underlying25 hi hz0 hz1 hz2 rfl sv j (cellsOf ak.cells xs) (by simp [Act.eval]) (HRE.out.own.keep (Keep.of_below (((yH WE.heap.size WE).alloc (yB _) _).drew) (yB _) (fun _=>False)) (fun _ _=>id)) (.slice (some ⟨WE.heap.size,0,none⟩) 1 1) 1 [.int .u8 0,.int .u8 0,.int .u8 0,.int .u8 0,.int .u8 0,.int .u8 0,.int .u8 0,.int .u8 0,.int .i16 0,.int .i16 0,.int .u8 0,.int .u8 0,.int .i64 0,.int .i64 0] (by simp [Act.eval]) (Src.litDrew Tryz.underlying25 14 _ rfl (uG) _ _ (by first | rfl | simp)) (by have:=HB4.out;unfold maxLen;omega) (by have:=HB4.out;omega) ?_;intro ao2 q2 w5 ho2 hk2 hb2;have HKW:=yA (show Keep (fun k=>sv.ownBlock=some k) WE w5 from (Keep.of_below (((yH WE.heap.size WE).alloc (yB _) (.cells #[.int .u8 0,.int .u8 0,.int .u8 0,.int .u8 0,.int .u8 0,.int .u8 0,.int .u8 0,.int .u8 0,.int .i16 0,.int .i16 0,.int .u8 0,.int .u8 0,.int .i64 0,.int .i64 0] 83)).drew) (yB _) (fun _=>False)).trans hk2 (fun _ _ h=>h.elim) (fun _ _ h=>h));refine hK _ _ ⟨HSK.out _ HKW.out,?_⟩;clear hK K
      obtain ⟨gb,rfl⟩:∃ gb,ao2=some ⟨gb,0,none⟩:=by
       rcases ho2.2 with ⟨h1,h2⟩ | ⟨gb,cap,h1,_⟩
       · omega
       · cases h1;exact ⟨gb,rfl⟩
      have HHALF:=yA (HRE.out.laid HA.out (by have h1:=yL WE _ (HRE.out.num nv rfl);exact h1) HTH.out HKW.out ho2 (by
       rcases hb2 with h | ⟨gg,h1,h2⟩
       · exact .inl (by rw [←h];rfl)
       · cases h1
         refine .inr (yV ?_ h2);simp))
      have c0:=HKW.out.cell HRE.out.cell HNO.out
      have cf:w5.frozen? ⟨L,a,none⟩=false:=by
       have:=aq (HRE.out.put.room a 1 HTH.out) HKW.out HNO.out;have:=(this 0 (by omega)).2;rwa [zM] at this
      have cl:=yL w5 _ c0;clear ho2 hk2 hb2;have HEL:=yA (HHALF.out.elem ak.cells_length rfl);generalize hW6:w5.setCell ⟨L,a,none⟩ (.slice (some ⟨gb,0,none⟩) (j+1) q2)=W6 at *;have HW6:=yA hW6;clear hW6;obtain ⟨bad6,s6',hb6,hr6,hn6,hG6,hs6⟩:=HHALF.out.gate;have e0:=HHALF.out.cell;clear hb6 hr6 hn6 hG6 hs6;go_upto_region 10 with fail
      rw [HW6.out];clear c0 cf cl;go_wp2_with fail
      refine (wF W6 g R G gb (j*14) (some lj) HHALF.out.gate HEL.out.1 HEL.out.2.1 (by have h1:=HHALF.out.new;have h2:=HLT.out;omega)).mono ?_;rintro e w7 ⟨rfl,hp7⟩;obtain ⟨x7,s7,hr7⟩:=HHALF.out.read HA.out ak.cells_length rfl hp7;have HR7:=yA hr7
      have HF7:=yA (show Far s1 nv (j+1) from by
       obtain ⟨l,hl,_⟩:=HS1.out;have h2:=HLT2.out;exact .inl ⟨l,hl,by omega⟩)
      clear hp7 hr7 e0;have hjb:j<4096:=HB4.out;have hmeas:nv.toNat - (j+1)<nv.toNat - j:=by have h2:=HLT2.out;omega
      go_wp2_with fail
      go_roundw
      case rel=>exact yA ⟨j+1,xs++[x7],s7,_,by go_num,HF7.out,HR7.out⟩
      case measure=>simp [intOf];omega
  · have b1:decide ((j:Int)<nv)=false:=decide_eq_false hlt
    have HE:=yA (iE HST1.out HIN.out HJ.out HR.out (yB _) (.inl hlt));clear hlt;go_wp2_with fail
    exact z9 (v:=.tuple #[]) (by simp [results,Tryz.results165,go_sem]) rfl ⟨rfl,HE.out⟩
theorem uH:∀ u ∈ ([.int .i64 0,.int .i64 0,.int .i64 0]:List Value),u.oneCell'=true:=zO.1 (rfl:([.int .i64 0,.int .i64 0,.int .i64 0]:List Value).all (·.oneCell')=true)
theorem wM (w:World) (g R G L a:Nat) (s:Option (List Int)) (h:GtR w g R G s) (B:Nat) (hB:w.heap[B]?=some (.cells #[.pointer (some ⟨g,0,none⟩)] 142 (0,0))) (hBn:B≠g∧B≠R∧B≠L) (hc:w.cell? ⟨L,a,none⟩=some (.slice none 0 0)) (hth:w.there L a 1) (hL:L≠g∧L≠R∧L≠G) (most:Nat) (hm:most≤4096) :
 Calls Tryz.prog 167 #[.pointer (some ⟨g,0,none⟩),.pointer (some ⟨L,a,none⟩),.int .i64 (most:Int),.func (.func 168) #[] #[.pointer (some ⟨B,0,none⟩)]] w fun e w'=>e = .returned (.tuple #[])∧l9 w g R G L a s most eA ab.cells ab.Ok 3 w':=by
 have HLT:=yA h.lt;have HLL:=yA (show L<w.heap.size from yL w ⟨L,a,none⟩ hc);have HL:=yA hL;have HTH:=yA hth;have HB:=yA hB;have HBN:=yA hBn;have HBL:=yA (yK hB);clear hB hBn;have HC:=yA hc;have HW:=yA h;have HNB:=yA (yE w (.cells #[.int .i64 0] 3));have HBW:=yA ((yH w.heap.size w).alloc (yB _) (.cells #[.int .i64 0] 3));clear h hth hL;go_enter Tryz.func167,Tryz.ntmps167
 go_wp2_with fail
 generalize w.alloc (.cells #[.int .i64 0] 3)=W1 at *;have HG1:=yA (HW.out.below HBW.out);have HNL:=yA (yK HNB.out);refine (d6 W1 g R G w.heap.size 0 s HG1.out most (by omega) 0 (by rw [yI _ _ _ _ _ (0,0) HNB.out];rfl) gM (aw HNB.out (yB 1)) (by have h1:=HLT.out;omega)).mono ?_;rintro e w2 ⟨rfl,nv,s1,hnv,hg1,hst1,hpt1,hra1⟩;have HA:=yA (show gj w g R G L w.heap.size (some nv) from ⟨⟨HLT.out.1,HLT.out.2.1,HLT.out.2.2,HLL.out⟩,HL.out,Nat.le_succ _,fun _ _=>yB _⟩);have HG2:=yA hg1;have HST1:=yA hst1;have HNC:=yA (show w2.cell? ⟨w.heap.size,0,none⟩=some (.int .i64 nv) from hra1 0 _ rfl);have HPT1:=yA hpt1;have HNV:=yA hnv;have HLC:=yA (hpt1.keep.cell ((Keep.of_below HBW.out (yB _) (fun _=>False)).cell HC.out id) (by have h1:=HL.out;have h2:=HLL.out;show ¬ (L=g∨L=R∨L=w.heap.size);omega));have HLF:=yA (aq (f9 HTH.out HBW.out) hpt1.keep (by have h1:=HL.out;have h2:=HLL.out;show ¬ (L=g∨L=R∨L=w.heap.size);omega))
 have HP2:=yA (show av w g R L a 1 w2 from by
  have h1:=HL.out;have h2:=HLL.out;have hk:=Keep.of_below HBW.out (yB _) (fun _=>False);exact ⟨hk.trans hpt1.keep (fun _ _ h=>h.elim) (fun i hi he=>by rcases he with e | e | e;exact .inl e;exact .inr (.inl e);omega),fun q hq v hv=>hpt1.keep.cell (hk.cell hv id) (by show ¬ (L=g∨L=R∨L=w.heap.size);omega),fun q m hm=>aq (aq hm hk id) hpt1.keep (by show ¬ (L=g∨L=R∨L=w.heap.size);omega)⟩)
 have HIN:=yA (pw (by omega) hst1 (fun l hl=>by subst hl;exact HG1.out.byt.1));have HF0:=yA (show Far s1 nv 0 from by cases hs:s1 with | none=>exact .inr ⟨rfl,rfl⟩ | some l=>exact .inl ⟨l,rfl,by have:=(HIN.out (by rw [hs];simp)).1;omega⟩);clear hnv hg1 hst1 hpt1 hra1 hc;obtain ⟨bad2,s2',hb2,hr2,hn2,hG2,hs2⟩:=HG2.out;obtain ⟨g0,g1,g2,gf⟩:=cells3 hb2;have lc:=HLC.out;have lf:w2.frozen? ⟨L,a,none⟩=false:=by have:=(HLF.out 0 (by omega)).2;rwa [zM] at this
 have hll2:=yL w2 _ lc;have hLg:¬ L=g:=HL.out.1;have HK3:=yA (aS w2 L a (.slice none 0 0))
 have H0:=yA (show dC w g R G L a w.heap.size s1 eA ab.cells ab.Ok 3 (some nv) 0 [] s1 (.slice none 0 0) (w2.setCell ⟨L,a,none⟩ (.slice none 0 0)) from
  ⟨rfl,(fun x hx=>by cases hx),HG2.out.keep HK3.out (fun e=>HL.out.1 e.symm) (fun e=>HL.out.2.1 e.symm) (fun e=>HL.out.2.2 e.symm),Step.rep0 _ _,HP2.out.trans (av.set w2 g R L a [.slice none 0 0]),by have:=yJ w2 L a [.slice none 0 0] HLF.out 0 _ rfl;rwa [zM] at this,⟨rfl,.inl ⟨rfl,rfl⟩⟩,(fun b hb=>by cases hb),fun v hv=>by cases hv;exact HK3.out.cell HNC.out (by have:=HLL.out;show ¬ w.heap.size=L;omega)⟩)
 clear hb2 hr2 hn2 hG2 hs2;go_wp2_with fail
 clear g0 g1 g2 gf lc lf hll2;generalize w2.setCell ⟨L,a,none⟩ (.slice none 0 0)=W3 at *;go_loopw [9] (fun i wr=>Hid (∃ (j:Nat) (xs:List ab) (sj:Option (List Int)) (sv:Value),i = .int .i64 j∧Far s1 nv j∧dC w g R G L a w.heap.size s1 eA ab.cells ab.Ok 3 (some nv) j xs sj sv wr)) (fun i _=>nv.toNat - (intOf i).toNat)
 case atStart=>exact yA ⟨0,[],s1,_,rfl,HF0.out,H0.out⟩
 case round=>
  clear H0;obtain ⟨j,xs,sj,sv,rfl,hj,hr⟩:=hrel.out;clear hrel;have HR:=yA hr;have HJ:=yA hj;clear hr hj;have n0:=HR.out.num nv rfl;by_cases hlt:(j:Int)<nv
  · have b1:decide ((j:Int)<nv)=true:=decide_eq_true hlt
    have HLT2:=yA hlt;clear hlt;go_wp2_with fail
    refine (dG wr g R G sj HR.out.gate).mono ?_;rintro e w4 ⟨rfl,hg4,hk4⟩;have HR4:=yA (HR.out.gated HA.out hg4 hk4);clear hg4 hk4 n0;cases sj with
    | none=>
      have HE:=yA (iE HST1.out HIN.out HJ.out HR4.out (yB _) (.inr rfl));go_wp2_with fail
      exact z9 (v:=.tuple #[]) (by simp [results,Tryz.results167,go_sem]) rfl ⟨rfl,HE.out⟩
    | some lj=>
      have HS1:=yA (show ∃ l,s1=some l∧(j:Int)≤nv from by
       rcases HJ.out with h | ⟨h,_⟩
       · exact h
       · have:=HR.out.step.1
         rw [h] at this;cases this)
      have HB4:=yA (show j<4096 from by
       obtain ⟨l,hl,_⟩:=HS1.out;have h1:=(HIN.out (by rw [hl];simp)).2;have h2:=HLT2.out;omega)
      obtain ⟨bad4,s4',hb4,hr4,hn4,hG4,hs4⟩:=HR4.out.gate;obtain ⟨g0,g1,g2,gf⟩:=cells3 hb4;clear hb4 hr4 hn4 hG4 hs4;go_upto_region 9 with fail
      clear g0 g1 g2 gf;obtain ⟨E,hE⟩:∃ E,w4.heap.size=E:=⟨_,rfl⟩;have HEN:=yA hE;have HZE:=yA (yE w4 (.cells #[.int .i64 0,.int .i64 0,.int .i64 0] 114));have HRE:=yA (HR4.out.below ((yH w4.heap.size w4).alloc (yB _) (.cells #[.int .i64 0,.int .i64 0,.int .i64 0] 114)));have HOL:=yA (fun (b:Nat) (hb:sv.ownBlock=some b)=>show b<w4.heap.size from HR4.out.own.lt b hb);rw [hE] at HZE HOL;try rw [hE]
      clear hE;generalize w4.alloc (.cells #[.int .i64 0,.int .i64 0,.int .i64 0] 114)=WE at *;have HZC:=yA (fun (w':World) (k:Keep (fun k=>sv.ownBlock=some k) WE w') (i:Nat) (u:Value) (hu:([.int .i64 0,.int .i64 0,.int .i64 0]:List Value)[i]?=some u)=>show w'.cell? ⟨E,0+i,none⟩=some u from k.cell (bp HZE.out 3 (show ([.int .i64 0,.int .i64 0,.int .i64 0]:List Value)=(#[.int .i64 0,.int .i64 0,.int .i64 0]:Array Value).toList.take 3 from rfl) i u hu) (fun e=>by have:=HOL.out E e;omega));have HNO:=yA (show ¬ sv.ownBlock=some L from fun e=>by have h1:=HRE.out.new L e;have h2:=HLL.out;omega);have HSK:=yA (fun (w':World) (k:Keep (fun k=>sv.ownBlock=some k) WE w')=>show w'.cell? ⟨L,a,none⟩=some sv∧∀ (i:Nat) (u:Value),([.int .i64 0,.int .i64 0,.int .i64 0]:List Value)[i]?=some u→w'.cell? ⟨E,0+i,none⟩=some u from ⟨k.cell HRE.out.cell HNO.out,HZC.out w' k⟩);obtain ⟨i5,hi,hz0,hz1,hz2⟩:=cR gH;refine bd 5 2 (fun w'=>w'.cell? ⟨L,a,none⟩=some sv∧∀ (i:Nat) (u:Value),([.int .i64 0,.int .i64 0,.int .i64 0]:List Value)[i]?=some u→w'.cell? ⟨E,0+i,none⟩=some u) (by kernel_rfl) (by kernel_rfl) (fun _ _ _ _ _ h=>h) (HSK.out _ (Keep.drew _ _)) ?_;simp only [zH,zE,zI,zK]
      iterate 4 (
       refine bg (v:=?_) (Or.inl ⟨by rfl,?_⟩) ?_
       rotate_left
       · intro w' hSw
         have hSx:=hSw.1;clear hSw;try dsimp only at hSx
         go_simp
         try with_reducible rfl
       try simp only [Act.put,yM,yX,yZ])
      refine fE (o:=⟨some 44,.load 114 (.tmp 10),_,_,_,_⟩) rfl 114 (.tmp 10) rfl E 0 rfl [.int .i64 0,.int .i64 0,.int .i64 0] #[.int .i64 0,.int .i64 0,.int .i64 0] rfl _ (fun w' hSw=>hSw.2) Tryz.underlying114 rfl xJ ?_;try simp only [Act.put,yM,yX,yZ]
      refine bs ?_;simp only [cF];refine aC rfl (fun K hK=>?_);go_simp
      refine hK _ _ ⟨HSK.out _ (Keep.of_below (((yH WE.heap.size WE).alloc (yB _) _).drew) (yB _) _),?_⟩;clear hK K;refine aC rfl (fun K hK=>?_);refine aM rfl (.tmp 43) (.tmp 45) 26 26 rfl 114 i5 _ 3 24 Tryz.underlying26 hi hz0 hz1 hz2 rfl sv j (cellsOf ab.cells xs) (by simp [Act.eval]) (HRE.out.own.keep (Keep.of_below (((yH WE.heap.size WE).alloc (yB _) _).drew) (yB _) (fun _=>False)) (fun _ _=>id)) (.slice (some ⟨WE.heap.size,0,none⟩) 1 1) 1 [.int .i64 0,.int .i64 0,.int .i64 0] (by simp [Act.eval]) (Src.litDrew Tryz.underlying26 3 _ rfl (uH) _ _ (by first | rfl | simp)) (by have:=HB4.out;unfold maxLen;omega) (by have:=HB4.out;omega) ?_;intro ao2 q2 w5 ho2 hk2 hb2;have HKW:=yA (show Keep (fun k=>sv.ownBlock=some k) WE w5 from (Keep.of_below (((yH WE.heap.size WE).alloc (yB _) (.cells #[.int .i64 0,.int .i64 0,.int .i64 0] 114)).drew) (yB _) (fun _=>False)).trans hk2 (fun _ _ h=>h.elim) (fun _ _ h=>h));refine hK _ _ ⟨HSK.out _ HKW.out,?_⟩;clear hK K
      obtain ⟨gb,rfl⟩:∃ gb,ao2=some ⟨gb,0,none⟩:=by
       rcases ho2.2 with ⟨h1,h2⟩ | ⟨gb,cap,h1,_⟩
       · omega
       · cases h1;exact ⟨gb,rfl⟩
      have HHALF:=yA (HRE.out.laid HA.out (by have h1:=yL WE _ (HRE.out.num nv rfl);exact h1) HTH.out HKW.out ho2 (by
       rcases hb2 with h | ⟨gg,h1,h2⟩
       · exact .inl (by rw [←h];rfl)
       · cases h1
         refine .inr (yV ?_ h2);simp))
      have c0:=HKW.out.cell HRE.out.cell HNO.out
      have cf:w5.frozen? ⟨L,a,none⟩=false:=by
       have:=aq (HRE.out.put.room a 1 HTH.out) HKW.out HNO.out;have:=(this 0 (by omega)).2;rwa [zM] at this
      have cl:=yL w5 _ c0;clear ho2 hk2 hb2;have HEL:=yA (HHALF.out.elem ab.cells_length rfl);generalize hW6:w5.setCell ⟨L,a,none⟩ (.slice (some ⟨gb,0,none⟩) (j+1) q2)=W6 at *;have HW6:=yA hW6;clear hW6;obtain ⟨bad6,s6',hb6,hr6,hn6,hG6,hs6⟩:=HHALF.out.gate;have e0:=HHALF.out.cell;clear hb6 hr6 hn6 hG6 hs6;go_upto_region 10 with fail
      rw [HW6.out];clear c0 cf cl;go_wp2_with fail
      refine (wG W6 g R G gb (j*3) (some lj) HHALF.out.gate B (HHALF.out.put.old HB.out HBN.out) (by have h1:=HBN.out;have h2:=HHALF.out.new;have h3:=HBL.out;omega) HEL.out.1 HEL.out.2.1 (by have h1:=HHALF.out.new;have h2:=HLT.out;omega)).mono ?_;rintro e w7 ⟨rfl,hp7⟩;obtain ⟨x7,s7,hr7⟩:=HHALF.out.read HA.out ab.cells_length rfl hp7;have HR7:=yA hr7
      have HF7:=yA (show Far s1 nv (j+1) from by
       obtain ⟨l,hl,_⟩:=HS1.out;have h2:=HLT2.out;exact .inl ⟨l,hl,by omega⟩)
      clear hp7 hr7 e0;have hjb:j<4096:=HB4.out;have hmeas:nv.toNat - (j+1)<nv.toNat - j:=by have h2:=HLT2.out;omega
      go_wp2_with fail
      go_roundw
      case rel=>exact yA ⟨j+1,xs++[x7],s7,_,by go_num,HF7.out,HR7.out⟩
      case measure=>simp [intOf];omega
  · have b1:decide ((j:Int)<nv)=false:=decide_eq_false hlt
    have HE:=yA (iE HST1.out HIN.out HJ.out HR.out (yB _) (.inl hlt));clear hlt;go_wp2_with fail
    exact z9 (v:=.tuple #[]) (by simp [results,Tryz.results167,go_sem]) rfl ⟨rfl,HE.out⟩
theorem uI:∀ u ∈ ([.int .i64 0,.int .i64 0]:List Value),u.oneCell'=true:=zO.1 (rfl:([.int .i64 0,.int .i64 0]:List Value).all (·.oneCell')=true)
theorem wN (w:World) (g R G L a:Nat) (s:Option (List Int)) (h:GtR w g R G s) (B:Nat) (hB:w.heap[B]?=some (.cells #[.pointer (some ⟨g,0,none⟩)] 142 (0,0))) (hBn:B≠g∧B≠R∧B≠L) (hc:w.cell? ⟨L,a,none⟩=some (.slice none 0 0)) (hth:w.there L a 1) (hL:L≠g∧L≠R∧L≠G) (most:Nat) (hm:most≤4096) :
 Calls Tryz.prog 169 #[.pointer (some ⟨g,0,none⟩),.pointer (some ⟨L,a,none⟩),.int .i64 (most:Int),.func (.func 170) #[] #[.pointer (some ⟨B,0,none⟩)]] w fun e w'=>e = .returned (.tuple #[])∧l9 w g R G L a s most rdPair ag.cells ag.Ok 2 w':=by
 have HLT:=yA h.lt;have HLL:=yA (show L<w.heap.size from yL w ⟨L,a,none⟩ hc);have HL:=yA hL;have HTH:=yA hth;have HB:=yA hB;have HBN:=yA hBn;have HBL:=yA (yK hB);clear hB hBn;have HC:=yA hc;have HW:=yA h;have HNB:=yA (yE w (.cells #[.int .i64 0] 3));have HBW:=yA ((yH w.heap.size w).alloc (yB _) (.cells #[.int .i64 0] 3));clear h hth hL;go_enter Tryz.func169,Tryz.ntmps169
 go_wp2_with fail
 generalize w.alloc (.cells #[.int .i64 0] 3)=W1 at *;have HG1:=yA (HW.out.below HBW.out);have HNL:=yA (yK HNB.out);refine (d6 W1 g R G w.heap.size 0 s HG1.out most (by omega) 0 (by rw [yI _ _ _ _ _ (0,0) HNB.out];rfl) gM (aw HNB.out (yB 1)) (by have h1:=HLT.out;omega)).mono ?_;rintro e w2 ⟨rfl,nv,s1,hnv,hg1,hst1,hpt1,hra1⟩;have HA:=yA (show gj w g R G L w.heap.size (some nv) from ⟨⟨HLT.out.1,HLT.out.2.1,HLT.out.2.2,HLL.out⟩,HL.out,Nat.le_succ _,fun _ _=>yB _⟩);have HG2:=yA hg1;have HST1:=yA hst1;have HNC:=yA (show w2.cell? ⟨w.heap.size,0,none⟩=some (.int .i64 nv) from hra1 0 _ rfl);have HPT1:=yA hpt1;have HNV:=yA hnv;have HLC:=yA (hpt1.keep.cell ((Keep.of_below HBW.out (yB _) (fun _=>False)).cell HC.out id) (by have h1:=HL.out;have h2:=HLL.out;show ¬ (L=g∨L=R∨L=w.heap.size);omega));have HLF:=yA (aq (f9 HTH.out HBW.out) hpt1.keep (by have h1:=HL.out;have h2:=HLL.out;show ¬ (L=g∨L=R∨L=w.heap.size);omega))
 have HP2:=yA (show av w g R L a 1 w2 from by
  have h1:=HL.out;have h2:=HLL.out;have hk:=Keep.of_below HBW.out (yB _) (fun _=>False);exact ⟨hk.trans hpt1.keep (fun _ _ h=>h.elim) (fun i hi he=>by rcases he with e | e | e;exact .inl e;exact .inr (.inl e);omega),fun q hq v hv=>hpt1.keep.cell (hk.cell hv id) (by show ¬ (L=g∨L=R∨L=w.heap.size);omega),fun q m hm=>aq (aq hm hk id) hpt1.keep (by show ¬ (L=g∨L=R∨L=w.heap.size);omega)⟩)
 have HIN:=yA (pw (by omega) hst1 (fun l hl=>by subst hl;exact HG1.out.byt.1));have HF0:=yA (show Far s1 nv 0 from by cases hs:s1 with | none=>exact .inr ⟨rfl,rfl⟩ | some l=>exact .inl ⟨l,rfl,by have:=(HIN.out (by rw [hs];simp)).1;omega⟩);clear hnv hg1 hst1 hpt1 hra1 hc;obtain ⟨bad2,s2',hb2,hr2,hn2,hG2,hs2⟩:=HG2.out;obtain ⟨g0,g1,g2,gf⟩:=cells3 hb2;have lc:=HLC.out;have lf:w2.frozen? ⟨L,a,none⟩=false:=by have:=(HLF.out 0 (by omega)).2;rwa [zM] at this
 have hll2:=yL w2 _ lc;have hLg:¬ L=g:=HL.out.1;have HK3:=yA (aS w2 L a (.slice none 0 0))
 have H0:=yA (show dC w g R G L a w.heap.size s1 rdPair ag.cells ag.Ok 2 (some nv) 0 [] s1 (.slice none 0 0) (w2.setCell ⟨L,a,none⟩ (.slice none 0 0)) from
  ⟨rfl,(fun x hx=>by cases hx),HG2.out.keep HK3.out (fun e=>HL.out.1 e.symm) (fun e=>HL.out.2.1 e.symm) (fun e=>HL.out.2.2 e.symm),Step.rep0 _ _,HP2.out.trans (av.set w2 g R L a [.slice none 0 0]),by have:=yJ w2 L a [.slice none 0 0] HLF.out 0 _ rfl;rwa [zM] at this,⟨rfl,.inl ⟨rfl,rfl⟩⟩,(fun b hb=>by cases hb),fun v hv=>by cases hv;exact HK3.out.cell HNC.out (by have:=HLL.out;show ¬ w.heap.size=L;omega)⟩)
 clear hb2 hr2 hn2 hG2 hs2;go_wp2_with fail
 clear g0 g1 g2 gf lc lf hll2;generalize w2.setCell ⟨L,a,none⟩ (.slice none 0 0)=W3 at *;go_loopw [9] (fun i wr=>Hid (∃ (j:Nat) (xs:List ag) (sj:Option (List Int)) (sv:Value),i = .int .i64 j∧Far s1 nv j∧dC w g R G L a w.heap.size s1 rdPair ag.cells ag.Ok 2 (some nv) j xs sj sv wr)) (fun i _=>nv.toNat - (intOf i).toNat)
 case atStart=>exact yA ⟨0,[],s1,_,rfl,HF0.out,H0.out⟩
 case round=>
  clear H0;obtain ⟨j,xs,sj,sv,rfl,hj,hr⟩:=hrel.out;clear hrel;have HR:=yA hr;have HJ:=yA hj;clear hr hj;have n0:=HR.out.num nv rfl;by_cases hlt:(j:Int)<nv
  · have b1:decide ((j:Int)<nv)=true:=decide_eq_true hlt
    have HLT2:=yA hlt;clear hlt;go_wp2_with fail
    refine (dG wr g R G sj HR.out.gate).mono ?_;rintro e w4 ⟨rfl,hg4,hk4⟩;have HR4:=yA (HR.out.gated HA.out hg4 hk4);clear hg4 hk4 n0;cases sj with
    | none=>
      have HE:=yA (iE HST1.out HIN.out HJ.out HR4.out (yB _) (.inr rfl));go_wp2_with fail
      exact z9 (v:=.tuple #[]) (by simp [results,Tryz.results169,go_sem]) rfl ⟨rfl,HE.out⟩
    | some lj=>
      have HS1:=yA (show ∃ l,s1=some l∧(j:Int)≤nv from by
       rcases HJ.out with h | ⟨h,_⟩
       · exact h
       · have:=HR.out.step.1
         rw [h] at this;cases this)
      have HB4:=yA (show j<4096 from by
       obtain ⟨l,hl,_⟩:=HS1.out;have h1:=(HIN.out (by rw [hl];simp)).2;have h2:=HLT2.out;omega)
      obtain ⟨bad4,s4',hb4,hr4,hn4,hG4,hs4⟩:=HR4.out.gate;obtain ⟨g0,g1,g2,gf⟩:=cells3 hb4;clear hb4 hr4 hn4 hG4 hs4;go_upto_region 9 with fail
      clear g0 g1 g2 gf;obtain ⟨E,hE⟩:∃ E,w4.heap.size=E:=⟨_,rfl⟩;have HEN:=yA hE;have HZE:=yA (yE w4 (.cells #[.int .i64 0,.int .i64 0] 69));have HRE:=yA (HR4.out.below ((yH w4.heap.size w4).alloc (yB _) (.cells #[.int .i64 0,.int .i64 0] 69)));have HOL:=yA (fun (b:Nat) (hb:sv.ownBlock=some b)=>show b<w4.heap.size from HR4.out.own.lt b hb);rw [hE] at HZE HOL;try rw [hE]
      clear hE;generalize w4.alloc (.cells #[.int .i64 0,.int .i64 0] 69)=WE at *;have HZC:=yA (fun (w':World) (k:Keep (fun k=>sv.ownBlock=some k) WE w') (i:Nat) (u:Value) (hu:([.int .i64 0,.int .i64 0]:List Value)[i]?=some u)=>show w'.cell? ⟨E,0+i,none⟩=some u from k.cell (bp HZE.out 2 (show ([.int .i64 0,.int .i64 0]:List Value)=(#[.int .i64 0,.int .i64 0]:Array Value).toList.take 2 from rfl) i u hu) (fun e=>by have:=HOL.out E e;omega));have HNO:=yA (show ¬ sv.ownBlock=some L from fun e=>by have h1:=HRE.out.new L e;have h2:=HLL.out;omega);have HSK:=yA (fun (w':World) (k:Keep (fun k=>sv.ownBlock=some k) WE w')=>show w'.cell? ⟨L,a,none⟩=some sv∧∀ (i:Nat) (u:Value),([.int .i64 0,.int .i64 0]:List Value)[i]?=some u→w'.cell? ⟨E,0+i,none⟩=some u from ⟨k.cell HRE.out.cell HNO.out,HZC.out w' k⟩);obtain ⟨i5,hi,hz0,hz1,hz2⟩:=cR gI;refine bd 5 2 (fun w'=>w'.cell? ⟨L,a,none⟩=some sv∧∀ (i:Nat) (u:Value),([.int .i64 0,.int .i64 0]:List Value)[i]?=some u→w'.cell? ⟨E,0+i,none⟩=some u) (by kernel_rfl) (by kernel_rfl) (fun _ _ _ _ _ h=>h) (HSK.out _ (Keep.drew _ _)) ?_;simp only [zH,zE,zI,zK]
      iterate 4 (
       refine bg (v:=?_) (Or.inl ⟨by rfl,?_⟩) ?_
       rotate_left
       · intro w' hSw
         have hSx:=hSw.1;clear hSw;try dsimp only at hSx
         go_simp
         try with_reducible rfl
       try simp only [Act.put,yM,yX,yZ])
      refine fE (o:=⟨some 44,.load 69 (.tmp 10),_,_,_,_⟩) rfl 69 (.tmp 10) rfl E 0 rfl [.int .i64 0,.int .i64 0] #[.int .i64 0,.int .i64 0] rfl _ (fun w' hSw=>hSw.2) Tryz.underlying69 rfl pa ?_;try simp only [Act.put,yM,yX,yZ]
      refine bs ?_;simp only [cF];refine aC rfl (fun K hK=>?_);go_simp
      refine hK _ _ ⟨HSK.out _ (Keep.of_below (((yH WE.heap.size WE).alloc (yB _) _).drew) (yB _) _),?_⟩;clear hK K;refine aC rfl (fun K hK=>?_);refine aM rfl (.tmp 43) (.tmp 45) 29 29 rfl 69 i5 _ 2 16 Tryz.underlying29 hi hz0 hz1 hz2 rfl sv j (cellsOf ag.cells xs) (by simp [Act.eval]) (HRE.out.own.keep (Keep.of_below (((yH WE.heap.size WE).alloc (yB _) _).drew) (yB _) (fun _=>False)) (fun _ _=>id)) (.slice (some ⟨WE.heap.size,0,none⟩) 1 1) 1 [.int .i64 0,.int .i64 0] (by simp [Act.eval]) (Src.litDrew Tryz.underlying29 2 _ rfl (uI) _ _ (by first | rfl | simp)) (by have:=HB4.out;unfold maxLen;omega) (by have:=HB4.out;omega) ?_;intro ao2 q2 w5 ho2 hk2 hb2;have HKW:=yA (show Keep (fun k=>sv.ownBlock=some k) WE w5 from (Keep.of_below (((yH WE.heap.size WE).alloc (yB _) (.cells #[.int .i64 0,.int .i64 0] 69)).drew) (yB _) (fun _=>False)).trans hk2 (fun _ _ h=>h.elim) (fun _ _ h=>h));refine hK _ _ ⟨HSK.out _ HKW.out,?_⟩;clear hK K
      obtain ⟨gb,rfl⟩:∃ gb,ao2=some ⟨gb,0,none⟩:=by
       rcases ho2.2 with ⟨h1,h2⟩ | ⟨gb,cap,h1,_⟩
       · omega
       · cases h1;exact ⟨gb,rfl⟩
      have HHALF:=yA (HRE.out.laid HA.out (by have h1:=yL WE _ (HRE.out.num nv rfl);exact h1) HTH.out HKW.out ho2 (by
       rcases hb2 with h | ⟨gg,h1,h2⟩
       · exact .inl (by rw [←h];rfl)
       · cases h1
         refine .inr (yV ?_ h2);simp))
      have c0:=HKW.out.cell HRE.out.cell HNO.out
      have cf:w5.frozen? ⟨L,a,none⟩=false:=by
       have:=aq (HRE.out.put.room a 1 HTH.out) HKW.out HNO.out;have:=(this 0 (by omega)).2;rwa [zM] at this
      have cl:=yL w5 _ c0;clear ho2 hk2 hb2;have HEL:=yA (HHALF.out.elem ag.cells_length rfl);generalize hW6:w5.setCell ⟨L,a,none⟩ (.slice (some ⟨gb,0,none⟩) (j+1) q2)=W6 at *;have HW6:=yA hW6;clear hW6;obtain ⟨bad6,s6',hb6,hr6,hn6,hG6,hs6⟩:=HHALF.out.gate;have e0:=HHALF.out.cell;clear hb6 hr6 hn6 hG6 hs6;go_upto_region 10 with fail
      rw [HW6.out];clear c0 cf cl;go_wp2_with fail
      refine (wH W6 g R G gb (j*2) (some lj) HHALF.out.gate B (HHALF.out.put.old HB.out HBN.out) (by have h1:=HBN.out;have h2:=HHALF.out.new;have h3:=HBL.out;omega) HEL.out.1 HEL.out.2.1 (by have h1:=HHALF.out.new;have h2:=HLT.out;omega)).mono ?_;rintro e w7 ⟨rfl,hp7⟩;obtain ⟨x7,s7,hr7⟩:=HHALF.out.read HA.out ag.cells_length rfl hp7;have HR7:=yA hr7
      have HF7:=yA (show Far s1 nv (j+1) from by
       obtain ⟨l,hl,_⟩:=HS1.out;have h2:=HLT2.out;exact .inl ⟨l,hl,by omega⟩)
      clear hp7 hr7 e0;have hjb:j<4096:=HB4.out;have hmeas:nv.toNat - (j+1)<nv.toNat - j:=by have h2:=HLT2.out;omega
      go_wp2_with fail
      go_roundw
      case rel=>exact yA ⟨j+1,xs++[x7],s7,_,by go_num,HF7.out,HR7.out⟩
      case measure=>simp [intOf];omega
  · have b1:decide ((j:Int)<nv)=false:=decide_eq_false hlt
    have HE:=yA (iE HST1.out HIN.out HJ.out HR.out (yB _) (.inl hlt));clear hlt;go_wp2_with fail
    exact z9 (v:=.tuple #[]) (by simp [results,Tryz.results169,go_sem]) rfl ⟨rfl,HE.out⟩
end Go.Proofs.YtcaicgipibcicaaGreat
