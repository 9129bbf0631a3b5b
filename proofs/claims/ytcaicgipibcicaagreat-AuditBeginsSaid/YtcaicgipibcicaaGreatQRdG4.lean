/- The gate reads who waits. -/
import Derived.Test.YtcaicgipibcicaaGreatQRdG3
set_option maxRecDepth 100000
set_option maxHeartbeats 8000000
set_option linter.unusedSimpArgs false
set_option linter.unusedVariables false
open Go.Lib renaming hid→wB
open List renaming getElem?_eq_some_iff→wD
open Nat renaming le_refl→wC
namespace Go.Proofs.YtcaicgipibcicaaGreat
open Go.RowKit Go.Sort
def ik:aB:=⟨0,0,0,0,0,0,0,0,0,0,0,0,0,0,0,0⟩
def waitZ:aa:=⟨ik,0,0⟩
theorem fQ:ar 0:=by unfold ar;omega
theorem vX:ik.Ok:=⟨by simp [bp,ik],by simp [aY,ik],by simp [aY,ik],by simp [bp,ik],by simp [bp,ik],fQ,fQ⟩
def em:Nat:=9223372036854775807
def fR:aW aa:=dT (fun y:(aB × Int) × Int=>⟨y.1.1,y.1.2,y.2⟩) (ft Prod.mk (ft Prod.mk (e8 ik 7) (cz em)) (cz em))
theorem aq.range {w w':World} {g R P o n a:Nat} {cs:List Value} (h:aq w g R P o n w') (hr:w.rangeAt P a cs) (hap:a+cs.length≤o∨o+n≤a):w'.rangeAt P a cs:=fun j v hv=>by
 have hj:=(wD.1 hv).1;exact h.else_ _ (by omega) v (hr j v hv)
theorem aq.old {w w':World} {g R P o n:Nat} (h:aq w g R P o n w') {b:Nat} {ob:Obj} (hb:w.heap[b]?=some ob) (h1:b≠g∧b≠R∧b≠P):w'.heap[b]?=some ob:=
 h.keep.old hb (fun e=>by rcases e with e | e | e;exact h1.1 e;exact h1.2.1 e;exact h1.2.2 e)
theorem aq.below {w w':World} {g R P o n:Nat} (hb:Below w.heap.size w w'):aq w g R P o n w':=aq.of_keep (Keep.of_below hb (wC _) (fun _=>False)) (fun _ h=>h.elim)
theorem oZ (w:World) (g R G P o:Nat) (s:Option (List Int)) (h:GtR w g R G s) (hold:w.rangeAt P o waitZ.cells) (hth:w.there P o 18) (hP:P≠g∧P≠R∧P≠G) :
 Calls Tryz.prog 164 #[.pointer (some ⟨g,0,none⟩),.pointer (some ⟨P,o,none⟩)] w fun e w'=>e = .returned (.tuple #[])∧aE w g R G P o 18 s fR aa.cells aa.Ok w':=by
 have H:=wB h;have HO:=wB hold;have HTH:=wB hth;have HP:=wB hP;have HLT:=wB h.lt;have HPL:=wB (show P<w.heap.size from World.block_lt_of_cell? w ⟨P,o,none⟩ (hold 0 _ rfl));clear h hold hth hP;go_enter Tryz.func164,Tryz.ntmps164
 go_wp2_with fail
 refine (mc w (.pointer (some ⟨g,0,none⟩)) (.pointer (some ⟨P,o,none⟩)) ⟨_,rfl⟩ ⟨_,rfl⟩).mono ?_;rintro e w1 ⟨rfl,hw1⟩;have HB:=wB (jm w (.pointer (some ⟨g,0,none⟩)) (.pointer (some ⟨P,o,none⟩)));rw [←hw1] at HB;have HK:=wB (show Keep (fun _=>False) w w1 from by rw [hw1];exact ((Keep.alloc (fun _=>False) _ _).trans (Keep.alloc (fun _=>False) _ _) (fun _ _ h=>h) (fun _ _ h=>h)).trans (Keep.alloc (fun _=>False) _ _) (fun _ _ h=>h) (fun _ _ h=>h));clear hw1;have HB0:=wB (show w.heap.size≠g∧w.heap.size≠R∧w.heap.size≠P from by have h1:=HLT.out;have h2:=HPL.out;omega);have HB1:=wB (show w.heap.size+1≠g∧w.heap.size+1≠R∧w.heap.size+1≠P from by have h1:=HLT.out;have h2:=HPL.out;omega);have HB2:=wB (show w.heap.size+1+1≠g∧w.heap.size+1+1≠R∧w.heap.size+1+1≠P from by have h1:=HLT.out;have h2:=HPL.out;omega);generalize w.heap.size+1+1=B2 at *;generalize w.heap.size+1=B1 at *;have HWE:=wB (show ∃ B0,w.heap.size=B0 from ⟨_,rfl⟩);obtain ⟨B0,hB0⟩:=HWE.out;rw [hB0] at HB HB0;clear HWE hB0;have HG1:=wB (H.out.keep HK.out id id id);have HO1:=wB (fG HO.out HK.out id);have HTH1:=wB (av HTH.out HK.out id);go_wp2_with fail
 go_loopw [12] (fun i wr=>Hid (∃ (k:Nat) (x:aB) (s':Option (List Int)),i = .int .i64 k∧k≤7∧x.Ok∧GtR wr g R G s'∧Step (e8 ik k) s s' x∧aq w1 g R P o 16 wr∧wr.rangeAt P o x.cells)) (fun i _=>7 - (intOf i).toNat)
 case atStart=>exact wB ⟨0,ik,s,rfl,Nat.zero_le _,vX,HG1.out,by cases s with | none=>exact Step.none _ _ | some l=>exact Step.some rfl,aq.refl _ _ _ _ _ _,fun j v hv=>HO1.out j v (by
  have hj:j<16:=(wD.1 hv).1;rw [←hv,show ik.cells=waitZ.cells.take 16 from rfl,List.getElem?_take,if_pos hj])⟩
 case round=>
  obtain ⟨k,x,s',rfl,hk,hx,hg,hst,hpt,hra⟩:=hrel.out;clear hrel;have HX:=wB hx;have HG:=wB hg;have HST:=wB hst;have HPT:=wB hpt;have HRA:=wB hra;clear hx hg hst hpt hra;by_cases hlt:k<7
  · obtain ⟨fn,hgk⟩:∃ fn,[202,203,204,205,206,207,208][k]?=some fn:=⟨[202,203,204,205,206,207,208][k]'(by simpa using hlt),List.getElem?_eq_getElem _⟩
    have hcell:=HPT.out.keep.cell (HB.out.2.2 k fn hgk) (by have:=HB2.out;exact fun e=>by rcases e with e | e | e;exact this.1 e;exact this.2.1 e;exact this.2.2 e);have HCALL:=wB (qP wr g R G P o s' HG.out B0 B1 (HPT.out.old HB.out.1 HB0.out) (HPT.out.old HB.out.2.1 HB1.out) x HX.out HRA.out (HPT.out.room _ _ (aF HTH1.out 0 16 (by omega))) HP.out k fn hgk);have hrun:=m8 fn (List.mem_of_getElem? hgk);clear hgk;go_wp2_with fail
    refine HCALL.out.mono ?_;rintro r w2 ⟨rfl,x2,s2,hx2,hg2,hst2,hpt2,hra2⟩;have HE:=wB (show x2.Ok∧GtR w2 g R G s2∧Step (e8 ik (k+1)) s s2 x2∧aq w1 g R P o 16 w2∧w2.rangeAt P o x2.cells from ⟨hx2,hg2,HST.out.part hst2,HPT.out.trans hpt2,hra2⟩);clear hx2 hg2 hst2 hpt2 hra2 hcell hrun HCALL;go_wp2_with fail
    go_roundw
    case rel=>exact wB ⟨k+1,x2,s2,by go_num,by omega,HE.out⟩
    case measure=>simp [intOf];omega
  · obtain rfl:7=k:=by omega
    clear hlt
    as_aux_lemma=>
     have HR16:=wB (HPT.out.range (bT (A:=ik.cells) (B:=[.int .i64 0,.int .i64 0]) (C:=[]) (show w1.rangeAt P o (ik.cells++[.int .i64 0,.int .i64 0]++[]) from HO1.out)) (.inr (wC _)));have HTH2:=wB (HPT.out.room _ _ HTH1.out);go_wp2_with fail
     refine (dy wr g R G P (o+16) s' HG.out em (by decide) 0 (HR16.out 0 _ rfl) fQ (aF HTH2.out 16 1 (by omega)) HP.out).mono ?_;rintro e w2 ⟨rfl,n1,s2,hn1,hg2,hst2,hpt2,hra2⟩;have HG2:=wB hg2;have HN1:=wB hn1;have HST2:=wB (Step.seq (f:=Prod.mk) HST.out hst2);have HPT2:=wB ((HPT.out.wide (wC o) (show o+16≤o+18 by omega)).trans (hpt2.wide (show o≤o+16 by omega) (show o+16+1≤o+18 by omega)));have HRX:=wB (hpt2.range HRA.out (.inl (wC _)));have HR17:=wB (hpt2.else_ (o+17) (.inr (by omega)) _ (HR16.out 1 _ rfl));have HRN:=wB hra2;have HTH3:=wB (hpt2.room _ _ HTH2.out);clear hn1 hg2 hst2 hpt2 hra2;go_wp2_with fail
     refine (dy w2 g R G P (o+17) s2 HG2.out em (by decide) 0 HR17.out fQ (aF HTH3.out 17 1 (by omega)) HP.out).mono ?_;rintro e w3 ⟨rfl,n2,s3,hn2,hg3,hst3,hpt3,hra3⟩
     have HE:=wB (show aE w g R G P o 18 s fR aa.cells aa.Ok w3 from by
      refine ⟨⟨x,n1,n2⟩,s3,⟨HX.out,HN1.out,hn2⟩,hg3,(Step.seq (f:=Prod.mk) HST2.out hst3).map (fun y:(aB × Int) × Int=>(⟨y.1.1,y.1.2,y.2⟩:aa)) fR (fun l=>rfl),?_,?_⟩
      · exact (aq.of_keep HK.out (fun _ h=>h.elim)).trans (HPT2.out.trans (hpt3.wide (show o≤o+17 by omega) (show o+17+1≤o+18 by omega)))
      · exact bk (A:=x.cells++[.int .i64 n1]) (B:=[.int .i64 n2]) (bk (A:=x.cells) (B:=[.int .i64 n1]) (hpt3.range HRX.out (.inl (by show o+16≤o+17;omega))) (hpt3.range HRN.out (.inl (wC _)))) hra3)
     clear hn2 hg3 hst3 hpt3 hra3;go_wp2_with fail
     exact bodyPost_end (v:=.tuple #[]) (by simp [results,Tryz.results164,go_sem]) rfl ⟨rfl,HE.out⟩
end Go.Proofs.YtcaicgipibcicaaGreat
