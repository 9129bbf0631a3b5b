/- The gate reads who waits. -/
import Derived.Test.YtcaicgipibcicaaGreatQRdG3
set_option maxRecDepth 100000
set_option maxHeartbeats 8000000
set_option linter.unusedSimpArgs false
set_option linter.unusedVariables false
open Go.Lib renaming hid→yA
open List renaming getElem?_eq_some_iff→yD
open Nat renaming le_refl→yB
namespace Go.Proofs.YtcaicgipibcicaaGreat
open Go.RowKit Go.Sort
def fU:az:=⟨0,0,0,0,0,0,0,0,0,0,0,0,0,0,0,0⟩
def waitZ:ad:=⟨fU,0,0⟩
theorem gM:ar 0:=by unfold ar;omega
theorem xV:fU.Ok:=⟨by simp [bT,fU],by simp [bc,fU],by simp [bc,fU],by simp [bT,fU],by simp [bT,fU],gM,gM⟩
def cj:Nat:=9223372036854775807
def dL:bl ad:=iD (fun y:(az × Int) × Int=>⟨y.1.1,y.1.2,y.2⟩) (iN Prod.mk (iN Prod.mk (ei fU 7) (ce cj)) (ce cj))
theorem av.range {w w':World} {g R P o n a:Nat} {cs:List Value} (h:av w g R P o n w') (hr:w.rangeAt P a cs) (hap:a+cs.length≤o∨o+n≤a):w'.rangeAt P a cs:=fun j v hv=>by
 have hj:=(yD.1 hv).1;exact h.else_ _ (by omega) v (hr j v hv)
theorem av.old {w w':World} {g R P o n:Nat} (h:av w g R P o n w') {b:Nat} {ob:Obj} (hb:w.heap[b]?=some ob) (h1:b≠g∧b≠R∧b≠P):w'.heap[b]?=some ob:=
 h.keep.old hb (fun e=>by rcases e with e | e | e;exact h1.1 e;exact h1.2.1 e;exact h1.2.2 e)
theorem av.below {w w':World} {g R P o n:Nat} (hb:Below w.heap.size w w'):av w g R P o n w':=av.of_keep (Keep.of_below hb (yB _) (fun _=>False)) (fun _ h=>h.elim)
theorem qI (w:World) (g R G P o:Nat) (s:Option (List Int)) (h:GtR w g R G s) (hold:w.rangeAt P o waitZ.cells) (hth:w.there P o 18) (hP:P≠g∧P≠R∧P≠G) :
 Calls Tryz.prog 164 #[.pointer (some ⟨g,0,none⟩),.pointer (some ⟨P,o,none⟩)] w fun e w'=>e = .returned (.tuple #[])∧aN w g R G P o 18 s dL ad.cells ad.Ok w':=by
 have H:=yA h;have HO:=yA hold;have HTH:=yA hth;have HP:=yA hP;have HLT:=yA h.lt;have HPL:=yA (show P<w.heap.size from World.block_lt_of_cell? w ⟨P,o,none⟩ (hold 0 _ rfl));clear h hold hth hP;go_enter Tryz.func164,Tryz.ntmps164
 go_wp2_with fail
 refine (nF w (.pointer (some ⟨g,0,none⟩)) (.pointer (some ⟨P,o,none⟩)) ⟨_,rfl⟩ ⟨_,rfl⟩).mono ?_;rintro e w1 ⟨rfl,hw1⟩;have HB:=yA (kP w (.pointer (some ⟨g,0,none⟩)) (.pointer (some ⟨P,o,none⟩)));rw [←hw1] at HB;have HK:=yA (show Keep (fun _=>False) w w1 from by rw [hw1];exact ((Keep.alloc (fun _=>False) _ _).trans (Keep.alloc (fun _=>False) _ _) (fun _ _ h=>h) (fun _ _ h=>h)).trans (Keep.alloc (fun _=>False) _ _) (fun _ _ h=>h) (fun _ _ h=>h));clear hw1;have HB0:=yA (show w.heap.size≠g∧w.heap.size≠R∧w.heap.size≠P from by have h1:=HLT.out;have h2:=HPL.out;omega);have HB1:=yA (show w.heap.size+1≠g∧w.heap.size+1≠R∧w.heap.size+1≠P from by have h1:=HLT.out;have h2:=HPL.out;omega);have HB2:=yA (show w.heap.size+1+1≠g∧w.heap.size+1+1≠R∧w.heap.size+1+1≠P from by have h1:=HLT.out;have h2:=HPL.out;omega);generalize w.heap.size+1+1=B2 at *;generalize w.heap.size+1=B1 at *;have HWE:=yA (show ∃ B0,w.heap.size=B0 from ⟨_,rfl⟩);obtain ⟨B0,hB0⟩:=HWE.out;rw [hB0] at HB HB0;clear HWE hB0;have HG1:=yA (H.out.keep HK.out id id id);have HO1:=yA (gL HO.out HK.out id);have HTH1:=yA (aq HTH.out HK.out id);go_wp2_with fail
 go_loopw [12] (fun i wr=>Hid (∃ (k:Nat) (x:az) (s':Option (List Int)),i = .int .i64 k∧k≤7∧x.Ok∧GtR wr g R G s'∧Step (ei fU k) s s' x∧av w1 g R P o 16 wr∧wr.rangeAt P o x.cells)) (fun i _=>7 - (intOf i).toNat)
 case atStart=>exact yA ⟨0,fU,s,rfl,Nat.zero_le _,xV,HG1.out,by cases s with | none=>exact Step.none _ _ | some l=>exact Step.some rfl,av.refl _ _ _ _ _ _,fun j v hv=>HO1.out j v (by
  have hj:j<16:=(yD.1 hv).1;rw [←hv,show fU.cells=waitZ.cells.take 16 from rfl,List.getElem?_take,if_pos hj])⟩
 case round=>
  obtain ⟨k,x,s',rfl,hk,hx,hg,hst,hpt,hra⟩:=hrel.out;clear hrel;have HX:=yA hx;have HG:=yA hg;have HST:=yA hst;have HPT:=yA hpt;have HRA:=yA hra;clear hx hg hst hpt hra;by_cases hlt:k<7
  · obtain ⟨fn,hgk⟩:∃ fn,[202,203,204,205,206,207,208][k]?=some fn:=⟨[202,203,204,205,206,207,208][k]'(by simpa using hlt),List.getElem?_eq_getElem _⟩
    have hcell:=HPT.out.keep.cell (HB.out.2.2 k fn hgk) (by have:=HB2.out;exact fun e=>by rcases e with e | e | e;exact this.1 e;exact this.2.1 e;exact this.2.2 e);have HCALL:=yA (sC wr g R G P o s' HG.out B0 B1 (HPT.out.old HB.out.1 HB0.out) (HPT.out.old HB.out.2.1 HB1.out) x HX.out HRA.out (HPT.out.room _ _ (aI HTH1.out 0 16 (by omega))) HP.out k fn hgk);have hrun:=oM fn (List.mem_of_getElem? hgk);clear hgk;go_wp2_with fail
    refine HCALL.out.mono ?_;rintro r w2 ⟨rfl,x2,s2,hx2,hg2,hst2,hpt2,hra2⟩;have HE:=yA (show x2.Ok∧GtR w2 g R G s2∧Step (ei fU (k+1)) s s2 x2∧av w1 g R P o 16 w2∧w2.rangeAt P o x2.cells from ⟨hx2,hg2,HST.out.part hst2,HPT.out.trans hpt2,hra2⟩);clear hx2 hg2 hst2 hpt2 hra2 hcell hrun HCALL;go_wp2_with fail
    go_roundw
    case rel=>exact yA ⟨k+1,x2,s2,by go_num,by omega,HE.out⟩
    case measure=>simp [intOf];omega
  · obtain rfl:7=k:=by omega
    clear hlt
    as_aux_lemma=>
     have HR16:=yA (HPT.out.range (cS (A:=fU.cells) (B:=[.int .i64 0,.int .i64 0]) (C:=[]) (show w1.rangeAt P o (fU.cells++[.int .i64 0,.int .i64 0]++[]) from HO1.out)) (.inr (yB _)));have HTH2:=yA (HPT.out.room _ _ HTH1.out);go_wp2_with fail
     refine (d6 wr g R G P (o+16) s' HG.out cj (by decide) 0 (HR16.out 0 _ rfl) gM (aI HTH2.out 16 1 (by omega)) HP.out).mono ?_;rintro e w2 ⟨rfl,n1,s2,hn1,hg2,hst2,hpt2,hra2⟩;have HG2:=yA hg2;have HN1:=yA hn1;have HST2:=yA (Step.seq (f:=Prod.mk) HST.out hst2);have HPT2:=yA ((HPT.out.wide (yB o) (show o+16≤o+18 by omega)).trans (hpt2.wide (show o≤o+16 by omega) (show o+16+1≤o+18 by omega)));have HRX:=yA (hpt2.range HRA.out (.inl (yB _)));have HR17:=yA (hpt2.else_ (o+17) (.inr (by omega)) _ (HR16.out 1 _ rfl));have HRN:=yA hra2;have HTH3:=yA (hpt2.room _ _ HTH2.out);clear hn1 hg2 hst2 hpt2 hra2;go_wp2_with fail
     refine (d6 w2 g R G P (o+17) s2 HG2.out cj (by decide) 0 HR17.out gM (aI HTH3.out 17 1 (by omega)) HP.out).mono ?_;rintro e w3 ⟨rfl,n2,s3,hn2,hg3,hst3,hpt3,hra3⟩
     have HE:=yA (show aN w g R G P o 18 s dL ad.cells ad.Ok w3 from by
      refine ⟨⟨x,n1,n2⟩,s3,⟨HX.out,HN1.out,hn2⟩,hg3,(Step.seq (f:=Prod.mk) HST2.out hst3).map (fun y:(az × Int) × Int=>(⟨y.1.1,y.1.2,y.2⟩:ad)) dL (fun l=>rfl),?_,?_⟩
      · exact (av.of_keep HK.out (fun _ h=>h.elim)).trans (HPT2.out.trans (hpt3.wide (show o≤o+17 by omega) (show o+17+1≤o+18 by omega)))
      · exact bQ (A:=x.cells++[.int .i64 n1]) (B:=[.int .i64 n2]) (bQ (A:=x.cells) (B:=[.int .i64 n1]) (hpt3.range HRX.out (.inl (by show o+16≤o+17;omega))) (hpt3.range HRN.out (.inl (yB _)))) hra3)
     clear hn2 hg3 hst3 hpt3 hra3;go_wp2_with fail
     exact bodyPost_end (v:=.tuple #[]) (by simp [results,Tryz.results164,go_sem]) rfl ⟨rfl,HE.out⟩
end Go.Proofs.YtcaicgipibcicaaGreat
