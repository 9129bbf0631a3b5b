/- The journal's gate while it reads. -/
import Derived.Test.YtcaicgipibcicaaGreatQRdY
import Derived.Test.YtcaicgipibcicaaGreatQAuMap
set_option maxRecDepth 100000
set_option maxHeartbeats 8000000
set_option linter.unusedSimpArgs false
set_option linter.unusedVariables false
open Go.Lib renaming hid→wB
namespace Go.Proofs.YtcaicgipibcicaaGreat
open Go.RowKit Go.Sort
def GtR (w:World) (g R G:Nat) (s:Option (List Int)):Prop:=
 ∃ bad s',w.heap[g]?=some (.cells #[.pointer none,.pointer (some ⟨R,0,none⟩),.int .i64 bad] 147 (0,0))∧RdS w R G s'∧(g≠R∧g≠G∧R≠G)∧G<w.heap.size∧((∃ l,s=some l∧bad=0∧s'=some l)∨(s=none∧(bad≠0∨s'=none)))
theorem GtR.keep {w w':World} {g R G:Nat} {s:Option (List Int)} {X:Nat→Prop} (h:GtR w g R G s) (hk:Keep X w w') (h1:¬ X g) (h2:¬ X R) (h3:¬ X G):GtR w' g R G s:=by
 obtain ⟨bad,s',a,b,c,d,e⟩:=h;exact ⟨bad,s',hk.old a h1,b.keep hk h2 h3,c,Nat.lt_of_lt_of_le d hk.size,e⟩
theorem GtR.below {w w':World} {g R G:Nat} {s:Option (List Int)} (h:GtR w g R G s) (hb:Below w.heap.size w w'):GtR w' g R G s:=h.keep (Keep.of_below hb (Nat.le_refl _) (fun _=>False)) id id id
theorem GtR.lt {w:World} {g R G:Nat} {s:Option (List Int)} (h:GtR w g R G s):g<w.heap.size∧R<w.heap.size∧G<w.heap.size:=by
 obtain ⟨bad,s',a,b,c,d,e⟩:=h;exact ⟨lt_of_block a,b.lt,d⟩
theorem GtR.byt {w:World} {g R G:Nat} {l:List Int} (h:GtR w g R G (some l)):Byt l∧l.length≤1000000000:=by
 obtain ⟨bad,s',a,b,c,d,⟨l',h1,h2,rfl⟩ | ⟨h1,_⟩⟩:=h
 · cases h1;exact ⟨b.byt,b.len⟩
 · cases h1
theorem c7 (w:World) (g R G:Nat) (s:Option (List Int)) (h:GtR w g R G s) :
 Calls Tryz.prog 157 #[.pointer (some ⟨g,0,none⟩)] w fun e w'=>e = .returned (.bool s.isNone)∧GtR w' g R G s∧Keep (fun k=>k=g) w w':=by
 obtain ⟨bad,s',h1,h2,h3,h4,h5⟩:=h;have HB:=wB h1;have HR:=wB h2;have HN:=wB h3;have HG:=wB h4;have HS:=wB h5;obtain ⟨g0,g1,g2,gf⟩:=cells3 h1;have hgl:=lt_of_block h1;clear h1 h2 h3 h4 h5;by_cases hb:bad=0
 · have b1:(bad==0)=true:=by simp [hb]
   have HB0:=wB hb;clear hb;go_enter Tryz.func157,Tryz.ntmps157
   go_wp2_with fail
   refine (pu w R G s' HR.out).mono ?_;rintro e w2 ⟨er,rfl,he,rfl⟩;have HK:=wB (aJ w2 g 2 (.int .i64 er));have HQ:=wB (ae HB.out 2 (.int .i64 er))
   have HE:=wB (show (er != 0)=s.isNone from by
    rcases HS.out with ⟨l,rfl,_,rfl⟩ | ⟨rfl,hn⟩
    · have:er=0:=he.2 (by simp)
      simp [this]
    · have:er≠0:=fun e0=>by
       have:=he.1 e0;rcases hn with hn | hn
       · exact hn HB0.out
       · exact this hn
      simp [this])
   have HF:=wB (show GtR (w2.setCell ⟨g,2,none⟩ (.int .i64 er)) g R G s from by
    refine ⟨er,s',HQ.out,HR.out.keep HK.out (fun e=>HN.out.1 e.symm) (fun e=>HN.out.2.1 e.symm),HN.out,by simpa using HG.out,?_⟩;rcases HS.out with ⟨l,rfl,_,rfl⟩ | ⟨rfl,hn⟩
    · exact .inl ⟨l,rfl,he.2 (by simp),rfl⟩
    · refine .inr ⟨rfl,.inl fun e0=>?_⟩
      have:=he.1 e0;rcases hn with hn | hn
      · exact hn HB0.out
      · exact this hn)
   clear he;obtain ⟨sn,hsn⟩:∃ sn,s.isNone=sn:=⟨_,rfl⟩;have HSN:=wB hsn;rw [hsn] at HE;clear hsn;cases sn with
   | true=>
     have b2:=HE.out;go_wp2_with fail
     go_ret
     exact ⟨by rw [HSN.out];rfl,HF.out,HK.out⟩
   | false=>
     have b2:=HE.out;go_wp2_with fail
     go_ret
     exact ⟨by rw [HSN.out];rfl,HF.out,HK.out⟩
 · have b1:(bad==0)=false:=by simp [hb]
   have b2:(bad != 0)=true:=by simp [hb]
   have HE:=wB (show s.isNone=true from by
    rcases HS.out with ⟨l,rfl,h0,_⟩ | ⟨rfl,hn⟩
    · exact absurd h0 hb
    · rfl)
   have HF:=wB (show GtR w g R G s from ⟨bad,s',HB.out,HR.out,HN.out,HG.out,HS.out⟩);clear hb;go_enter Tryz.func157,Tryz.ntmps157
   go_wp2_with fail
   go_ret
   exact ⟨by rw [HE.out];rfl,HF.out,Keep.refl _ _⟩
structure aq (w:World) (g R P o n:Nat) (w':World):Prop where
 keep:Keep (fun k=>k=g∨k=R∨k=P) w w'
 else_:∀ j,(j<o∨o+n≤j)→∀ v,w.cell? ⟨P,j,none⟩=some v→w'.cell? ⟨P,j,none⟩=some v
 room:∀ a m,w.there P a m→w'.there P a m
theorem aq.refl (w:World) (g R P o n:Nat):aq w g R P o n w:=⟨Keep.refl _ _,fun _ _ _ h=>h,fun _ _ h=>h⟩
theorem aq.trans {w w1 w2:World} {g R P o n:Nat} (h:aq w g R P o n w1) (k:aq w1 g R P o n w2):aq w g R P o n w2:=
 ⟨h.keep.trans k.keep (fun _ _ h=>h) (fun _ _ h=>h),fun j hj v hv=>k.else_ j hj v (h.else_ j hj v hv),fun a m hm=>k.room a m (h.room a m hm)⟩
theorem aq.of_keep {w w':World} {g R P o n:Nat} {X:Nat→Prop} (hk:Keep X w w') (hX:∀ k,X k→(k=g∨k=R)∧k≠P):aq w g R P o n w':=
 ⟨hk.mono (fun k _ h=>by rcases (hX k h).1 with h | h;exact .inl h;exact .inr (.inl h)),fun j _ v hv=>hk.cell hv (fun h=>(hX _ h).2 rfl),fun a m hm=>av hm hk (fun h=>(hX _ h).2 rfl)⟩
theorem aq.wide {w w':World} {g R P o n o' n':Nat} (h:aq w g R P o n w') (h1:o'≤o) (h2:o+n≤o' + n'):aq w g R P o' n' w':=
 ⟨h.keep,fun j hj v hv=>h.else_ j (by omega) v hv,h.room⟩
theorem aq.set (w:World) (g R P o:Nat) (cs:List Value):aq w g R P o cs.length (w.setCells P o cs):=
 ⟨(Keep.setCells w P o cs).mono (fun k _ h=>.inr (.inr h)),fun j hj v hv=>by
  have:=World.rangeAt_setCells_apart (w:=w) (b':=P) (o':=j) (cs:=[v]) (fun i u hu=>by
   cases i with
   | zero=>simp at hu;subst hu;exact hv
   | succ i=>simp at hu) P o cs (by rcases hj with h | h;exact .inr (.inl (by simp;omega));exact .inr (.inr (by omega)))
  have h0:=this 0 v rfl;rwa [Nat.add_zero] at h0,fun a m hm=>World.there_setCells hm _ _ _⟩
def aE {α:Type} (w:World) (g R G P o n:Nat) (s:Option (List Int)) (p:aW α) (f:α→List Value) (ok:α→Prop) (w':World):Prop:=
 ∃ x s',ok x∧GtR w' g R G s'∧Step p s s' x∧aq w g R P o n w'∧w'.rangeAt P o (f x)
theorem jF {w:World} {P o:Nat} {v:Value} (h:w.cell? ⟨P,o,none⟩=some v):w.rangeAt P o [v]:=fun i u hu=>by
 cases i with
 | zero=>simp at hu;subst hu;exact h
 | succ i=>simp at hu
theorem dy (w:World) (g R G P o:Nat) (s:Option (List Int)) (h:GtR w g R G s) (most:Nat) (hm:most≤9223372036854775807) (old:Int) (hold:w.cell? ⟨P,o,none⟩=some (.int .i64 old)) (hok:ar old) (hth:w.there P o 1) (hP:P≠g∧P≠R∧P≠G) :
 Calls Tryz.prog 122 #[.pointer (some ⟨g,0,none⟩),.pointer (some ⟨P,o,none⟩),.int .i64 (most:Int)] w fun e w'=>e = .returned (.tuple #[])∧aE w g R G P o 1 s (cz most) (fun x=>[.int .i64 x]) ar w':=by
 have H:=wB h;have HO:=wB hold;have HOK:=wB hok;have HTH:=wB hth;have HP:=wB hP;obtain ⟨bad,s0,hb,_⟩:=h;obtain ⟨g0,g1,g2,gf⟩:=cells3 hb;clear hb hold hok hth hP;go_enter Tryz.func122,Tryz.ntmps122
 go_wp2_with fail
 refine (c7 w g R G s H.out).mono ?_;rintro e w2 ⟨rfl,hg2,hk2⟩;have H2:=wB hg2;have HPT:=wB (show aq w g R P o 1 w2 from aq.of_keep hk2 (fun k hk=>⟨.inl hk,by rw [hk];exact fun e=>HP.out.1 e.symm⟩));have HO2:=wB (hk2.cell HO.out (by exact fun e=>HP.out.1 e));clear hk2 g0 g1 g2 gf;cases s with
 | none=>
   have HE:=wB (show aE w g R G P o 1 none (cz most) (fun x=>[.int .i64 x]) ar w2 from ⟨old,none,HOK.out,H2.out,Step.none _ _,HPT.out,jF HO2.out⟩);clear hg2;go_wp2_with fail
   exact bodyPost_ret (v:=.tuple #[]) (by simp [results,Tryz.results122,go_sem]) rfl ⟨rfl,HE.out⟩
 | some l=>
   obtain ⟨bad2,s2,hb2,hr2,hn2,hG2,⟨l',h1,rfl,rfl⟩ | ⟨h1,_⟩⟩:=hg2
   · cases h1
     obtain ⟨g0,g1,g2,gf⟩:=cells3 hb2;have HB2:=wB hb2;have HR2:=wB hr2;have HN2:=wB hn2;clear hb2 hr2 hn2;go_wp2_with fail
     refine (uR w2 R G (some l) HN2.out.2.2 HR2.out).mono ?_;rintro e w3 ⟨n,rfl,hn,s3,hs3,hst3,hk3⟩;have HN:=wB hn;have HST:=wB hst3;have HS3:=wB hs3;have HPT3:=wB (HPT.out.trans (show aq w2 g R P o 1 w3 from aq.of_keep hk3 (fun k hk=>⟨.inr hk,by rw [hk];exact fun e=>HP.out.2.1 e.symm⟩)));have HO3:=wB (hk3.cell HO2.out (by exact fun e=>HP.out.2.1 e));have HB3:=wB (hk3.old HB2.out (fun e=>HN2.out.1 e));have H3:=wB (show GtR w3 g R G s3 from ⟨0,s3,HB3.out,HS3.out,HN2.out,Nat.lt_of_lt_of_le hG2 hk3.size,by cases s3 with | none=>exact .inr ⟨rfl,.inr rfl⟩ | some l3=>exact .inl ⟨l3,rfl,rfl,rfl⟩⟩);have hN1:¬ P=g:=HP.out.1;clear hn hst3 hs3 hk3 g0 g1 g2 gf;go_wp2_with fail
     refine (c7 w3 g R G s3 H3.out).mono ?_;rintro e w4 ⟨rfl,hg4,hk4⟩;have H4:=wB hg4;have HPT4:=wB (HPT3.out.trans (show aq w3 g R P o 1 w4 from aq.of_keep hk4 (fun k hk=>⟨.inl hk,by rw [hk];exact fun e=>HP.out.1 e.symm⟩)));have HO4:=wB (hk4.cell HO3.out (by exact fun e=>HP.out.1 e));clear hk4;cases s3 with
     | none=>
       have HE:=wB (show aE w g R G P o 1 (some l) (cz most) (fun x=>[.int .i64 x]) ar w4 from ⟨old,none,HOK.out,H4.out,Step.fail (by
        have h1:=HST.out.1;simp only [Option.bind_some] at h1;unfold cz;cases hv:il l with
        | none=>rfl
        | some y=>rw [hv] at h1;cases h1) _,HPT4.out,jF HO4.out⟩)
       clear hg4;go_wp2_with fail
       exact bodyPost_ret (v:=.tuple #[]) (by simp [results,Tryz.results122,go_sem]) rfl ⟨rfl,HE.out⟩
     | some l3=>
       have HV:=wB (show il l=some (n,l3) from by
        have h1:=HST.out.1;have h2:=HST.out.2;simp only [Option.bind_some] at h1 h2;cases hv:il l with
        | none=>rw [hv] at h1;cases h1
        | some y=>
          obtain ⟨m,r⟩:=y;rw [hv] at h1;simp at h1;have:=h2 m r hv;rw [this,h1])
       obtain ⟨bad4,s4,hb4,hr4,hn4,hG4,⟨l',h1,rfl,rfl⟩ | ⟨h1,_⟩⟩:=hg4
       · cases h1
         obtain ⟨g0,g1,g2,gf⟩:=cells3 hb4;have hgl:=lt_of_block hb4;have HB4:=wB hb4;have HR4:=wB hr4;have hnn:=HN.out;clear hb4 hr4 hn4;by_cases hbig:most<n
         · have b1:decide ((most:Int)<(n:Int))=true:=decide_eq_true (by omega)
           have b1':decide (most<n)=true:=decide_eq_true hbig
           have HE:=wB (show aE w g R G P o 1 (some l) (cz most) (fun x=>[.int .i64 x]) ar (w4.setCell ⟨g,2,none⟩ (.int .i64 21)) from by
            have hk:=aJ w4 g 2 (.int .i64 21);refine ⟨old,none,HOK.out,⟨21,some l3,ae HB4.out 2 _,HR4.out.keep hk (fun e=>HN2.out.1 e.symm) (fun e=>HN2.out.2.1 e.symm),HN2.out,by simpa using hG4,.inr ⟨rfl,.inl (by decide)⟩⟩,Step.fail ?_ _,HPT4.out.trans (aq.of_keep hk (fun k hk=>⟨.inl hk,by rw [hk];exact fun e=>HP.out.1 e.symm⟩)),jF (hk.cell HO4.out (by exact fun e=>HP.out.1 e))⟩;unfold cz;rw [HV.out];simp only;rw [if_neg (by omega)])
           clear hbig;go_wp2_with fail
           exact bodyPost_ret (v:=.tuple #[]) (by simp [results,Tryz.results122,go_sem]) rfl ⟨rfl,HE.out⟩
         · have b1:decide ((most:Int)<(n:Int))=false:=decide_eq_false (by omega)
           have b1':decide (most<n)=false:=decide_eq_false hbig;have HTH4:=wB (HPT4.out.room o 1 HTH.out)
           have HE:=wB (show aE w g R G P o 1 (some l) (cz most) (fun x=>[.int .i64 x]) ar (w4.setCell ⟨P,o,none⟩ (.int .i64 n)) from by
            have hk:=aJ w4 P o (.int .i64 n);refine ⟨n,some l3,⟨by omega,by omega⟩,H4.out.keep hk (fun e=>HP.out.1 e.symm) (fun e=>HP.out.2.1 e.symm) (fun e=>HP.out.2.2 e.symm),Step.some ?_,HPT4.out.trans (aq.set w4 g R P o [.int .i64 n]),World.rangeAt_setCells_same w4 P o [.int .i64 n] HTH4.out⟩;unfold cz;rw [HV.out];simp only;rw [if_pos (by omega)])
           have c0:=HO4.out;have cf:w4.frozen? ⟨P,o,none⟩=false:=by have:=(HTH4.out 0 (by omega)).2;rwa [Nat.add_zero] at this
           have hn63:n≤9223372036854775807:=by omega
           clear hbig;go_wp2_with fail
           exact bodyPost_end (v:=.tuple #[]) (by simp [results,Tryz.results122,go_sem]) rfl ⟨rfl,HE.out⟩
       · cases h1
   · cases h1
end Go.Proofs.YtcaicgipibcicaaGreat
