/- The journal's gate while it reads. -/
import Derived.Test.YtcaicgipibcicaaGreatQRdY
import Derived.Test.YtcaicgipibcicaaGreatQAuMap
set_option maxRecDepth 100000
set_option maxHeartbeats 8000000
set_option linter.unusedSimpArgs false
set_option linter.unusedVariables false
open Go renaming bodyPost_end→z9
open Go.Lib renaming hid→yA
open Go.World renaming rangeAt_setCells_same→yJ
open Nat renaming add_zero→zM,lt_of_lt_of_le→za
open Option renaming isSome_iff_exists→zB
namespace Go.Proofs.YtcaicgipibcicaaGreat
open Go.RowKit Go.Sort
def GtR (w:World) (g R G:Nat) (s:Option (List Int)):Prop:=
 ∃ bad s',w.heap[g]?=some (.cells #[.pointer none,.pointer (some ⟨R,0,none⟩),.int .i64 bad] 147 (0,0))∧RdS w R G s'∧(g≠R∧g≠G∧R≠G)∧G<w.heap.size∧((∃ l,s=some l∧bad=0∧s'=some l)∨(s=none∧(bad≠0∨s'=none)))
theorem GtR.keep {w w':World} {g R G:Nat} {s:Option (List Int)} {X:Nat→Prop} (h:GtR w g R G s) (hk:Keep X w w') (h1:¬ X g) (h2:¬ X R) (h3:¬ X G):GtR w' g R G s:=by
 obtain ⟨bad,s',a,b,c,d,e⟩:=h;exact ⟨bad,s',hk.old a h1,b.keep hk h2 h3,c,za d hk.size,e⟩
theorem GtR.below {w w':World} {g R G:Nat} {s:Option (List Int)} (h:GtR w g R G s) (hb:Below w.heap.size w w'):GtR w' g R G s:=h.keep (Keep.of_below hb (Nat.le_refl _) (fun _=>False)) id id id
theorem GtR.lt {w:World} {g R G:Nat} {s:Option (List Int)} (h:GtR w g R G s):g<w.heap.size∧R<w.heap.size∧G<w.heap.size:=by
 obtain ⟨bad,s',a,b,c,d,e⟩:=h;exact ⟨lt_of_block a,b.lt,d⟩
theorem GtR.byt {w:World} {g R G:Nat} {l:List Int} (h:GtR w g R G (some l)):Byt l∧l.length≤1000000000:=by
 obtain ⟨bad,s',a,b,c,d,⟨l',h1,h2,rfl⟩ | ⟨h1,_⟩⟩:=h
 · cases h1;exact ⟨b.byt,b.len⟩
 · cases h1
theorem dG (w:World) (g R G:Nat) (s:Option (List Int)) (h:GtR w g R G s) :
 Calls Tryz.prog 157 #[.pointer (some ⟨g,0,none⟩)] w fun e w'=>e = .returned (.bool s.isNone)∧GtR w' g R G s∧Keep (fun k=>k=g) w w':=by
 obtain ⟨bad,s',h1,h2,h3,h4,h5⟩:=h;have HB:=yA h1;have HR:=yA h2;have HN:=yA h3;have HG:=yA h4;have HS:=yA h5;obtain ⟨g0,g1,g2,gf⟩:=cells3 h1;have hgl:=lt_of_block h1;clear h1 h2 h3 h4 h5;by_cases hb:bad=0
 · have b1:(bad==0)=true:=by simp [hb]
   have HB0:=yA hb;clear hb;go_enter Tryz.func157,Tryz.ntmps157
   go_wp2_with fail
   refine (qW w R G s' HR.out).mono ?_;rintro e w2 ⟨er,rfl,he,rfl⟩;have HK:=yA (aS w2 g 2 (.int .i64 er));have HQ:=yA (aj HB.out 2 (.int .i64 er))
   have HE:=yA (show (er != 0)=s.isNone from by
    rcases HS.out with ⟨l,rfl,_,rfl⟩ | ⟨rfl,hn⟩
    · have:er=0:=he.2 (by simp)
      simp [this]
    · have:er≠0:=fun e0=>by
       have:=he.1 e0;rcases hn with hn | hn
       · exact hn HB0.out
       · exact this hn
      simp [this])
   have HF:=yA (show GtR (w2.setCell ⟨g,2,none⟩ (.int .i64 er)) g R G s from by
    refine ⟨er,s',HQ.out,HR.out.keep HK.out (fun e=>HN.out.1 e.symm) (fun e=>HN.out.2.1 e.symm),HN.out,by simpa using HG.out,?_⟩;rcases HS.out with ⟨l,rfl,_,rfl⟩ | ⟨rfl,hn⟩
    · exact .inl ⟨l,rfl,he.2 (by simp),rfl⟩
    · refine .inr ⟨rfl,.inl fun e0=>?_⟩
      have:=he.1 e0;rcases hn with hn | hn
      · exact hn HB0.out
      · exact this hn)
   clear he;obtain ⟨sn,hsn⟩:∃ sn,s.isNone=sn:=⟨_,rfl⟩;have HSN:=yA hsn;rw [hsn] at HE;clear hsn;cases sn with
   | true=>
     have b2:=HE.out;go_wp2_with fail
     go_ret
     exact ⟨by rw [HSN.out];rfl,HF.out,HK.out⟩
   | false=>
     have b2:=HE.out;go_wp2_with fail
     go_ret
     exact ⟨by rw [HSN.out];rfl,HF.out,HK.out⟩
 · have b1:(bad==0)=false:=by simp [hb]
   have b2:(bad != 0)=true:=by simp [hb]
   have HE:=yA (show s.isNone=true from by
    rcases HS.out with ⟨l,rfl,h0,_⟩ | ⟨rfl,hn⟩
    · exact absurd h0 hb
    · rfl)
   have HF:=yA (show GtR w g R G s from ⟨bad,s',HB.out,HR.out,HN.out,HG.out,HS.out⟩);clear hb;go_enter Tryz.func157,Tryz.ntmps157
   go_wp2_with fail
   go_ret
   exact ⟨by rw [HE.out];rfl,HF.out,Keep.refl _ _⟩
structure av (w:World) (g R P o n:Nat) (w':World):Prop where
 keep:Keep (fun k=>k=g∨k=R∨k=P) w w'
 else_:∀ j,(j<o∨o+n≤j)→∀ v,w.cell? ⟨P,j,none⟩=some v→w'.cell? ⟨P,j,none⟩=some v
 room:∀ a m,w.there P a m→w'.there P a m
theorem av.refl (w:World) (g R P o n:Nat):av w g R P o n w:=⟨Keep.refl _ _,fun _ _ _ h=>h,fun _ _ h=>h⟩
theorem av.trans {w w1 w2:World} {g R P o n:Nat} (h:av w g R P o n w1) (k:av w1 g R P o n w2):av w g R P o n w2:=
 ⟨h.keep.trans k.keep (fun _ _ h=>h) (fun _ _ h=>h),fun j hj v hv=>k.else_ j hj v (h.else_ j hj v hv),fun a m hm=>k.room a m (h.room a m hm)⟩
theorem av.of_keep {w w':World} {g R P o n:Nat} {X:Nat→Prop} (hk:Keep X w w') (hX:∀ k,X k→(k=g∨k=R)∧k≠P):av w g R P o n w':=
 ⟨hk.mono (fun k _ h=>by rcases (hX k h).1 with h | h;exact .inl h;exact .inr (.inl h)),fun j _ v hv=>hk.cell hv (fun h=>(hX _ h).2 rfl),fun a m hm=>aq hm hk (fun h=>(hX _ h).2 rfl)⟩
theorem av.wide {w w':World} {g R P o n o' n':Nat} (h:av w g R P o n w') (h1:o'≤o) (h2:o+n≤o' + n'):av w g R P o' n' w':=
 ⟨h.keep,fun j hj v hv=>h.else_ j (by omega) v hv,h.room⟩
theorem av.set (w:World) (g R P o:Nat) (cs:List Value):av w g R P o cs.length (w.setCells P o cs):=
 ⟨(Keep.setCells w P o cs).mono (fun k _ h=>.inr (.inr h)),fun j hj v hv=>by
  have:=World.rangeAt_setCells_apart (w:=w) (b':=P) (o':=j) (cs:=[v]) (fun i u hu=>by
   cases i with
   | zero=>simp at hu;subst hu;exact hv
   | succ i=>simp at hu) P o cs (by rcases hj with h | h;exact .inr (.inl (by simp;omega));exact .inr (.inr (by omega)))
  have h0:=this 0 v rfl;rwa [zM] at h0,fun a m hm=>World.there_setCells hm _ _ _⟩
def aN {α:Type} (w:World) (g R G P o n:Nat) (s:Option (List Int)) (p:bl α) (f:α→List Value) (ok:α→Prop) (w':World):Prop:=
 ∃ x s',ok x∧GtR w' g R G s'∧Step p s s' x∧av w g R P o n w'∧w'.rangeAt P o (f x)
theorem ll {w:World} {P o:Nat} {v:Value} (h:w.cell? ⟨P,o,none⟩=some v):w.rangeAt P o [v]:=fun i u hu=>by
 cases i with
 | zero=>simp at hu;subst hu;exact h
 | succ i=>simp at hu
theorem d6 (w:World) (g R G P o:Nat) (s:Option (List Int)) (h:GtR w g R G s) (most:Nat) (hm:most≤9223372036854775807) (old:Int) (hold:w.cell? ⟨P,o,none⟩=some (.int .i64 old)) (hok:ar old) (hth:w.there P o 1) (hP:P≠g∧P≠R∧P≠G) :
 Calls Tryz.prog 122 #[.pointer (some ⟨g,0,none⟩),.pointer (some ⟨P,o,none⟩),.int .i64 (most:Int)] w fun e w'=>e = .returned (.tuple #[])∧aN w g R G P o 1 s (ce most) (fun x=>[.int .i64 x]) ar w':=by
 have H:=yA h;have HO:=yA hold;have HOK:=yA hok;have HTH:=yA hth;have HP:=yA hP;obtain ⟨bad,s0,hb,_⟩:=h;obtain ⟨g0,g1,g2,gf⟩:=cells3 hb;clear hb hold hok hth hP;go_enter Tryz.func122,Tryz.ntmps122
 go_wp2_with fail
 refine (dG w g R G s H.out).mono ?_;rintro e w2 ⟨rfl,hg2,hk2⟩;have H2:=yA hg2;have HPT:=yA (show av w g R P o 1 w2 from av.of_keep hk2 (fun k hk=>⟨.inl hk,by rw [hk];exact fun e=>HP.out.1 e.symm⟩));have HO2:=yA (hk2.cell HO.out (by exact fun e=>HP.out.1 e));clear hk2 g0 g1 g2 gf;cases s with
 | none=>
   have HE:=yA (show aN w g R G P o 1 none (ce most) (fun x=>[.int .i64 x]) ar w2 from ⟨old,none,HOK.out,H2.out,Step.none _ _,HPT.out,ll HO2.out⟩);clear hg2;go_wp2_with fail
   exact bodyPost_ret (v:=.tuple #[]) (by simp [results,Tryz.results122,go_sem]) rfl ⟨rfl,HE.out⟩
 | some l=>
   obtain ⟨bad2,s2,hb2,hr2,hn2,hG2,⟨l',h1,rfl,rfl⟩ | ⟨h1,_⟩⟩:=hg2
   · cases h1
     obtain ⟨g0,g1,g2,gf⟩:=cells3 hb2;have HB2:=yA hb2;have HR2:=yA hr2;have HN2:=yA hn2;clear hb2 hr2 hn2;go_wp2_with fail
     refine (wQ w2 R G (some l) HN2.out.2.2 HR2.out).mono ?_;rintro e w3 ⟨n,rfl,hn,s3,hs3,hst3,hk3⟩;have HN:=yA hn;have HST:=yA hst3;have HS3:=yA hs3;have HPT3:=yA (HPT.out.trans (show av w2 g R P o 1 w3 from av.of_keep hk3 (fun k hk=>⟨.inr hk,by rw [hk];exact fun e=>HP.out.2.1 e.symm⟩)));have HO3:=yA (hk3.cell HO2.out (by exact fun e=>HP.out.2.1 e));have HB3:=yA (hk3.old HB2.out (fun e=>HN2.out.1 e));have H3:=yA (show GtR w3 g R G s3 from ⟨0,s3,HB3.out,HS3.out,HN2.out,za hG2 hk3.size,by cases s3 with | none=>exact .inr ⟨rfl,.inr rfl⟩ | some l3=>exact .inl ⟨l3,rfl,rfl,rfl⟩⟩);have hN1:¬ P=g:=HP.out.1;clear hn hst3 hs3 hk3 g0 g1 g2 gf;go_wp2_with fail
     refine (dG w3 g R G s3 H3.out).mono ?_;rintro e w4 ⟨rfl,hg4,hk4⟩;have H4:=yA hg4;have HPT4:=yA (HPT3.out.trans (show av w3 g R P o 1 w4 from av.of_keep hk4 (fun k hk=>⟨.inl hk,by rw [hk];exact fun e=>HP.out.1 e.symm⟩)));have HO4:=yA (hk4.cell HO3.out (by exact fun e=>HP.out.1 e));clear hk4;cases s3 with
     | none=>
       have HE:=yA (show aN w g R G P o 1 (some l) (ce most) (fun x=>[.int .i64 x]) ar w4 from ⟨old,none,HOK.out,H4.out,Step.fail (by
        have h1:=HST.out.1;simp only [Option.bind_some] at h1;unfold ce;cases hv:dh l with
        | none=>rfl
        | some y=>rw [hv] at h1;cases h1) _,HPT4.out,ll HO4.out⟩)
       clear hg4;go_wp2_with fail
       exact bodyPost_ret (v:=.tuple #[]) (by simp [results,Tryz.results122,go_sem]) rfl ⟨rfl,HE.out⟩
     | some l3=>
       have HV:=yA (show dh l=some (n,l3) from by
        have h1:=HST.out.1;have h2:=HST.out.2;simp only [Option.bind_some] at h1 h2;cases hv:dh l with
        | none=>rw [hv] at h1;cases h1
        | some y=>
          obtain ⟨m,r⟩:=y;rw [hv] at h1;simp at h1;have:=h2 m r hv;rw [this,h1])
       obtain ⟨bad4,s4,hb4,hr4,hn4,hG4,⟨l',h1,rfl,rfl⟩ | ⟨h1,_⟩⟩:=hg4
       · cases h1
         obtain ⟨g0,g1,g2,gf⟩:=cells3 hb4;have hgl:=lt_of_block hb4;have HB4:=yA hb4;have HR4:=yA hr4;have hnn:=HN.out;clear hb4 hr4 hn4;by_cases hbig:most<n
         · have b1:decide ((most:Int)<(n:Int))=true:=decide_eq_true (by omega)
           have b1':decide (most<n)=true:=decide_eq_true hbig
           have HE:=yA (show aN w g R G P o 1 (some l) (ce most) (fun x=>[.int .i64 x]) ar (w4.setCell ⟨g,2,none⟩ (.int .i64 21)) from by
            have hk:=aS w4 g 2 (.int .i64 21);refine ⟨old,none,HOK.out,⟨21,some l3,aj HB4.out 2 _,HR4.out.keep hk (fun e=>HN2.out.1 e.symm) (fun e=>HN2.out.2.1 e.symm),HN2.out,by simpa using hG4,.inr ⟨rfl,.inl (by decide)⟩⟩,Step.fail ?_ _,HPT4.out.trans (av.of_keep hk (fun k hk=>⟨.inl hk,by rw [hk];exact fun e=>HP.out.1 e.symm⟩)),ll (hk.cell HO4.out (by exact fun e=>HP.out.1 e))⟩;unfold ce;rw [HV.out];simp only;rw [if_neg (by omega)])
           clear hbig;go_wp2_with fail
           exact bodyPost_ret (v:=.tuple #[]) (by simp [results,Tryz.results122,go_sem]) rfl ⟨rfl,HE.out⟩
         · have b1:decide ((most:Int)<(n:Int))=false:=decide_eq_false (by omega)
           have b1':decide (most<n)=false:=decide_eq_false hbig;have HTH4:=yA (HPT4.out.room o 1 HTH.out)
           have HE:=yA (show aN w g R G P o 1 (some l) (ce most) (fun x=>[.int .i64 x]) ar (w4.setCell ⟨P,o,none⟩ (.int .i64 n)) from by
            have hk:=aS w4 P o (.int .i64 n);refine ⟨n,some l3,⟨by omega,by omega⟩,H4.out.keep hk (fun e=>HP.out.1 e.symm) (fun e=>HP.out.2.1 e.symm) (fun e=>HP.out.2.2 e.symm),Step.some ?_,HPT4.out.trans (av.set w4 g R P o [.int .i64 n]),yJ w4 P o [.int .i64 n] HTH4.out⟩;unfold ce;rw [HV.out];simp only;rw [if_pos (by omega)])
           have c0:=HO4.out;have cf:w4.frozen? ⟨P,o,none⟩=false:=by have:=(HTH4.out 0 (by omega)).2;rwa [zM] at this
           have hn63:n≤9223372036854775807:=by omega
           clear hbig;go_wp2_with fail
           exact z9 (v:=.tuple #[]) (by simp [results,Tryz.results122,go_sem]) rfl ⟨rfl,HE.out⟩
       · cases h1
   · cases h1
theorem wD:(Tryz.prog.info? 75).map (·.size)=some 2:=by kernel_rfl
theorem gL {X:Nat→Prop} {w w':World} {P o:Nat} {cs:List Value} (h:w.rangeAt P o cs) (hk:Keep X w w') (hx:¬ X P):w'.rangeAt P o cs:=fun j v hv=>hk.cell (h j v hv) hx
theorem jb (w:World) (g R G P o:Nat) (s:Option (List Int)) (h:GtR w g R G s) (old:Int) (hold:w.rangeAt P o ((fun x=>[.int .i64 x]) old)) (hok:ar old) (hth:w.there P o 1) (hP:P≠g∧P≠R∧P≠G) :
 Calls Tryz.prog 189 #[.pointer (some ⟨g,0,none⟩),.pointer (some ⟨P,o,none⟩)] w fun e w'=>e = .returned (.tuple #[])∧aN w g R G P o 1 s dc (fun x=>[.int .i64 x]) ar w':=by
 have H:=yA h;have HO:=yA hold;have HOK:=yA hok;have HTH:=yA hth;have HP:=yA hP;obtain ⟨bad,s0,hb,_⟩:=h;obtain ⟨g0,g1,g2,gf⟩:=cells3 hb;clear hb hold hok hth hP;go_enter Tryz.func189,Tryz.ntmps189
 go_wp2_with fail
 refine (dG w g R G s H.out).mono ?_;rintro e w2 ⟨rfl,hg2,hk2⟩;have H2:=yA hg2;have HPT:=yA (show av w g R P o 1 w2 from av.of_keep hk2 (fun k hk=>⟨.inl hk,by rw [hk];exact fun e=>HP.out.1 e.symm⟩));have HO2:=yA (gL HO.out hk2 (by exact fun e=>HP.out.1 e));clear hk2 g0 g1 g2 gf;cases s with
 | none=>
   have HE:=yA (show aN w g R G P o 1 none dc (fun x=>[.int .i64 x]) ar w2 from ⟨old,none,HOK.out,H2.out,Step.none _ _,HPT.out,HO2.out⟩);clear hg2;go_wp2_with fail
   exact z9 (v:=.tuple #[]) (by simp [results,Tryz.results189,go_sem]) rfl ⟨rfl,HE.out⟩
 | some l=>
   obtain ⟨bad2,s2,hb2,hr2,hn2,hG2,⟨l',h1,rfl,rfl⟩ | ⟨h1,_⟩⟩:=hg2
   · cases h1
     obtain ⟨g0,g1,g2,gf⟩:=cells3 hb2;have HB2:=yA hb2;have HR2:=yA hr2;have HN2:=yA hn2;clear hb2 hr2 hn2;go_wp2_with fail
     refine (int_rd w2 R G (some l) HN2.out.2.2 HR2.out).mono ?_;rintro e w3 ⟨x,rfl,hx3,s3,hs3,hst3,hk3⟩;have HB3:=yA (hk3.old HB2.out (fun e=>HN2.out.1 e));have HPT3:=yA (HPT.out.trans (show av w2 g R P o 1 w3 from av.of_keep hk3 (fun k hk=>⟨.inr hk,by rw [hk];exact fun e=>HP.out.2.1 e.symm⟩)));have HTH3:=yA (HPT3.out.room o 1 HTH.out);have H3:=yA (show GtR w3 g R G s3 from ⟨0,s3,HB3.out,hs3,HN2.out,za hG2 hk3.size,by cases s3 with | none=>exact .inr ⟨rfl,.inr rfl⟩ | some l3=>exact .inl ⟨l3,rfl,rfl,rfl⟩⟩)
     have HE:=yA (show aN w g R G P o 1 (some l) dc (fun x=>[.int .i64 x]) ar (w3.setCells P o [.int .i64 x]) from by
      have hk:=Keep.setCells w3 P o [.int .i64 x];exact ⟨x,s3,hx3,H3.out.keep hk (fun e=>HP.out.1 e.symm) (fun e=>HP.out.2.1 e.symm) (fun e=>HP.out.2.2 e.symm),hst3,HPT3.out.trans (av.set w3 g R P o [.int .i64 x]),yJ w3 P o [.int .i64 x] HTH3.out⟩)
     clear hs3 hst3 hk3 g0 g1 g2 gf;obtain ⟨u0,hu0⟩:=zB.1 (HTH3.out 0 (by omega)).1;have c0:w3.cell? ⟨P,o,none⟩=some u0:=by rwa [zM] at hu0
     have cf:w3.frozen? ⟨P,o,none⟩=false:=by have:=(HTH3.out 0 (by omega)).2;rwa [zM] at this
     clear hu0;go_wp2_with fail
     exact z9 (v:=.tuple #[]) (by simp [results,Tryz.results189,go_sem]) rfl ⟨rfl,HE.out⟩
   · cases h1
theorem jc (w:World) (g R G P o:Nat) (s:Option (List Int)) (h:GtR w g R G s) (old:Int) (hold:w.rangeAt P o ((fun x=>[.int .u8 x]) old)) (hok:bT old) (hth:w.there P o 1) (hP:P≠g∧P≠R∧P≠G) :
 Calls Tryz.prog 188 #[.pointer (some ⟨g,0,none⟩),.pointer (some ⟨P,o,none⟩)] w fun e w'=>e = .returned (.tuple #[])∧aN w g R G P o 1 s ej (fun x=>[.int .u8 x]) bT w':=by
 have H:=yA h;have HO:=yA hold;have HOK:=yA hok;have HTH:=yA hth;have HP:=yA hP;obtain ⟨bad,s0,hb,_⟩:=h;obtain ⟨g0,g1,g2,gf⟩:=cells3 hb;clear hb hold hok hth hP;go_enter Tryz.func188,Tryz.ntmps188
 go_wp2_with fail
 refine (dG w g R G s H.out).mono ?_;rintro e w2 ⟨rfl,hg2,hk2⟩;have H2:=yA hg2;have HPT:=yA (show av w g R P o 1 w2 from av.of_keep hk2 (fun k hk=>⟨.inl hk,by rw [hk];exact fun e=>HP.out.1 e.symm⟩));have HO2:=yA (gL HO.out hk2 (by exact fun e=>HP.out.1 e));clear hk2 g0 g1 g2 gf;cases s with
 | none=>
   have HE:=yA (show aN w g R G P o 1 none ej (fun x=>[.int .u8 x]) bT w2 from ⟨old,none,HOK.out,H2.out,Step.none _ _,HPT.out,HO2.out⟩);clear hg2;go_wp2_with fail
   exact z9 (v:=.tuple #[]) (by simp [results,Tryz.results188,go_sem]) rfl ⟨rfl,HE.out⟩
 | some l=>
   obtain ⟨bad2,s2,hb2,hr2,hn2,hG2,⟨l',h1,rfl,rfl⟩ | ⟨h1,_⟩⟩:=hg2
   · cases h1
     obtain ⟨g0,g1,g2,gf⟩:=cells3 hb2;have HB2:=yA hb2;have HR2:=yA hr2;have HN2:=yA hn2;clear hb2 hr2 hn2;go_wp2_with fail
     refine (yd w2 R G (some l) HN2.out.2.2 HR2.out).mono ?_;rintro e w3 ⟨x,rfl,hx3,s3,hs3,hst3,hk3⟩;have HB3:=yA (hk3.old HB2.out (fun e=>HN2.out.1 e));have HPT3:=yA (HPT.out.trans (show av w2 g R P o 1 w3 from av.of_keep hk3 (fun k hk=>⟨.inr hk,by rw [hk];exact fun e=>HP.out.2.1 e.symm⟩)));have HTH3:=yA (HPT3.out.room o 1 HTH.out);have H3:=yA (show GtR w3 g R G s3 from ⟨0,s3,HB3.out,hs3,HN2.out,za hG2 hk3.size,by cases s3 with | none=>exact .inr ⟨rfl,.inr rfl⟩ | some l3=>exact .inl ⟨l3,rfl,rfl,rfl⟩⟩)
     have HE:=yA (show aN w g R G P o 1 (some l) ej (fun x=>[.int .u8 x]) bT (w3.setCells P o [.int .u8 x]) from by
      have hk:=Keep.setCells w3 P o [.int .u8 x];exact ⟨x,s3,hx3,H3.out.keep hk (fun e=>HP.out.1 e.symm) (fun e=>HP.out.2.1 e.symm) (fun e=>HP.out.2.2 e.symm),hst3,HPT3.out.trans (av.set w3 g R P o [.int .u8 x]),yJ w3 P o [.int .u8 x] HTH3.out⟩)
     clear hs3 hst3 hk3 g0 g1 g2 gf;obtain ⟨u0,hu0⟩:=zB.1 (HTH3.out 0 (by omega)).1;have c0:w3.cell? ⟨P,o,none⟩=some u0:=by rwa [zM] at hu0
     have cf:w3.frozen? ⟨P,o,none⟩=false:=by have:=(HTH3.out 0 (by omega)).2;rwa [zM] at this
     clear hu0;go_wp2_with fail
     exact z9 (v:=.tuple #[]) (by simp [results,Tryz.results188,go_sem]) rfl ⟨rfl,HE.out⟩
   · cases h1
theorem wE (w:World) (g R G P o:Nat) (s:Option (List Int)) (h:GtR w g R G s) (old:List Int) (hold:w.rangeAt P o ((cellsOf ai) old)) (hok:(fun d=>d.length=8∧Byt d) old) (hth:w.there P o 8) (hP:P≠g∧P≠R∧P≠G) :
 Calls Tryz.prog 186 #[.pointer (some ⟨g,0,none⟩),.pointer (some ⟨P,o,none⟩)] w fun e w'=>e = .returned (.tuple #[])∧aN w g R G P o 8 s (bM 8) (cellsOf ai) (fun d=>d.length=8∧Byt d) w':=by
 have H:=yA h;have HO:=yA hold;have HOK:=yA hok;have HTH:=yA hth;have HP:=yA hP;obtain ⟨bad,s0,hb,_⟩:=h;obtain ⟨g0,g1,g2,gf⟩:=cells3 hb;clear hb hold hok hth hP;go_enter Tryz.func186,Tryz.ntmps186
 go_wp2_with fail
 refine (dG w g R G s H.out).mono ?_;rintro e w2 ⟨rfl,hg2,hk2⟩;have H2:=yA hg2;have HPT:=yA (show av w g R P o 8 w2 from av.of_keep hk2 (fun k hk=>⟨.inl hk,by rw [hk];exact fun e=>HP.out.1 e.symm⟩));have HO2:=yA (gL HO.out hk2 (by exact fun e=>HP.out.1 e));clear hk2 g0 g1 g2 gf;cases s with
 | none=>
   have HE:=yA (show aN w g R G P o 8 none (bM 8) (cellsOf ai) (fun d=>d.length=8∧Byt d) w2 from ⟨old,none,HOK.out,H2.out,Step.none _ _,HPT.out,HO2.out⟩);clear hg2;go_wp2_with fail
   exact z9 (v:=.tuple #[]) (by simp [results,Tryz.results186,go_sem]) rfl ⟨rfl,HE.out⟩
 | some l=>
   obtain ⟨bad2,s2,hb2,hr2,hn2,hG2,⟨l',h1,rfl,rfl⟩ | ⟨h1,_⟩⟩:=hg2
   · cases h1
     obtain ⟨g0,g1,g2,gf⟩:=cells3 hb2;have HB2:=yA hb2;have HR2:=yA hr2;have HN2:=yA hn2;clear hb2 hr2 hn2;go_wp2_with fail
     refine (id_rd w2 R G (some l) HN2.out.2.2 hG2 HR2.out).mono ?_;rintro e w3 ⟨i0,i1,i2,i3,i4,i5,i6,i7,rfl,hx3,s3,hs3,hst3,hk3⟩;have HB3:=yA (hk3.old HB2.out (fun e=>HN2.out.1 e));have HPT3:=yA (HPT.out.trans (show av w2 g R P o 8 w3 from av.of_keep hk3 (fun k hk=>⟨.inr hk,by rw [hk];exact fun e=>HP.out.2.1 e.symm⟩)));have HTH3:=yA (show w3.there P o (#[.int .u8 i0,.int .u8 i1,.int .u8 i2,.int .u8 i3,.int .u8 i4,.int .u8 i5,.int .u8 i6,.int .u8 i7]:Array Value).size from HPT3.out.room o 8 HTH.out);have H3:=yA (show GtR w3 g R G s3 from ⟨0,s3,HB3.out,hs3,HN2.out,za hG2 hk3.size,by cases s3 with | none=>exact .inr ⟨rfl,.inr rfl⟩ | some l3=>exact .inl ⟨l3,rfl,rfl,rfl⟩⟩)
     have HE:=yA (show aN w g R G P o 8 (some l) (bM 8) (cellsOf ai) (fun d=>d.length=8∧Byt d) (w3.setCells P o [.int .u8 i0,.int .u8 i1,.int .u8 i2,.int .u8 i3,.int .u8 i4,.int .u8 i5,.int .u8 i6,.int .u8 i7]) from by
      have hk:=Keep.setCells w3 P o [.int .u8 i0,.int .u8 i1,.int .u8 i2,.int .u8 i3,.int .u8 i4,.int .u8 i5,.int .u8 i6,.int .u8 i7];exact ⟨[i0,i1,i2,i3,i4,i5,i6,i7],s3,⟨rfl,hx3⟩,H3.out.keep hk (fun e=>HP.out.1 e.symm) (fun e=>HP.out.2.1 e.symm) (fun e=>HP.out.2.2 e.symm),hst3,HPT3.out.trans (av.set w3 g R P o [.int .u8 i0,.int .u8 i1,.int .u8 i2,.int .u8 i3,.int .u8 i4,.int .u8 i5,.int .u8 i6,.int .u8 i7]),yJ w3 P o [.int .u8 i0,.int .u8 i1,.int .u8 i2,.int .u8 i3,.int .u8 i4,.int .u8 i5,.int .u8 i6,.int .u8 i7] HTH3.out⟩)
     clear hs3 hst3 hk3 g0 g1 g2 gf;go_wp2_with (first | ((with_reducible refine wpList_store_mid (op:=⟨none,.store 72 (.tmp 26) (.tmp 25),_,_,_,_⟩) ?_ 72 (.tmp 26) (.tmp 25) ?_ P o #[.int .u8 i0,.int .u8 i1,.int .u8 i2,.int .u8 i3,.int .u8 i4,.int .u8 i5,.int .u8 i6,.int .u8 i7] ?_ ?_ HTH3.out ?_ ?_ ?_);rfl;rfl;rfl;rfl;exact gc;exact all_oneCell_toArray (cs:=[.int .u8 i0,.int .u8 i1,.int .u8 i2,.int .u8 i3,.int .u8 i4,.int .u8 i5,.int .u8 i6,.int .u8 i7]) (by intro v hv;simp only [List.mem_cons,List.not_mem_nil,or_false] at hv;rcases hv with rfl | rfl | rfl | rfl | rfl | rfl | rfl | rfl <;> rfl)))
     exact z9 (v:=.tuple #[]) (by simp [results,Tryz.results186,go_sem]) rfl ⟨rfl,HE.out⟩
   · cases h1
theorem lm (w:World) (g R G P o:Nat) (s:Option (List Int)) (h:GtR w g R G s) (old:Int × Int) (hold:w.rangeAt P o ((fun x=>[.int .i16 x.1,.int .i16 x.2]) old)) (hok:(fun x=>bc x.1∧bc x.2) old) (hth:w.there P o 2) (hP:P≠g∧P≠R∧P≠G) :
 Calls Tryz.prog 187 #[.pointer (some ⟨g,0,none⟩),.pointer (some ⟨P,o,none⟩)] w fun e w'=>e = .returned (.tuple #[])∧aN w g R G P o 2 s cG (fun x=>[.int .i16 x.1,.int .i16 x.2]) (fun x=>bc x.1∧bc x.2) w':=by
 have H:=yA h;have HO:=yA hold;have HOK:=yA hok;have HTH:=yA hth;have HP:=yA hP;obtain ⟨bad,s0,hb,_⟩:=h;obtain ⟨g0,g1,g2,gf⟩:=cells3 hb;clear hb hold hok hth hP;go_enter Tryz.func187,Tryz.ntmps187
 go_wp2_with fail
 refine (dG w g R G s H.out).mono ?_;rintro e w2 ⟨rfl,hg2,hk2⟩;have H2:=yA hg2;have HPT:=yA (show av w g R P o 2 w2 from av.of_keep hk2 (fun k hk=>⟨.inl hk,by rw [hk];exact fun e=>HP.out.1 e.symm⟩));have HO2:=yA (gL HO.out hk2 (by exact fun e=>HP.out.1 e));clear hk2 g0 g1 g2 gf;cases s with
 | none=>
   have HE:=yA (show aN w g R G P o 2 none cG (fun x=>[.int .i16 x.1,.int .i16 x.2]) (fun x=>bc x.1∧bc x.2) w2 from ⟨old,none,HOK.out,H2.out,Step.none _ _,HPT.out,HO2.out⟩);clear hg2;go_wp2_with fail
   exact z9 (v:=.tuple #[]) (by simp [results,Tryz.results187,go_sem]) rfl ⟨rfl,HE.out⟩
 | some l=>
   obtain ⟨bad2,s2,hb2,hr2,hn2,hG2,⟨l',h1,rfl,rfl⟩ | ⟨h1,_⟩⟩:=hg2
   · cases h1
     obtain ⟨g0,g1,g2,gf⟩:=cells3 hb2;have HB2:=yA hb2;have HR2:=yA hr2;have HN2:=yA hn2;clear hb2 hr2 hn2;go_wp2_with fail
     refine (wV w2 R G (some l) HN2.out.2.2 hG2 HR2.out).mono ?_;rintro e w3 ⟨x,y,rfl,hx3,hy3,s3,hs3,hst3,hk3⟩;have HB3:=yA (hk3.old HB2.out (fun e=>HN2.out.1 e));have HPT3:=yA (HPT.out.trans (show av w2 g R P o 2 w3 from av.of_keep hk3 (fun k hk=>⟨.inr hk,by rw [hk];exact fun e=>HP.out.2.1 e.symm⟩)));have HTH3:=yA (show w3.there P o (#[.int .i16 x,.int .i16 y]:Array Value).size from HPT3.out.room o 2 HTH.out);have H3:=yA (show GtR w3 g R G s3 from ⟨0,s3,HB3.out,hs3,HN2.out,za hG2 hk3.size,by cases s3 with | none=>exact .inr ⟨rfl,.inr rfl⟩ | some l3=>exact .inl ⟨l3,rfl,rfl,rfl⟩⟩)
     have HE:=yA (show aN w g R G P o 2 (some l) cG (fun x=>[.int .i16 x.1,.int .i16 x.2]) (fun x=>bc x.1∧bc x.2) (w3.setCells P o [.int .i16 x,.int .i16 y]) from by
      have hk:=Keep.setCells w3 P o [.int .i16 x,.int .i16 y];exact ⟨(x,y),s3,⟨hx3,hy3⟩,H3.out.keep hk (fun e=>HP.out.1 e.symm) (fun e=>HP.out.2.1 e.symm) (fun e=>HP.out.2.2 e.symm),hst3,HPT3.out.trans (av.set w3 g R P o [.int .i16 x,.int .i16 y]),yJ w3 P o [.int .i16 x,.int .i16 y] HTH3.out⟩)
     clear hs3 hst3 hk3 g0 g1 g2 gf;go_wp2_with (first | ((with_reducible refine wpList_store_mid (op:=⟨none,.store 75 (.tmp 26) (.tmp 25),_,_,_,_⟩) ?_ 75 (.tmp 26) (.tmp 25) ?_ P o #[.int .i16 x,.int .i16 y] ?_ ?_ HTH3.out ?_ ?_ ?_);rfl;rfl;rfl;rfl;exact wD;exact all_oneCell_toArray (cs:=[.int .i16 x,.int .i16 y]) (by intro v hv;simp only [List.mem_cons,List.not_mem_nil,or_false] at hv;rcases hv with rfl | rfl <;> rfl)))
     exact z9 (v:=.tuple #[]) (by simp [results,Tryz.results187,go_sem]) rfl ⟨rfl,HE.out⟩
   · cases h1
end Go.Proofs.YtcaicgipibcicaaGreat
