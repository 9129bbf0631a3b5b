/- The gate reads an int, a byte, an id, a point. Printed by wip/genrdg2.py. -/
import Derived.Test.YtcaicgipibcicaaGreatQRdG
set_option maxRecDepth 100000
set_option maxHeartbeats 8000000
set_option linter.unusedSimpArgs false
set_option linter.unusedVariables false
open Go renaming bodyPost_end→wR
open Go.Lib renaming hid→wB
open Go.World renaming rangeAt_setCells_same→wT
open Nat renaming add_zero→xB,lt_of_lt_of_le→xm
namespace Go.Proofs.YtcaicgipibcicaaGreat
open Go.RowKit Go.Sort
theorem uC:(Tryz.prog.info? 75).map (·.size)=some 2:=by kernel_rfl
theorem fG {X:Nat→Prop} {w w':World} {P o:Nat} {cs:List Value} (h:w.rangeAt P o cs) (hk:Keep X w w') (hx:¬ X P):w'.rangeAt P o cs:=fun j v hv=>hk.cell (h j v hv) hx
theorem gY (w:World) (g R G P o:Nat) (s:Option (List Int)) (h:GtR w g R G s) (old:Int) (hold:w.rangeAt P o ((fun x=>[.int .i64 x]) old)) (hok:ar old) (hth:w.there P o 1) (hP:P≠g∧P≠R∧P≠G) :
 Calls Tryz.prog 189 #[.pointer (some ⟨g,0,none⟩),.pointer (some ⟨P,o,none⟩)] w fun e w'=>e = .returned (.tuple #[])∧aE w g R G P o 1 s eT (fun x=>[.int .i64 x]) ar w':=by
 have H:=wB h;have HO:=wB hold;have HOK:=wB hok;have HTH:=wB hth;have HP:=wB hP;obtain ⟨bad,s0,hb,_⟩:=h;obtain ⟨g0,g1,g2,gf⟩:=cells3 hb;clear hb hold hok hth hP;go_enter Tryz.func189,Tryz.ntmps189
 go_wp2_with fail
 refine (c7 w g R G s H.out).mono ?_;rintro e w2 ⟨rfl,hg2,hk2⟩;have H2:=wB hg2;have HPT:=wB (show aq w g R P o 1 w2 from aq.of_keep hk2 (fun k hk=>⟨.inl hk,by rw [hk];exact fun e=>HP.out.1 e.symm⟩));have HO2:=wB (fG HO.out hk2 (by exact fun e=>HP.out.1 e));clear hk2 g0 g1 g2 gf;cases s with
 | none=>
   have HE:=wB (show aE w g R G P o 1 none eT (fun x=>[.int .i64 x]) ar w2 from ⟨old,none,HOK.out,H2.out,Step.none _ _,HPT.out,HO2.out⟩);clear hg2;go_wp2_with fail
   exact wR (v:=.tuple #[]) (by simp [results,Tryz.results189,go_sem]) rfl ⟨rfl,HE.out⟩
 | some l=>
   obtain ⟨bad2,s2,hb2,hr2,hn2,hG2,⟨l',h1,rfl,rfl⟩ | ⟨h1,_⟩⟩:=hg2
   · cases h1
     obtain ⟨g0,g1,g2,gf⟩:=cells3 hb2;have HB2:=wB hb2;have HR2:=wB hr2;have HN2:=wB hn2;clear hb2 hr2 hn2;go_wp2_with fail
     refine (int_rd w2 R G (some l) HN2.out.2.2 HR2.out).mono ?_;rintro e w3 ⟨x,rfl,hx3,s3,hs3,hst3,hk3⟩;have HB3:=wB (hk3.old HB2.out (fun e=>HN2.out.1 e));have HPT3:=wB (HPT.out.trans (show aq w2 g R P o 1 w3 from aq.of_keep hk3 (fun k hk=>⟨.inr hk,by rw [hk];exact fun e=>HP.out.2.1 e.symm⟩)));have HTH3:=wB (HPT3.out.room o 1 HTH.out);have H3:=wB (show GtR w3 g R G s3 from ⟨0,s3,HB3.out,hs3,HN2.out,xm hG2 hk3.size,by cases s3 with | none=>exact .inr ⟨rfl,.inr rfl⟩ | some l3=>exact .inl ⟨l3,rfl,rfl,rfl⟩⟩)
     have HE:=wB (show aE w g R G P o 1 (some l) eT (fun x=>[.int .i64 x]) ar (w3.setCells P o [.int .i64 x]) from by
      have hk:=Keep.setCells w3 P o [.int .i64 x];exact ⟨x,s3,hx3,H3.out.keep hk (fun e=>HP.out.1 e.symm) (fun e=>HP.out.2.1 e.symm) (fun e=>HP.out.2.2 e.symm),hst3,HPT3.out.trans (aq.set w3 g R P o [.int .i64 x]),wT w3 P o [.int .i64 x] HTH3.out⟩)
     clear hs3 hst3 hk3 g0 g1 g2 gf;obtain ⟨u0,hu0⟩:=Option.isSome_iff_exists.1 (HTH3.out 0 (by omega)).1;have c0:w3.cell? ⟨P,o,none⟩=some u0:=by rwa [xB] at hu0
     have cf:w3.frozen? ⟨P,o,none⟩=false:=by have:=(HTH3.out 0 (by omega)).2;rwa [xB] at this
     clear hu0;go_wp2_with fail
     exact wR (v:=.tuple #[]) (by simp [results,Tryz.results189,go_sem]) rfl ⟨rfl,HE.out⟩
   · cases h1
theorem gZ (w:World) (g R G P o:Nat) (s:Option (List Int)) (h:GtR w g R G s) (old:Int) (hold:w.rangeAt P o ((fun x=>[.int .u8 x]) old)) (hok:bp old) (hth:w.there P o 1) (hP:P≠g∧P≠R∧P≠G) :
 Calls Tryz.prog 188 #[.pointer (some ⟨g,0,none⟩),.pointer (some ⟨P,o,none⟩)] w fun e w'=>e = .returned (.tuple #[])∧aE w g R G P o 1 s ff (fun x=>[.int .u8 x]) bp w':=by
 have H:=wB h;have HO:=wB hold;have HOK:=wB hok;have HTH:=wB hth;have HP:=wB hP;obtain ⟨bad,s0,hb,_⟩:=h;obtain ⟨g0,g1,g2,gf⟩:=cells3 hb;clear hb hold hok hth hP;go_enter Tryz.func188,Tryz.ntmps188
 go_wp2_with fail
 refine (c7 w g R G s H.out).mono ?_;rintro e w2 ⟨rfl,hg2,hk2⟩;have H2:=wB hg2;have HPT:=wB (show aq w g R P o 1 w2 from aq.of_keep hk2 (fun k hk=>⟨.inl hk,by rw [hk];exact fun e=>HP.out.1 e.symm⟩));have HO2:=wB (fG HO.out hk2 (by exact fun e=>HP.out.1 e));clear hk2 g0 g1 g2 gf;cases s with
 | none=>
   have HE:=wB (show aE w g R G P o 1 none ff (fun x=>[.int .u8 x]) bp w2 from ⟨old,none,HOK.out,H2.out,Step.none _ _,HPT.out,HO2.out⟩);clear hg2;go_wp2_with fail
   exact wR (v:=.tuple #[]) (by simp [results,Tryz.results188,go_sem]) rfl ⟨rfl,HE.out⟩
 | some l=>
   obtain ⟨bad2,s2,hb2,hr2,hn2,hG2,⟨l',h1,rfl,rfl⟩ | ⟨h1,_⟩⟩:=hg2
   · cases h1
     obtain ⟨g0,g1,g2,gf⟩:=cells3 hb2;have HB2:=wB hb2;have HR2:=wB hr2;have HN2:=wB hn2;clear hb2 hr2 hn2;go_wp2_with fail
     refine (we w2 R G (some l) HN2.out.2.2 HR2.out).mono ?_;rintro e w3 ⟨x,rfl,hx3,s3,hs3,hst3,hk3⟩;have HB3:=wB (hk3.old HB2.out (fun e=>HN2.out.1 e));have HPT3:=wB (HPT.out.trans (show aq w2 g R P o 1 w3 from aq.of_keep hk3 (fun k hk=>⟨.inr hk,by rw [hk];exact fun e=>HP.out.2.1 e.symm⟩)));have HTH3:=wB (HPT3.out.room o 1 HTH.out);have H3:=wB (show GtR w3 g R G s3 from ⟨0,s3,HB3.out,hs3,HN2.out,xm hG2 hk3.size,by cases s3 with | none=>exact .inr ⟨rfl,.inr rfl⟩ | some l3=>exact .inl ⟨l3,rfl,rfl,rfl⟩⟩)
     have HE:=wB (show aE w g R G P o 1 (some l) ff (fun x=>[.int .u8 x]) bp (w3.setCells P o [.int .u8 x]) from by
      have hk:=Keep.setCells w3 P o [.int .u8 x];exact ⟨x,s3,hx3,H3.out.keep hk (fun e=>HP.out.1 e.symm) (fun e=>HP.out.2.1 e.symm) (fun e=>HP.out.2.2 e.symm),hst3,HPT3.out.trans (aq.set w3 g R P o [.int .u8 x]),wT w3 P o [.int .u8 x] HTH3.out⟩)
     clear hs3 hst3 hk3 g0 g1 g2 gf;obtain ⟨u0,hu0⟩:=Option.isSome_iff_exists.1 (HTH3.out 0 (by omega)).1;have c0:w3.cell? ⟨P,o,none⟩=some u0:=by rwa [xB] at hu0
     have cf:w3.frozen? ⟨P,o,none⟩=false:=by have:=(HTH3.out 0 (by omega)).2;rwa [xB] at this
     clear hu0;go_wp2_with fail
     exact wR (v:=.tuple #[]) (by simp [results,Tryz.results188,go_sem]) rfl ⟨rfl,HE.out⟩
   · cases h1
theorem uD (w:World) (g R G P o:Nat) (s:Option (List Int)) (h:GtR w g R G s) (old:List Int) (hold:w.rangeAt P o ((cellsOf ah) old)) (hok:(fun d=>d.length=8∧Byt d) old) (hth:w.there P o 8) (hP:P≠g∧P≠R∧P≠G) :
 Calls Tryz.prog 186 #[.pointer (some ⟨g,0,none⟩),.pointer (some ⟨P,o,none⟩)] w fun e w'=>e = .returned (.tuple #[])∧aE w g R G P o 8 s (bK 8) (cellsOf ah) (fun d=>d.length=8∧Byt d) w':=by
 have H:=wB h;have HO:=wB hold;have HOK:=wB hok;have HTH:=wB hth;have HP:=wB hP;obtain ⟨bad,s0,hb,_⟩:=h;obtain ⟨g0,g1,g2,gf⟩:=cells3 hb;clear hb hold hok hth hP;go_enter Tryz.func186,Tryz.ntmps186
 go_wp2_with fail
 refine (c7 w g R G s H.out).mono ?_;rintro e w2 ⟨rfl,hg2,hk2⟩;have H2:=wB hg2;have HPT:=wB (show aq w g R P o 8 w2 from aq.of_keep hk2 (fun k hk=>⟨.inl hk,by rw [hk];exact fun e=>HP.out.1 e.symm⟩));have HO2:=wB (fG HO.out hk2 (by exact fun e=>HP.out.1 e));clear hk2 g0 g1 g2 gf;cases s with
 | none=>
   have HE:=wB (show aE w g R G P o 8 none (bK 8) (cellsOf ah) (fun d=>d.length=8∧Byt d) w2 from ⟨old,none,HOK.out,H2.out,Step.none _ _,HPT.out,HO2.out⟩);clear hg2;go_wp2_with fail
   exact wR (v:=.tuple #[]) (by simp [results,Tryz.results186,go_sem]) rfl ⟨rfl,HE.out⟩
 | some l=>
   obtain ⟨bad2,s2,hb2,hr2,hn2,hG2,⟨l',h1,rfl,rfl⟩ | ⟨h1,_⟩⟩:=hg2
   · cases h1
     obtain ⟨g0,g1,g2,gf⟩:=cells3 hb2;have HB2:=wB hb2;have HR2:=wB hr2;have HN2:=wB hn2;clear hb2 hr2 hn2;go_wp2_with fail
     refine (id_rd w2 R G (some l) HN2.out.2.2 hG2 HR2.out).mono ?_;rintro e w3 ⟨i0,i1,i2,i3,i4,i5,i6,i7,rfl,hx3,s3,hs3,hst3,hk3⟩;have HB3:=wB (hk3.old HB2.out (fun e=>HN2.out.1 e));have HPT3:=wB (HPT.out.trans (show aq w2 g R P o 8 w3 from aq.of_keep hk3 (fun k hk=>⟨.inr hk,by rw [hk];exact fun e=>HP.out.2.1 e.symm⟩)));have HTH3:=wB (show w3.there P o (#[.int .u8 i0,.int .u8 i1,.int .u8 i2,.int .u8 i3,.int .u8 i4,.int .u8 i5,.int .u8 i6,.int .u8 i7]:Array Value).size from HPT3.out.room o 8 HTH.out);have H3:=wB (show GtR w3 g R G s3 from ⟨0,s3,HB3.out,hs3,HN2.out,xm hG2 hk3.size,by cases s3 with | none=>exact .inr ⟨rfl,.inr rfl⟩ | some l3=>exact .inl ⟨l3,rfl,rfl,rfl⟩⟩)
     have HE:=wB (show aE w g R G P o 8 (some l) (bK 8) (cellsOf ah) (fun d=>d.length=8∧Byt d) (w3.setCells P o [.int .u8 i0,.int .u8 i1,.int .u8 i2,.int .u8 i3,.int .u8 i4,.int .u8 i5,.int .u8 i6,.int .u8 i7]) from by
      have hk:=Keep.setCells w3 P o [.int .u8 i0,.int .u8 i1,.int .u8 i2,.int .u8 i3,.int .u8 i4,.int .u8 i5,.int .u8 i6,.int .u8 i7];exact ⟨[i0,i1,i2,i3,i4,i5,i6,i7],s3,⟨rfl,hx3⟩,H3.out.keep hk (fun e=>HP.out.1 e.symm) (fun e=>HP.out.2.1 e.symm) (fun e=>HP.out.2.2 e.symm),hst3,HPT3.out.trans (aq.set w3 g R P o [.int .u8 i0,.int .u8 i1,.int .u8 i2,.int .u8 i3,.int .u8 i4,.int .u8 i5,.int .u8 i6,.int .u8 i7]),wT w3 P o [.int .u8 i0,.int .u8 i1,.int .u8 i2,.int .u8 i3,.int .u8 i4,.int .u8 i5,.int .u8 i6,.int .u8 i7] HTH3.out⟩)
     clear hs3 hst3 hk3 g0 g1 g2 gf;go_wp2_with (first | ((with_reducible refine wpList_store_mid (op:=⟨none,.store 72 (.tmp 26) (.tmp 25),_,_,_,_⟩) ?_ 72 (.tmp 26) (.tmp 25) ?_ P o #[.int .u8 i0,.int .u8 i1,.int .u8 i2,.int .u8 i3,.int .u8 i4,.int .u8 i5,.int .u8 i6,.int .u8 i7] ?_ ?_ HTH3.out ?_ ?_ ?_);rfl;rfl;rfl;rfl;exact kt;exact all_oneCell_toArray (cs:=[.int .u8 i0,.int .u8 i1,.int .u8 i2,.int .u8 i3,.int .u8 i4,.int .u8 i5,.int .u8 i6,.int .u8 i7]) (by intro v hv;simp only [List.mem_cons,List.not_mem_nil,or_false] at hv;rcases hv with rfl | rfl | rfl | rfl | rfl | rfl | rfl | rfl <;> rfl)))
     exact wR (v:=.tuple #[]) (by simp [results,Tryz.results186,go_sem]) rfl ⟨rfl,HE.out⟩
   · cases h1
theorem jG (w:World) (g R G P o:Nat) (s:Option (List Int)) (h:GtR w g R G s) (old:Int × Int) (hold:w.rangeAt P o ((fun x=>[.int .i16 x.1,.int .i16 x.2]) old)) (hok:(fun x=>aY x.1∧aY x.2) old) (hth:w.there P o 2) (hP:P≠g∧P≠R∧P≠G) :
 Calls Tryz.prog 187 #[.pointer (some ⟨g,0,none⟩),.pointer (some ⟨P,o,none⟩)] w fun e w'=>e = .returned (.tuple #[])∧aE w g R G P o 2 s dg (fun x=>[.int .i16 x.1,.int .i16 x.2]) (fun x=>aY x.1∧aY x.2) w':=by
 have H:=wB h;have HO:=wB hold;have HOK:=wB hok;have HTH:=wB hth;have HP:=wB hP;obtain ⟨bad,s0,hb,_⟩:=h;obtain ⟨g0,g1,g2,gf⟩:=cells3 hb;clear hb hold hok hth hP;go_enter Tryz.func187,Tryz.ntmps187
 go_wp2_with fail
 refine (c7 w g R G s H.out).mono ?_;rintro e w2 ⟨rfl,hg2,hk2⟩;have H2:=wB hg2;have HPT:=wB (show aq w g R P o 2 w2 from aq.of_keep hk2 (fun k hk=>⟨.inl hk,by rw [hk];exact fun e=>HP.out.1 e.symm⟩));have HO2:=wB (fG HO.out hk2 (by exact fun e=>HP.out.1 e));clear hk2 g0 g1 g2 gf;cases s with
 | none=>
   have HE:=wB (show aE w g R G P o 2 none dg (fun x=>[.int .i16 x.1,.int .i16 x.2]) (fun x=>aY x.1∧aY x.2) w2 from ⟨old,none,HOK.out,H2.out,Step.none _ _,HPT.out,HO2.out⟩);clear hg2;go_wp2_with fail
   exact wR (v:=.tuple #[]) (by simp [results,Tryz.results187,go_sem]) rfl ⟨rfl,HE.out⟩
 | some l=>
   obtain ⟨bad2,s2,hb2,hr2,hn2,hG2,⟨l',h1,rfl,rfl⟩ | ⟨h1,_⟩⟩:=hg2
   · cases h1
     obtain ⟨g0,g1,g2,gf⟩:=cells3 hb2;have HB2:=wB hb2;have HR2:=wB hr2;have HN2:=wB hn2;clear hb2 hr2 hn2;go_wp2_with fail
     refine (uV w2 R G (some l) HN2.out.2.2 hG2 HR2.out).mono ?_;rintro e w3 ⟨x,y,rfl,hx3,hy3,s3,hs3,hst3,hk3⟩;have HB3:=wB (hk3.old HB2.out (fun e=>HN2.out.1 e));have HPT3:=wB (HPT.out.trans (show aq w2 g R P o 2 w3 from aq.of_keep hk3 (fun k hk=>⟨.inr hk,by rw [hk];exact fun e=>HP.out.2.1 e.symm⟩)));have HTH3:=wB (show w3.there P o (#[.int .i16 x,.int .i16 y]:Array Value).size from HPT3.out.room o 2 HTH.out);have H3:=wB (show GtR w3 g R G s3 from ⟨0,s3,HB3.out,hs3,HN2.out,xm hG2 hk3.size,by cases s3 with | none=>exact .inr ⟨rfl,.inr rfl⟩ | some l3=>exact .inl ⟨l3,rfl,rfl,rfl⟩⟩)
     have HE:=wB (show aE w g R G P o 2 (some l) dg (fun x=>[.int .i16 x.1,.int .i16 x.2]) (fun x=>aY x.1∧aY x.2) (w3.setCells P o [.int .i16 x,.int .i16 y]) from by
      have hk:=Keep.setCells w3 P o [.int .i16 x,.int .i16 y];exact ⟨(x,y),s3,⟨hx3,hy3⟩,H3.out.keep hk (fun e=>HP.out.1 e.symm) (fun e=>HP.out.2.1 e.symm) (fun e=>HP.out.2.2 e.symm),hst3,HPT3.out.trans (aq.set w3 g R P o [.int .i16 x,.int .i16 y]),wT w3 P o [.int .i16 x,.int .i16 y] HTH3.out⟩)
     clear hs3 hst3 hk3 g0 g1 g2 gf;go_wp2_with (first | ((with_reducible refine wpList_store_mid (op:=⟨none,.store 75 (.tmp 26) (.tmp 25),_,_,_,_⟩) ?_ 75 (.tmp 26) (.tmp 25) ?_ P o #[.int .i16 x,.int .i16 y] ?_ ?_ HTH3.out ?_ ?_ ?_);rfl;rfl;rfl;rfl;exact uC;exact all_oneCell_toArray (cs:=[.int .i16 x,.int .i16 y]) (by intro v hv;simp only [List.mem_cons,List.not_mem_nil,or_false] at hv;rcases hv with rfl | rfl <;> rfl)))
     exact wR (v:=.tuple #[]) (by simp [results,Tryz.results187,go_sem]) rfl ⟨rfl,HE.out⟩
   · cases h1
end Go.Proofs.YtcaicgipibcicaaGreat
