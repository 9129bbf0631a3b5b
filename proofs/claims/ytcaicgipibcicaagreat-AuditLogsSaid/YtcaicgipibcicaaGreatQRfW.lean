/- The reference's Reader in memory: what is left of it, the next bytes. -/
import Derived.Test.YtcaicgipibcicaaGreatQRowB
import Derived.Test.YtcaicgipibcicaaGreatQRdM
import Derived.Test.YtcaicgipibcicaaGreatQRdX
import Derived.Test.YtcaicgipibcicaaGreatQRdY
import Derived.BigRegion
import Derived.Test.YtcaicgipibcicaaGreatQRdG5
set_option maxRecDepth 100000
set_option maxHeartbeats 16000000
set_option linter.unusedSimpArgs false
set_option linter.unusedVariables false
open Go renaming all_oneCell_toArray→yU,bodyPost_ret→yS,cell_of_row→yI,heap_alloc_new→yE,lt_of_block→yK,wpList_store_mid→ze
open Go.Lib renaming hid→yA
open Go.World renaming rangeAt_setCells_same→yJ
open List renaming getElem?_append_left→zA,getElem?_append_right→zx,getElem?_eq_getElem→yC,getElem?_eq_some_iff→yD,length_append→yN,length_drop→zw,length_take→yY,mem_cons→zt,not_mem_nil→zi
open Nat renaming le_refl→yB,lt_of_lt_of_le→za,zero_add→yO
open Option renaming bind_some→yT,isSome_iff_exists→zB,map_some→zF
namespace Go.Proofs.YtcaicgipibcicaaGreat
open Go.RowKit Go.Sort
def nT (w:World) (g:Nat) (ao:Option Addr) (n c:Nat) (f:Int) (wide:Bool):Prop:=w.heap[g]?=some (.cells #[.slice ao n c,.int .i64 f,.bool wide] 219 (0,0))
def RfS (w:World) (g G:Nat) (t:Option (List Int)) (wide:Bool):Prop:=match t with
 | some l=>∃ ao c,nT w g ao l.length c 0 wide∧RdC w ao (cellsOf ai l)∧(∀ a,ao=some a→a.block=G)∧Byt l∧l.length≤c∧l.length≤1000000000
 | none=>∃ f,f≠0∧nT w g none 0 0 f wide
theorem RfS.keep {w w':World} {g G:Nat} {t:Option (List Int)} {wide:Bool} {X:Nat→Prop} (h:RfS w g G t wide) (hk:Keep X w w') (h1:¬ X g) (h2:¬ X G):RfS w' g G t wide:=by
 cases t with
 | none=>obtain ⟨f,hf,h⟩:=h;exact ⟨f,hf,hk.old h h1⟩
 | some l=>
   obtain ⟨ao,c,h3,h4,h5,h6,h7,h8⟩:=h;exact ⟨ao,c,hk.old h3 h1,h4.keep hk (fun b o hb=>by have h9:b=G:=h5 _ hb;rw [h9];exact h2),h5,h6,h7,h8⟩
theorem RfS.lt {w:World} {g G:Nat} {t:Option (List Int)} {wide:Bool} (h:RfS w g G t wide):g<w.heap.size:=by
 cases t with
 | none=>obtain ⟨f,hf,h⟩:=h;exact yK h
 | some l=>obtain ⟨ao,c,h3,_⟩:=h;exact yK h3
theorem RfS.byt {w:World} {g G:Nat} {l:List Int} {wide:Bool} (h:RfS w g G (some l) wide):Byt l:=by obtain ⟨_,_,_,_,_,h,_⟩:=h;exact h
theorem nT.fail {w:World} {g:Nat} {ao:Option Addr} {n c:Nat} {f:Int} {wide:Bool} (h:nT w g ao n c f wide) (e:Int):nT ((w.setCell ⟨g,1,none⟩ (.int .i64 e)).setCell ⟨g,0,none⟩ (.slice none 0 0)) g none 0 0 e wide∧Keep (fun k=>k=g) w ((w.setCell ⟨g,1,none⟩ (.int .i64 e)).setCell ⟨g,0,none⟩ (.slice none 0 0)):=
 ⟨aj (aj h 1 (.int .i64 e)) 0 (.slice none 0 0),(aS w g 1 _).trans (aS _ g 0 _) (fun _ _ h=>h) (fun _ _ h=>h)⟩
theorem ri (w:World) (g:Nat) (ao:Option Addr) (n c:Nat) (e:Int) (wide:Bool) (h:nT w g ao n c 0 wide) :
 Calls Tryz.prog 196 #[.pointer (some ⟨g,0,none⟩),.int .i64 e] w fun r w'=>r = .returned (.tuple #[])∧nT w' g none 0 0 e wide∧Keep (fun k=>k=g) w w':=by
 have HF:=yA (h.fail e);obtain ⟨g0,g1,g2,gf⟩:=cells3 h;clear h;go_enter Tryz.func196,Tryz.ntmps196
 go_wp2_with fail
 exact bodyPost_end (v:=.tuple #[]) (by simp [results,Tryz.results196,go_sem]) rfl ⟨rfl,HF.out.1,HF.out.2⟩
theorem iM (w:World) (g G:Nat) (l:List Int) (wide:Bool) (e:Int) (he:e≠0) (h:RfS w g G (some l) wide) :
 Calls Tryz.prog 196 #[.pointer (some ⟨g,0,none⟩),.int .i64 e] w fun r w'=>r = .returned (.tuple #[])∧RfS w' g G none wide∧Keep (fun k=>k=g) w w':=by
 obtain ⟨ao,c,h1,_⟩:=h;refine (ri w g ao l.length c e wide h1).mono ?_;rintro r w' ⟨rfl,h2,h3⟩;exact ⟨rfl,⟨e,he,h2⟩,h3⟩
def kL (w:World) (g G k:Nat) (t:Option (List Int)) (wide:Bool) (e:Ending) (w':World):Prop:=
 Keep (fun k=>k=g) w w'∧RfS w' g G ((t.bind (bM k)).map (·.2)) wide∧
 match t.bind (bM k) with
 | some (d,_)=>∃ b o c,e = .returned (.tuple #[.slice (some ⟨b,o,none⟩) k c,.bool true])∧k≤c∧(∀ j u,(cellsOf ai d)[j]?=some u→w'.cell? ⟨b,o+j,none⟩=some u)∧b=G
 | none=>e = .returned (.tuple #[.slice none 0 0,.bool false])
theorem lr (w:World) (g G k:Nat) (t:Option (List Int)) (wide:Bool) (hgG:g≠G) (hk:0<k) (hk2:k≤1000) (h:RfS w g G t wide) :
 Calls Tryz.prog 218 #[.pointer (some ⟨g,0,none⟩),.int .i64 (k:Int)] w (kL w g G k t wide):=by
 cases t with
 | none=>
   have HE:=yA (show kL w g G k none wide (.returned (.tuple #[.slice none 0 0,.bool false])) w from ⟨Keep.refl _ _,h,rfl⟩);obtain ⟨f,hf,h1⟩:=h;have b1:(f != 0)=true:=by simp [hf]
   obtain ⟨g0,g1,g2,gf⟩:=cells3 h1;clear h1 hf;go_enter Tryz.func218,Tryz.ntmps218
   go_wp2_with fail
   go_ret2
   exact HE.out
 | some l=>
   have H:=yA h;obtain ⟨ao,c,h1,h2,h3,h4,h5,h6⟩:=h;obtain ⟨g0,g1,g2,gf⟩:=cells3 h1;by_cases hlt:l.length<k
   · have htk:bM k l=none:=by simp [bM,hlt]
     have b2:decide ((l.length:Int)<(k:Int))=true:=decide_eq_true (by omega);have b2':decide (l.length<k)=true:=decide_eq_true hlt;clear h1 h2 h3 h4 h5 h6;go_enter Tryz.func218,Tryz.ntmps218
     go_wp2_with fail
     refine (iM w g G l wide 20 (by decide) H.out).mono ?_;rintro e w2 ⟨rfl,h7,h8⟩
     have HE:=yA (show kL w g G k (some l) wide (.returned (.tuple #[.slice none 0 0,.bool false])) w2 from by
      refine ⟨h8,?_,?_⟩
      · simp only [yT,htk,Option.map_none]
        exact h7
      · simp only [yT,htk])
     clear h7 h8 g0 g1 g2 gf;go_wp2_with fail
     go_ret2
     exact HE.out
   · have htk:bM k l=some (l.take k,l.drop k):=by simp [bM,hlt]
     have b2:decide ((l.length:Int)<(k:Int))=false:=decide_eq_false (by omega);have b2':decide (l.length<k)=false:=decide_eq_false hlt;obtain ⟨c1,hs1,hc1⟩:=slice_head ao l.length c k (by omega) h5;obtain ⟨ao2,c2,hs2,hc2,hb2,hr2⟩:=fW ao l.length c k (by omega) h5
     obtain ⟨b,o,hao,hcell⟩:∃ b o,ao=some ⟨b,o,none⟩∧∀ j u,(cellsOf ai l)[j]?=some u→w.cell? ⟨b,o+j,none⟩=some u:=by
      rcases h2 with h0 | h0
      · have:=congrArg List.length h0
        rw [aG,List.length_nil] at this;omega
      · exact h0
     have hbG:b=G:=h3 _ hao;have HK:=yA (aS w g 0 (.slice ao2 (l.length - k) c2))
     have HE:=yA (show kL w g G k (some l) wide (.returned (.tuple #[.slice ao k c1,.bool true])) (w.setCell ⟨g,0,none⟩ (.slice ao2 (l.length - k) c2)) from by
      refine ⟨HK.out,?_,?_⟩
      · simp only [yT,htk,zF]
        refine ⟨ao2,c2,?_,(hr2 w l rfl h2).keep HK.out (fun b' o' hb hX=>?_),fun a' hb=>?_,h4.drop k,by rw [zw];exact hc2,by rw [zw];omega⟩
        · rw [zw]
          exact aj h1 0 _
        · obtain ⟨a,h9,h10⟩:=hb2 _ hb
          have h11:=h3 a h9;rw [h10] at h11;exact hgG (by rw [←hX];exact h11)
        · obtain ⟨a,h9,h10⟩:=hb2 a' hb
          rw [←h10];exact h3 a h9
      · simp only [yT,htk]
        refine ⟨b,o,c1,by rw [hao],hc1,fun j u hu=>HK.out.cell (hcell j u ?_) (by show ¬ b=g;rw [hbG];exact fun e=>hgG e.symm),hbG⟩;have hj:j<k:=by have:=(yD.1 hu).1;rw [aG,yY] at this;omega
        have hjl:j<l.length:=by omega
        rw [show j=j*1+0 by omega,cq ai 1 cE (l.take k) j (l[j]) (by rw [List.getElem?_take,if_pos hj];exact yC hjl) 0 (by omega)] at hu;rw [show j=j*1+0 by omega,cq ai 1 cE l j (l[j]) (yC hjl) 0 (by omega)];exact hu)
     clear h1 h2 h3 h4 h6 hb2 hr2 hao hcell hbG htk hc1 hc2;go_enter Tryz.func218,Tryz.ntmps218
     go_wp2_with fail
     go_ret2
     exact HE.out
def ck {α:Type} (w:World) (g G:Nat) (t:Option (List Int)) (wide:Bool) (p:bl α) (x:α) (w':World):Prop:=
 ∃ t',RfS w' g G t' wide∧Step p t t' x∧Keep (fun k=>k=g) w w'
theorem xb (w:World) (g G:Nat) (t:Option (List Int)) (wide:Bool) (hgG:g≠G) (h:RfS w g G t wide) :
 Calls Tryz.prog 199 #[.pointer (some ⟨g,0,none⟩)] w fun e w'=>∃ x:Int,e = .returned (.int .u8 x)∧bT x∧ck w g G t wide ej x w':=by
 have H:=yA h;have HRG:=yA hgG;clear h hgG;go_enter Tryz.func199,Tryz.ntmps199
 go_wp2_with fail
 refine (lr w g G 1 t wide HRG.out (by omega) (by omega) H.out).mono ?_;rintro e w2 ⟨hk,hs,he⟩;rcases gk t 1 with ⟨l,rfl,hl,ht⟩ | ht
 · simp only [yT,ht,zF] at hs he
   obtain ⟨b,o,c,rfl,hc1,hc,hbG⟩:=he
   obtain ⟨x,r,rfl⟩:∃ x r,l=x::r:=by
    cases l with
    | nil=>simp at hl
    | cons x r=>exact ⟨x,r,rfl⟩
   · have c0:w2.cell? ⟨b,o,none⟩=some (.int .u8 x):=hc 0 _ rfl
     have HB:=yA (H.out.byt.head);have HE:=yA (show ck w g G (some (x::r)) wide ej x w2 from ⟨some r,hs,Step.some rfl,hk⟩);clear hk hs hc ht hl hbG;go_wp2_with fail
     go_ret
     exact ⟨x,rfl,HB.out,HE.out⟩
 · rw [ht] at hs he
   simp only at he;subst he
   have HE:=yA (show ck w g G t wide ej 0 w2 from ⟨none,hs,by
    cases t with
    | none=>exact Step.none _ _
    | some l=>
      refine Step.fail ?_ _;cases l with
      | nil=>rfl
      | cons x l=>simp [bM] at ht,hk⟩)
   clear hk hs;go_wp2_with fail
   go_ret
   exact ⟨0,rfl,by unfold bT;omega,HE.out⟩
theorem uR (w:World) (n:Nat) (hn:n<18446744073709551616) :
 Calls Tryz.prog 200 #[.int .u64 n] w fun e w'=>e = .returned (.int .i64 (fg n))∧w'=w:=by
 by_cases h:n % 2=0
 · have b1:(((n:Int) % 2)==0)=true:=by simp;omega
   have b1':((n % 2)==0)=true:=by simp [h]
   have HB:=yA (show fg n=(n:Int) / 2 from by unfold fg;rw [if_pos h];omega);clear h;go_enter Tryz.func200,Tryz.ntmps200
   go_wp2_with fail
   go_ret
   refine ⟨?_,rfl⟩;rw [HB.out];rfl
 · have b1:(((n:Int) % 2)==0)=false:=by simp;omega
   have b1':((n % 2)==0)=false:=by simp [h]
   have HB:=yA (show fg n=-((n:Int) / 2) - 1 from by unfold fg;rw [if_neg h];omega);clear h;go_enter Tryz.func200,Tryz.ntmps200
   go_wp2_with fail
   go_ret
   refine ⟨?_,rfl⟩;rw [HB.out];rfl
theorem ls {n j:Nat} {x:Int} (hn:n<128 ^ j) (hj:j≤9) (x1:0≤x) (x2:x≤255) (h9:j=9→x.toNat % 128≤1) :
 IntKind.u64.wrap ((n:Int)+IntKind.u64.wrap (((128 ^ j:Nat):Int)*(x % 128)))=((n+128 ^ j*(x.toNat % 128):Nat):Int):=by
 obtain ⟨b,rfl⟩:∃ b:Nat,x=b:=⟨x.toNat,by omega⟩;have hb:((b:Int).toNat % 128)=b % 128:=by simp
 rw [hb] at h9 ⊢
 have hle:n+128 ^ j*(b % 128)<18446744073709551616:=by
  by_cases h:j=9
  · have:=h9 h
    subst h;have hp:(128:Nat) ^ 9=9223372036854775808:=by decide
    rw [hp] at hn ⊢;have:9223372036854775808*(b % 128)≤9223372036854775808*1:=Nat.mul_le_mul_left _ this;omega
  · have h1:128 ^ j≤128 ^ 8:=Nat.pow_le_pow_right (by omega) (by omega)
    have hp:(128:Nat) ^ 8=72057594037927936:=by decide
    have h2:128 ^ j*(b % 128)≤72057594037927936*127:=Nat.mul_le_mul (by omega) (by omega);omega
 have e1:(((128 ^ j:Nat):Int)*((b:Int) % 128))=((128 ^ j*(b % 128):Nat):Int):=by push_cast;rfl
 rw [e1];generalize 128 ^ j*(b % 128)=M at *;rw [wrap_u64 (n:=(M:Int)) (by omega) (by omega),show ((n:Int)+(M:Int))=((n+M:Nat):Int) by push_cast;rfl,wrap_u64 (by omega) (by omega)]
theorem tG (w:World) (g G:Nat) (t:Option (List Int)) (wide:Bool) (hgG:g≠G) (h:RfS w g G t wide) :
 Calls Tryz.prog 175 #[.pointer (some ⟨g,0,none⟩)] w fun e w'=>∃ n:Nat,e = .returned (.int .u64 n)∧n<18446744073709551616∧ck w g G t wide dh n w':=by
 cases t with
 | none=>
   have HE:=yA (show ck w g G none wide dh 0 w from ⟨none,h,Step.none _ _,Keep.refl _ _⟩);obtain ⟨f,hf,h1⟩:=h;have b1:(f != 0)=true:=by simp [hf]
   obtain ⟨g0,g1,g2,gf⟩:=cells3 h1;clear h1 hf;go_enter Tryz.func175,Tryz.ntmps175
   go_wp2_with fail
   go_ret
   exact ⟨0,rfl,by omega,HE.out⟩
 | some l=>
   have H:=yA h;obtain ⟨ao,c,h1,h2,h3,h4,h5,h6⟩:=h;have H1:=yA h1;have H2:=yA h2;have H3:=yA h3;have H4:=yA h4;have H5:=yA h5;have H6:=yA h6;have HGG:=yA hgG;obtain ⟨g0,g1,g2,gf⟩:=cells3 h1;clear h1 h2 h3 h4 h5 h6 hgG;obtain ⟨k,hk⟩:∃ k,l.length=k:=⟨_,rfl⟩;have HKL:=yA hk;rw [hk] at g0;have hk6:k≤1000000000:=by have:=H6.out;omega
   have hk5:k≤c:=by have:=H5.out;omega
   clear hk;go_enter Tryz.func175,Tryz.ntmps175
   go_wp2_with fail
   go_loopw [3,4,5] (fun u sc i wr=>Hid (∃ (n j:Nat),u = .int .u64 n∧sc = .int .u64 ((128 ^ j:Nat):Int)∧i = .int .i64 j∧j≤9∧n<128 ^ j∧j≤k∧dh l=dD j n (l.drop j)∧wr=w)) (fun _ _ i _=>10 - (intOf i).toNat)
   case atStart=>exact yA ⟨0,0,rfl,rfl,rfl,by omega,by decide,by omega,rfl,rfl⟩
   case round=>
    obtain ⟨n,j,rfl,rfl,rfl,hj,hn,hjk,he,rfl⟩:=hrel.out;clear hrel;have HE:=yA he;have HN:=yA hn;clear he hn;have e9:decide ((j:Int)<10)=true:=decide_eq_true (by omega);have e9':decide (j<10)=true:=decide_eq_true (by omega);obtain ⟨SC,hSC⟩:∃ SC:Int,((128 ^ j:Nat):Int)=SC:=⟨_,rfl⟩;have HSC:=yA hSC;rw [hSC];clear hSC;by_cases hend:k≤j
    · have b3:decide ((k:Int)≤(j:Int))=true:=decide_eq_true (by omega)
      have b3':decide (k≤j)=true:=decide_eq_true hend
      have HF:=yA (show dh l=none from by
       rw [HE.out,List.drop_of_length_le (by rw [HKL.out];exact hend)];rfl)
      clear hend;go_wp2_with fail
      refine (iM wr g G l wide 20 (by decide) H.out).mono ?_;rintro e w2 ⟨rfl,h7,h8⟩;have HX:=yA (show ck wr g G (some l) wide dh 0 w2 from ⟨none,h7,Step.fail HF.out _,h8⟩);clear h7 h8 g0 g1 g2 gf;go_wp2_with fail
      go_ret
      exact ⟨0,rfl,by omega,HX.out⟩
    · have b3:decide ((k:Int)≤(j:Int))=false:=decide_eq_false (by omega)
      have b3':decide (k≤j)=false:=decide_eq_false hend;have hlt:j<l.length:=by rw [HKL.out];omega
      obtain ⟨x,hx⟩:∃ x,l[j]?=some x:=⟨_,yC hlt⟩
      have HDR:=yA (show l.drop j=x::l.drop (j+1) from by
       rw [List.drop_eq_getElem_cons hlt];rw [yC hlt] at hx;cases hx
       rfl)
      obtain ⟨x1,x2⟩:=H4.out x (List.mem_of_getElem? hx)
      obtain ⟨b,o,rfl,hc⟩:∃ b o,ao=some ⟨b,o,none⟩∧wr.cell? ⟨b,o+j,none⟩=some (.int .u8 x):=by
       rcases H2.out with h0 | ⟨b,o,h0,h00⟩
       · have:=congrArg List.length h0
         rw [aG,List.length_nil] at this;omega
       · refine ⟨b,o,h0,h00 j _ ?_⟩
         have hg:=cq ai 1 cE l j x hx 0 (by omega);rw [show j*1+0=j by omega] at hg;exact hg.trans rfl
      clear hx hlt;have HBAD:=yA (fun (hb:(j=9∧1<x)∨(0<j∧x=0))=>show dh l=none from by rw [HE.out,HDR.out];simp only [dD,if_pos hb]);have HGOOD:=yA (fun (hb:¬ ((j=9∧1<x)∨(0<j∧x=0)))=>show dh l=if x<128 then some (n+128 ^ j*(x.toNat % 128),l.drop (j+1)) else dD (j+1) (n+128 ^ j*(x.toNat % 128)) (l.drop (j+1)) from by rw [HE.out,HDR.out];simp only [dD,if_neg hb]);by_cases h9:j=9
      · have c1:(j==9)=true:=by simp [h9]
        have c1':((j:Int)==9)=true:=by simp [h9]
        have c3:decide (0<j)=true:=decide_eq_true (by omega);have c3':decide ((0:Int)<(j:Int))=true:=decide_eq_true (by omega);by_cases h1:1<x
        · have c2:decide (1<x)=true:=decide_eq_true h1
          have hbad:(j=9∧1<x)∨(0<j∧x=0):=.inl ⟨h9,h1⟩;have HF:=yA (HBAD.out hbad);clear h9;clear hbad;go_wp2_with fail
          refine (iM wr g G l wide 21 (by decide) H.out).mono ?_;rintro e w2 ⟨rfl,h7,h8⟩;have HX:=yA (show ck wr g G (some l) wide dh 0 w2 from ⟨none,h7,Step.fail HF.out _,h8⟩);clear h7 h8 g0 g1 g2 gf;go_wp2_with fail
          go_ret
          exact ⟨0,rfl,by omega,HX.out⟩
        · have c2:decide (1<x)=false:=decide_eq_false h1
          by_cases h0:x=0
          · have c4:(x==0)=true:=by simp [h0]
            have hbad:(j=9∧1<x)∨(0<j∧x=0):=.inr ⟨by omega,h0⟩;have HF:=yA (HBAD.out hbad);clear h9 h0;clear hbad;go_wp2_with fail
            refine (iM wr g G l wide 21 (by decide) H.out).mono ?_;rintro e w2 ⟨rfl,h7,h8⟩;have HX:=yA (show ck wr g G (some l) wide dh 0 w2 from ⟨none,h7,Step.fail HF.out _,h8⟩);clear h7 h8 g0 g1 g2 gf;go_wp2_with fail
            go_ret
            exact ⟨0,rfl,by omega,HX.out⟩
          · have c4:(x==0)=false:=by simp [h0]
            have hbad:¬ ((j=9∧1<x)∨(0<j∧x=0)):=by omega
            have HV:=yA (HGOOD.out hbad);have HBITS:=yA (ls HN.out hj x1 x2 (by omega));rw [HSC.out] at HBITS;clear hbad;have hx:x<128:=by omega
            clear h9;have c5:decide (x<128)=true:=decide_eq_true hx;obtain ⟨ao2,c2',hs2,hc2,hb2,hr2⟩:=fW (some ⟨b,o,none⟩) k c (j+1) (by omega) hk5
            push_cast at hs2
            have HX:=yA (show ck wr g G (some l) wide dh (n+128 ^ j*(x.toNat % 128)) (wr.setCell ⟨g,0,none⟩ (.slice ao2 (k - (j+1)) c2')) from by
             have hkk:=aS wr g 0 (.slice ao2 (k - (j+1)) c2');have hv:=HV.out;rw [if_pos hx] at hv;refine ⟨some (l.drop (j+1)),⟨ao2,c2',?_,(hr2 wr l HKL.out H2.out).keep hkk (fun b' o' hb hX=>?_),fun a' hb=>?_,H4.out.drop (j+1),by rw [zw,HKL.out];exact hc2,by rw [zw,HKL.out];omega⟩,Step.some hv,hkk⟩
             · rw [zw,HKL.out]
               have:=aj H1.out 0 (.slice ao2 (k - (j+1)) c2');exact this
             · obtain ⟨a,h9,h10⟩:=hb2 _ hb
               have h11:=H3.out a h9;rw [h10] at h11;exact HGG.out (by rw [←hX];exact h11)
             · obtain ⟨a,h9,h10⟩:=hb2 a' hb
               rw [←h10];exact H3.out a h9)
            have HLT:=yA (show n+128 ^ j*(x.toNat % 128)<18446744073709551616 from by
             have hv:=HV.out;rw [if_pos hx] at hv;exact mA H4.out hv)
            clear hb2 hr2 hx hc2;go_wp2_with fail
            rw [HBITS.out];go_ret
            exact ⟨_,rfl,HLT.out,HX.out⟩
      · have c1:(j==9)=false:=by simp [h9]
        have c1':((j:Int)==9)=false:=by simp;omega
        by_cases hj0:0<j
        · have c3:decide (0<j)=true:=decide_eq_true hj0
          have c3':decide ((0:Int)<(j:Int))=true:=decide_eq_true (by omega);by_cases h0:x=0
          · have c4:(x==0)=true:=by simp [h0]
            have hbad:(j=9∧1<x)∨(0<j∧x=0):=.inr ⟨hj0,h0⟩;have HF:=yA (HBAD.out hbad);clear h0;clear hbad;go_wp2_with fail
            refine (iM wr g G l wide 21 (by decide) H.out).mono ?_;rintro e w2 ⟨rfl,h7,h8⟩;have HX:=yA (show ck wr g G (some l) wide dh 0 w2 from ⟨none,h7,Step.fail HF.out _,h8⟩);clear h7 h8 g0 g1 g2 gf;go_wp2_with fail
            go_ret
            exact ⟨0,rfl,by omega,HX.out⟩
          · have c4:(x==0)=false:=by simp [h0]
            have hbad:¬ ((j=9∧1<x)∨(0<j∧x=0)):=by omega
            have HV:=yA (HGOOD.out hbad);have HBITS:=yA (ls HN.out hj x1 x2 (by omega));rw [HSC.out] at HBITS;clear hbad;by_cases hx:x<128
            · have c5:decide (x<128)=true:=decide_eq_true hx
              obtain ⟨ao2,c2',hs2,hc2,hb2,hr2⟩:=fW (some ⟨b,o,none⟩) k c (j+1) (by omega) hk5
              push_cast at hs2
              have HX:=yA (show ck wr g G (some l) wide dh (n+128 ^ j*(x.toNat % 128)) (wr.setCell ⟨g,0,none⟩ (.slice ao2 (k - (j+1)) c2')) from by
               have hkk:=aS wr g 0 (.slice ao2 (k - (j+1)) c2');have hv:=HV.out;rw [if_pos hx] at hv;refine ⟨some (l.drop (j+1)),⟨ao2,c2',?_,(hr2 wr l HKL.out H2.out).keep hkk (fun b' o' hb hX=>?_),fun a' hb=>?_,H4.out.drop (j+1),by rw [zw,HKL.out];exact hc2,by rw [zw,HKL.out];omega⟩,Step.some hv,hkk⟩
               · rw [zw,HKL.out]
                 have:=aj H1.out 0 (.slice ao2 (k - (j+1)) c2');exact this
               · obtain ⟨a,h9,h10⟩:=hb2 _ hb
                 have h11:=H3.out a h9;rw [h10] at h11;exact HGG.out (by rw [←hX];exact h11)
               · obtain ⟨a,h9,h10⟩:=hb2 a' hb
                 rw [←h10];exact H3.out a h9)
              have HLT:=yA (show n+128 ^ j*(x.toNat % 128)<18446744073709551616 from by
               have hv:=HV.out;rw [if_pos hx] at hv;exact mA H4.out hv)
              clear hb2 hr2 hx hc2;go_wp2_with fail
              rw [HBITS.out];go_ret
              exact ⟨_,rfl,HLT.out,HX.out⟩
            · have c5:decide (x<128)=false:=decide_eq_false hx
              have HNX:=yA (show dh l=dD (j+1) (n+128 ^ j*(x.toNat % 128)) (l.drop (j+1))∧j+1≤9∧n+128 ^ j*(x.toNat % 128)<128 ^ (j+1)∧j+1≤k from by
               have h1:=HV.out;rw [if_neg hx] at h1;refine ⟨h1,by omega,?_,by omega⟩;have h2:=HN.out;have h3:128 ^ j*(x.toNat % 128)≤128 ^ j*127:=Nat.mul_le_mul_left _ (by omega);have h4:128 ^ (j+1)=128 ^ j*127+128 ^ j:=by rw [Nat.pow_succ,←Nat.mul_succ]
               omega)
              have HWR:=yA (show IntKind.u64.wrap (SC*128)=((128 ^ (j+1):Nat):Int) from by
               have h1:128 ^ (j+1)≤128 ^ 9:=Nat.pow_le_pow_right (by omega) (by omega);have hp:(128:Nat) ^ 9=9223372036854775808:=by decide
               have e:SC*128=((128 ^ (j+1):Nat):Int):=by rw [←HSC.out,Nat.pow_succ];push_cast;rfl
               rw [hp] at h1;rw [e];exact wrap_u64 (Int.natCast_nonneg _) (by have:((128 ^ (j+1):Nat):Int)≤((9223372036854775808:Nat):Int):=Int.ofNat_le.2 h1;exact Int.lt_of_le_of_lt this (by decide)))
              clear hx;go_wp2_with fail
              rw [HBITS.out,HWR.out];exact ⟨yA ⟨_,j+1,rfl,rfl,by go_num,HNX.out.2.1,HNX.out.2.2.1,HNX.out.2.2.2,HNX.out.1,trivial⟩,by simp [intOf];omega⟩
        · have c3:decide (0<j)=false:=decide_eq_false hj0
          have c3':decide ((0:Int)<(j:Int))=false:=decide_eq_false (by omega);have hbad:¬ ((j=9∧1<x)∨(0<j∧x=0)):=by omega
          have HV:=yA (HGOOD.out hbad);have HBITS:=yA (ls HN.out hj x1 x2 (by omega));rw [HSC.out] at HBITS;clear hbad;by_cases hx:x<128
          · have c5:decide (x<128)=true:=decide_eq_true hx
            obtain ⟨ao2,c2',hs2,hc2,hb2,hr2⟩:=fW (some ⟨b,o,none⟩) k c (j+1) (by omega) hk5
            push_cast at hs2
            have HX:=yA (show ck wr g G (some l) wide dh (n+128 ^ j*(x.toNat % 128)) (wr.setCell ⟨g,0,none⟩ (.slice ao2 (k - (j+1)) c2')) from by
             have hkk:=aS wr g 0 (.slice ao2 (k - (j+1)) c2');have hv:=HV.out;rw [if_pos hx] at hv;refine ⟨some (l.drop (j+1)),⟨ao2,c2',?_,(hr2 wr l HKL.out H2.out).keep hkk (fun b' o' hb hX=>?_),fun a' hb=>?_,H4.out.drop (j+1),by rw [zw,HKL.out];exact hc2,by rw [zw,HKL.out];omega⟩,Step.some hv,hkk⟩
             · rw [zw,HKL.out]
               have:=aj H1.out 0 (.slice ao2 (k - (j+1)) c2');exact this
             · obtain ⟨a,h9,h10⟩:=hb2 _ hb
               have h11:=H3.out a h9;rw [h10] at h11;exact HGG.out (by rw [←hX];exact h11)
             · obtain ⟨a,h9,h10⟩:=hb2 a' hb
               rw [←h10];exact H3.out a h9)
            have HLT:=yA (show n+128 ^ j*(x.toNat % 128)<18446744073709551616 from by
             have hv:=HV.out;rw [if_pos hx] at hv;exact mA H4.out hv)
            clear hb2 hr2 hx hc2;go_wp2_with fail
            rw [HBITS.out];go_ret
            exact ⟨_,rfl,HLT.out,HX.out⟩
          · have c5:decide (x<128)=false:=decide_eq_false hx
            have HNX:=yA (show dh l=dD (j+1) (n+128 ^ j*(x.toNat % 128)) (l.drop (j+1))∧j+1≤9∧n+128 ^ j*(x.toNat % 128)<128 ^ (j+1)∧j+1≤k from by
             have h1:=HV.out;rw [if_neg hx] at h1;refine ⟨h1,by omega,?_,by omega⟩;have h2:=HN.out;have h3:128 ^ j*(x.toNat % 128)≤128 ^ j*127:=Nat.mul_le_mul_left _ (by omega);have h4:128 ^ (j+1)=128 ^ j*127+128 ^ j:=by rw [Nat.pow_succ,←Nat.mul_succ]
             omega)
            have HWR:=yA (show IntKind.u64.wrap (SC*128)=((128 ^ (j+1):Nat):Int) from by
             have h1:128 ^ (j+1)≤128 ^ 9:=Nat.pow_le_pow_right (by omega) (by omega);have hp:(128:Nat) ^ 9=9223372036854775808:=by decide
             have e:SC*128=((128 ^ (j+1):Nat):Int):=by rw [←HSC.out,Nat.pow_succ];push_cast;rfl
             rw [hp] at h1;rw [e];exact wrap_u64 (Int.natCast_nonneg _) (by have:((128 ^ (j+1):Nat):Int)≤((9223372036854775808:Nat):Int):=Int.ofNat_le.2 h1;exact Int.lt_of_le_of_lt this (by decide)))
            clear hx;go_wp2_with fail
            rw [HBITS.out,HWR.out];exact ⟨yA ⟨_,j+1,rfl,rfl,by go_num,HNX.out.2.1,HNX.out.2.2.1,HNX.out.2.2.2,HNX.out.1,trivial⟩,by simp [intOf];omega⟩
theorem RfS.err {w:World} {g G:Nat} {t:Option (List Int)} {wide:Bool} (h:RfS w g G t wide):∃ ao n c f,nT w g ao n c f wide∧(f=0↔t≠none):=by
 cases t with
 | none=>obtain ⟨f,hf,h⟩:=h;exact ⟨_,_,_,f,h,by simp [hf]⟩
 | some l=>obtain ⟨ao,c,h,_⟩:=h;exact ⟨_,_,_,0,h,by simp⟩
theorem Step.int {t':Option (List Int)} {n:Nat} {t:Option (List Int)} (h:Step dh t t' n):Step dc t t' (fg n):=h.map fg dc (fun l=>rfl)
theorem ym (w:World) (g G:Nat) (t:Option (List Int)) (wide:Bool) (hgG:g≠G) (h:RfS w g G t wide) :
 Calls Tryz.prog 178 #[.pointer (some ⟨g,0,none⟩)] w fun e w'=>∃ x:Int,e = .returned (.int .i64 x)∧ar x∧ck w g G t wide dc x w':=by
 have H:=yA h;have HRG:=yA hgG;clear h hgG;go_enter Tryz.func178,Tryz.ntmps178
 go_wp2_with fail
 refine (tG w g G t wide HRG.out H.out).mono ?_;rintro e w2 ⟨n,rfl,hn,t',hs,hst,hk⟩;have HST:=yA hst;have HK:=yA hk;have HS:=yA hs;obtain ⟨ao,m,c,f,h1,h2⟩:=hs.err;obtain ⟨g0,g1,g2,gf⟩:=cells3 h1;have H2:=yA h2;clear hst hk hs h1 h2;by_cases hf:f=0
 · have b1:(f != 0)=false:=by simp [hf]
   have HE:=yA (show ck w g G t wide dc (fg n) w2 from ⟨t',HS.out,HST.out.int,HK.out⟩);have HO:=yA (rj hn);clear hf;go_wp2_with fail
   refine (uR w2 n hn).mono ?_;rintro e w3 ⟨rfl,rfl⟩;go_wp2_with fail
   go_ret
   exact ⟨_,rfl,HO.out,HE.out⟩
 · have b1:(f != 0)=true:=by simp [hf]
   have HE:=yA (show ck w g G t wide dc 0 w2 from by
    have hn0:t'=none:=by
     cases t' with
     | none=>rfl
     | some l=>exact absurd (H2.out.2 (by simp)) hf
    subst hn0;refine ⟨none,HS.out,?_,HK.out⟩;cases t with
    | none=>exact Step.none _ _
    | some l=>
      have h1:=HST.out.1;simp only [yT] at h1;refine Step.fail ?_ _;cases hv:dh l with
      | none=>simp [dc,hv]
      | some y=>rw [hv] at h1;cases h1)
   clear hf;go_wp2_with fail
   go_ret
   exact ⟨0,rfl,by unfold ar;omega,HE.out⟩
theorem jY {a b:Int} (a1:0≤a) (a2:a≤255) (b1:0≤b) (b2:b≤255):IntKind.i16.wrap (IntKind.u16.wrap (IntKind.u16.wrap (IntKind.u16.wrap a*256)+IntKind.u16.wrap b))=bW a b:=by
 rw [wrap_u16 a1 (by omega),wrap_u16 b1 (by omega),wrap_u16 (n:=a*256) (by omega) (by omega),wrap_u16 (n:=a*256+b) (by omega) (by omega)];unfold bW;simp [IntKind.wrap,IntKind.signed,IntKind.bits];split <;> split <;> omega
theorem mg {a b:Int} (a1:0≤a) (a2:a≤255) (b1:0≤b) (b2:b≤255):IntKind.i16.wrap (a*256+b)=bW a b:=by
 have h:=jY a1 a2 b1 b2;rwa [wrap_u16 a1 (by omega),wrap_u16 b1 (by omega),wrap_u16 (n:=a*256) (by omega) (by omega),wrap_u16 (n:=a*256+b) (by omega) (by omega)] at h
theorem uS (w:World) (g G:Nat) (t:Option (List Int)) (wide:Bool) (hgG:g≠G) (hlt:G<w.heap.size) (h:RfS w g G t wide) :
 Calls Tryz.prog 198 #[.pointer (some ⟨g,0,none⟩)] w fun e w'=>∃ x y:Int,e = .returned (.agg #[.int .i16 x,.int .i16 y])∧bc x∧bc y∧ck w g G t wide cG (x,y) w':=by
 have H:=yA (h.keep (Keep.alloc (fun _=>False) w (.cells #[.int .i16 0,.int .i16 0] 75)) id id);have HK0:=yA (Keep.alloc (fun k=>k=g) w (.cells #[.int .i16 0,.int .i16 0] 75));have HN0:=yA (yE w (.cells #[.int .i16 0,.int .i16 0] 75));have HRL:=yA h.lt;have HRG:=yA hgG;have HGL:=yA hlt;clear h hgG hlt;go_enter Tryz.func198,Tryz.ntmps198
 go_upto_region 1 with fail
 generalize w.alloc (.cells #[.int .i16 0,.int .i16 0] 75)=W at *;obtain ⟨B,hB⟩:∃ B,w.heap.size=B:=⟨_,rfl⟩;have HB:=yA hB;rw [hB] at HN0 HRL HGL ⊢;clear hB;go_wp2_with fail
 refine (lr W g G 4 t wide HRG.out (by omega) (by omega) H.out).mono ?_;rintro e w2 ⟨hk,hs,he⟩;have HN2:=yA (hk.old HN0.out (by have:=HRL.out;omega));have HK2:=yA (HK0.out.trans hk (fun _ _ h=>h) (fun _ _ h=>h):Keep (fun k=>k=g) w w2);clear hk;rcases gk t 4 with ⟨l,rfl,hl,ht⟩ | ht
 · simp only [yT,ht,zF] at hs he
   obtain ⟨b,o,c,rfl,hc1,hc,hbG⟩:=he;obtain ⟨i0,i1,i2,i3,h8⟩:=gm (show (l.take 4).length=4 by rw [yY];omega);have HBY:=yA (show Byt [i0,i1,i2,i3] by rw [←h8];exact H.out.byt.take 4);have HLL:=yA (show l=i0::i1::i2::i3::l.drop 4 by rw [←List.take_append_drop 4 l,h8];simp);rw [h8] at hc ht;have c0:w2.cell? ⟨b,o,none⟩=some (.int .u8 i0):=hc 0 _ rfl;have c1:w2.cell? ⟨b,o+1,none⟩=some (.int .u8 i1):=hc 1 _ rfl;have c2:w2.cell? ⟨b,o+2,none⟩=some (.int .u8 i2):=hc 2 _ rfl;have c3:w2.cell? ⟨b,o+3,none⟩=some (.int .u8 i3):=hc 3 _ rfl;have HS:=yA hs;have HT:=yA ht;obtain ⟨q0,q1⟩:=cells2 HN2.out;have qf:=fun j=>frozen_of_row w2 B j _ _ HN2.out
   have hBl:=yK HN2.out;obtain ⟨a1,a2⟩:=HBY.out i0 (by simp);obtain ⟨a3,a4⟩:=HBY.out i1 (by simp);obtain ⟨a5,a6⟩:=HBY.out i2 (by simp);obtain ⟨a7,a8⟩:=HBY.out i3 (by simp);clear hs hc ht hl h8 hbG;go_wp2_with fail
   go_still_tail 23,(by kernel_rfl)
   change wpList _ _ _ _ _ w2.drew
   go_wp2_with fail
   simp only [jY a1 a2 a3 a4,jY a5 a6 a7 a8,mg a1 a2 a3 a4,mg a5 a6 a7 a8];have HQ:=yA (aj (aj HN2.out 0 (.int .i16 (bW i0 i1))) 1 (.int .i16 (bW i2 i3)));have HKQ:=yA ((aS w2 B 0 (.int .i16 (bW i0 i1))).trans (aS _ B 1 (.int .i16 (bW i2 i3))) (fun _ _ h=>h) (fun _ _ h=>h) (Z:=fun k=>k=B))
   have HP:=yA (show cG l=some ((bW i0 i1,bW i2 i3),l.drop 4) by
    have h:=HLL.out;generalize l.drop 4=t at *;subst h;rfl)
   have HE:=yA (show ck w g G (some l) wide cG (bW i0 i1,bW i2 i3) (((w2.setCell ⟨B,0,none⟩ (.int .i16 (bW i0 i1))).setCell ⟨B,1,none⟩ (.int .i16 (bW i2 i3))).drew) from
    ⟨_,(HS.out.keep HKQ.out (by have:=HRL.out;omega) (by have:=HGL.out;omega)).keep (Keep.drew (fun _=>False) _) id id,Step.some HP.out,(HK2.out.trans HKQ.out (fun _ _ h=>h) (fun i hi h=>by have h:i=B:=h;have:=HB.out;omega) (Z:=fun k=>k=g)).trans (Keep.drew (fun _=>False) _) (fun _ _ h=>h) (fun _ _ h=>h.elim)⟩)
   refine yS (eL 2 75 Tryz.results198 B rfl #[.int .i16 (bW i0 i1),.int .i16 (bW i2 i3)] _ HQ.out _ Tryz.underlying75 rfl (by kernel_rfl)) rfl ?_;exact ⟨_,_,rfl,my a1 a2 a3 a4,my a5 a6 a7 a8,HE.out⟩
 · rw [ht] at hs he
   simp only at he;subst he;have HS:=yA hs;have HT:=yA ht;obtain ⟨q0,q1⟩:=cells2 HN2.out;have qf:=fun j=>frozen_of_row w2 B j _ _ HN2.out
   have hBl:=yK HN2.out;clear hs ht;go_wp2_with fail
   have HQ:=yA (aj (aj HN2.out 0 (.int .i16 0)) 1 (.int .i16 0));have HKQ:=yA ((aS w2 B 0 (.int .i16 0)).trans (aS _ B 1 (.int .i16 0)) (fun _ _ h=>h) (fun _ _ h=>h) (Z:=fun k=>k=B))
   have HP:=yA (show t.bind cG=none by
    cases t with
    | none=>rfl
    | some l=>
      have h:=HT.out;simp only [yT] at h ⊢
      match l with
      | []=>rfl
      | [a]=>rfl
      | [a,b]=>rfl
      | [a,b,c]=>rfl
      | a::b::c::d::r=>simp [bM] at h)
   have HE:=yA (show ck w g G t wide cG (0,0) ((w2.setCell ⟨B,0,none⟩ (.int .i16 0)).setCell ⟨B,1,none⟩ (.int .i16 0)) from
    ⟨_,HS.out.keep HKQ.out (by have:=HRL.out;omega) (by have:=HGL.out;omega),⟨by rw [HP.out];rfl,fun x l h=>by rw [HP.out] at h;cases h⟩,HK2.out.trans HKQ.out (fun _ _ h=>h) (fun i hi h=>by have h:i=B:=h;have:=HB.out;omega) (Z:=fun k=>k=g)⟩)
   refine yS (eL 2 75 Tryz.results198 B rfl #[.int .i16 0,.int .i16 0] _ HQ.out _ Tryz.underlying75 rfl (by kernel_rfl)) rfl ?_;exact ⟨0,0,rfl,by unfold bc;omega,by unfold bc;omega,HE.out⟩
def idA (d:List Int) (j:Nat):Array Value:=((d.take j).map (Value.int .u8)++List.replicate (8 - j) (Value.int .u8 0)).toArray
theorem yp {d:List Int} {j:Nat} {x:Int} (hd:d.length=8) (hj:j<8) (hx:d[j]?=some x):(idA d j).setIfInBounds j (.int .u8 x)=idA d (j+1):=by
 have hl:((d.take j).map (Value.int .u8)).length=j:=by rw [List.length_map,yY];omega
 obtain ⟨hlt,hx2⟩:=yD.1 hx;unfold idA;rw [List.setIfInBounds_toArray,List.set_append_right _ _ (by omega),hl,Nat.sub_self,show 8 - j=(8 - (j+1))+1 by omega,List.replicate_succ,List.set_cons_zero,List.take_succ_eq_append_getElem hlt,hx2];simp
theorem idA_at {d:List Int} {j:Nat} (hd:d.length=8) (hj:j<8):(idA d j)[j]?=some (.int .u8 0):=by
 have hl:((d.take j).map (Value.int .u8)).length=j:=by rw [List.length_map,yY];omega
 unfold idA;rw [List.getElem?_toArray,zx (by omega),hl,Nat.sub_self,show 8 - j=(8 - (j+1))+1 by omega,List.replicate_succ];rfl
theorem rid_rd (w:World) (g G:Nat) (t:Option (List Int)) (wide:Bool) (hgG:g≠G) (hlt:G<w.heap.size) (h:RfS w g G t wide) :
 Calls Tryz.prog 197 #[.pointer (some ⟨g,0,none⟩)] w fun e w'=>∃ i0 i1 i2 i3 i4 i5 i6 i7:Int,e = .returned (.agg #[.int .u8 i0,.int .u8 i1,.int .u8 i2,.int .u8 i3,.int .u8 i4,.int .u8 i5,.int .u8 i6,.int .u8 i7])∧Byt [i0,i1,i2,i3,i4,i5,i6,i7]∧ck w g G t wide (bM 8) [i0,i1,i2,i3,i4,i5,i6,i7] w':=by
 have hb1:=(Below.refl w.heap.size w).alloc (yB _) (.cells #[.int .u8 0,.int .u8 0,.int .u8 0,.int .u8 0,.int .u8 0,.int .u8 0,.int .u8 0,.int .u8 0] 72);have hb2:=hb1.alloc hb1.size (.cells #[.int .u8 0,.int .u8 0,.int .u8 0,.int .u8 0,.int .u8 0,.int .u8 0,.int .u8 0,.int .u8 0] 72);have H:=yA (h.keep (Keep.of_below hb2 (yB _) (fun _=>False)) id id);have HK0:=yA (Keep.of_below hb2 (yB _) (fun k=>k=g));obtain ⟨B,hB⟩:∃ B,w.heap.size=B:=⟨_,rfl⟩;have hs1:(w.alloc (.cells #[.int .u8 0,.int .u8 0,.int .u8 0,.int .u8 0,.int .u8 0,.int .u8 0,.int .u8 0,.int .u8 0] 72)).heap.size=B+1:=by simp [hB]
 have HN0:=yA (show ((w.alloc (.cells #[.int .u8 0,.int .u8 0,.int .u8 0,.int .u8 0,.int .u8 0,.int .u8 0,.int .u8 0,.int .u8 0] 72)).alloc (.cells #[.int .u8 0,.int .u8 0,.int .u8 0,.int .u8 0,.int .u8 0,.int .u8 0,.int .u8 0,.int .u8 0] 72)).heap[B]?=some (.cells #[.int .u8 0,.int .u8 0,.int .u8 0,.int .u8 0,.int .u8 0,.int .u8 0,.int .u8 0,.int .u8 0] 72 (0,0)) from (Keep.alloc (fun _=>False) _ _).old (by rw [←hB];exact yE w _) id);have HM0:=yA (show ((w.alloc (.cells #[.int .u8 0,.int .u8 0,.int .u8 0,.int .u8 0,.int .u8 0,.int .u8 0,.int .u8 0,.int .u8 0] 72)).alloc (.cells #[.int .u8 0,.int .u8 0,.int .u8 0,.int .u8 0,.int .u8 0,.int .u8 0,.int .u8 0,.int .u8 0] 72)).heap[B+1]?=some (.cells #[.int .u8 0,.int .u8 0,.int .u8 0,.int .u8 0,.int .u8 0,.int .u8 0,.int .u8 0,.int .u8 0] 72 (0,0)) from by rw [←hs1];exact yE _ _);have HRL:=yA (show g<B from by rw [←hB];exact h.lt);have HRG:=yA hgG;have HGL:=yA (show G<B from by rw [←hB];exact hlt);have HB:=yA hB;clear h hgG hlt hb1 hb2;go_enter Tryz.func197,Tryz.ntmps197
 go_upto_region 2 with fail
 clear hB hs1;generalize (w.alloc (.cells #[.int .u8 0,.int .u8 0,.int .u8 0,.int .u8 0,.int .u8 0,.int .u8 0,.int .u8 0,.int .u8 0] 72)).alloc (.cells #[.int .u8 0,.int .u8 0,.int .u8 0,.int .u8 0,.int .u8 0,.int .u8 0,.int .u8 0,.int .u8 0] 72)=W at *;try rw [HB.out]
 go_wp2_with fail
 refine (lr W g G 8 t wide HRG.out (by omega) (by omega) H.out).mono ?_;rintro e w2 ⟨hk,hs,he⟩;have HN2:=yA (hk.old HN0.out (by have:=HRL.out;omega));have HM2:=yA (hk.old HM0.out (by have:=HRL.out;omega));have HK2:=yA (HK0.out.trans hk (fun _ _ h=>h) (fun _ _ h=>h):Keep (fun k=>k=g) w w2);clear hk;rcases gk t 8 with ⟨l,rfl,hl,ht⟩ | ht
 · simp only [yT,ht,zF] at hs he
   obtain ⟨b,o,c,rfl,hc1,hc,hbG⟩:=he;obtain ⟨i0,i1,i2,i3,i4,i5,i6,i7,h8⟩:=gN (show (l.take 8).length=8 by rw [yY];omega);have HBY:=yA (show Byt [i0,i1,i2,i3,i4,i5,i6,i7] by rw [←h8];exact H.out.byt.take 8);rw [h8] at hc ht;have HC:=yA (fun (j:Nat) (u:Value) (hu:([.int .u8 i0,.int .u8 i1,.int .u8 i2,.int .u8 i3,.int .u8 i4,.int .u8 i5,.int .u8 i6,.int .u8 i7]:List Value)[j]?=some u)=>hc j u hu);have HS:=yA hs;have HT:=yA ht;have HBG:=yA hbG;clear hs hc ht hl h8 hbG;go_wp2_with fail
   go_loopw [6] (fun i wr=>Hid (∃ j:Nat,j≤8∧i = .int .i64 j∧wr.heap[B+1]?=some (.cells (idA [i0,i1,i2,i3,i4,i5,i6,i7] j) 72 (0,0))∧Keep (fun k=>k=B+1) w2 wr)) (fun i _=>8 - (intOf i).toNat)
   case atStart=>exact yA ⟨0,by omega,rfl,HM2.out,Keep.refl _ _⟩
   case round=>
    obtain ⟨j,hj,rfl,hm,hk⟩:=hrel.out;clear hrel;have HM:=yA hm;have HK:=yA hk;clear hm hk;by_cases hlt:j<8
    · have b1:decide ((j:Int)<8)=true:=decide_eq_true (by omega)
      obtain ⟨x,hx⟩:∃ x,([i0,i1,i2,i3,i4,i5,i6,i7]:List Int)[j]?=some x:=⟨_,yC (by exact hlt)⟩
      have c0:wr.cell? ⟨b,o+j,none⟩=some (.int .u8 x):=HK.out.cell (HC.out j _ (show ([.int .u8 i0,.int .u8 i1,.int .u8 i2,.int .u8 i3,.int .u8 i4,.int .u8 i5,.int .u8 i6,.int .u8 i7]:List Value)[j]?=some (.int .u8 x) from by
       show (([i0,i1,i2,i3,i4,i5,i6,i7]:List Int).map (Value.int .u8))[j]?=_
       rw [List.getElem?_map,hx];rfl)) (by have:=HGL.out;have h2:=HBG.out;show ¬ b=B+1;omega)
      have m0:wr.cell? ⟨B+1,j,none⟩=some (.int .u8 0):=by rw [yI _ _ _ _ _ (0,0) HM.out];exact idA_at rfl hlt
      have mf:=frozen_of_row wr (B+1) j _ _ HM.out;have ml:=yK HM.out;have HM3:=yA (show (wr.setCell ⟨B+1,j,none⟩ (.int .u8 x)).heap[B+1]?=some (.cells (idA [i0,i1,i2,i3,i4,i5,i6,i7] (j+1)) 72 (0,0)) from by rw [←yp rfl hlt hx];exact aj HM.out j _);have HK3:=yA (HK.out.trans (aS wr (B+1) j (.int .u8 x)) (fun _ _ h=>h) (fun _ _ h=>h):Keep (fun k=>k=B+1) w2 (wr.setCell ⟨B+1,j,none⟩ (.int .u8 x)));clear hx;go_wp2_with fail
      go_roundw
      case rel=>exact yA ⟨j+1,by omega,by go_num,HM3.out,HK3.out⟩
      case measure=>simp [intOf];omega
    · obtain rfl:j=8:=by omega
      have HCE:=yA (fun (j:Nat) (u:Value) (hu:([.int .u8 i0,.int .u8 i1,.int .u8 i2,.int .u8 i3,.int .u8 i4,.int .u8 i5,.int .u8 i6,.int .u8 i7]:List Value)[j]?=some u)=>show wr.cell? ⟨B+1,0+j,none⟩=some u from by rw [yO,yI _ _ _ _ _ (0,0) HM.out,←hu];simp [idA]);have HN3:=yA (HK.out.old HN2.out (by omega));have HTH:=yA (show wr.there B 0 (#[.int .u8 i0,.int .u8 i1,.int .u8 i2,.int .u8 i3,.int .u8 i4,.int .u8 i5,.int .u8 i6,.int .u8 i7]:Array Value).size from aw HN3.out (yB 8));have HR1:=yA (yJ wr B 0 [.int .u8 i0,.int .u8 i1,.int .u8 i2,.int .u8 i3,.int .u8 i4,.int .u8 i5,.int .u8 i6,.int .u8 i7] HTH.out);have HKE:=yA ((HK.out.trans (Keep.setCells wr B 0 [.int .u8 i0,.int .u8 i1,.int .u8 i2,.int .u8 i3,.int .u8 i4,.int .u8 i5,.int .u8 i6,.int .u8 i7]) (Z:=fun k=>B≤k) (fun _ _ h=>by omega) (fun _ _ h=>by omega)))
      have HE:=yA (show ck w g G (some l) wide (bM 8) [i0,i1,i2,i3,i4,i5,i6,i7] (wr.setCells B 0 [.int .u8 i0,.int .u8 i1,.int .u8 i2,.int .u8 i3,.int .u8 i4,.int .u8 i5,.int .u8 i6,.int .u8 i7]) from
       ⟨_,HS.out.keep HKE.out (by have:=HRL.out;omega) (by have:=HGL.out;omega),Step.some HT.out,HK2.out.trans HKE.out (fun _ _ h=>h) (fun i hi h=>by have:=HB.out;omega)⟩)
      clear hlt;go_wp2_with (first | ((with_reducible refine aa (o:=⟨some 25,_,_,_,_,_⟩) ?_ 72 (.tmp 3) ?_ (B+1) 0 ?_ [.int .u8 i0,.int .u8 i1,.int .u8 i2,.int .u8 i3,.int .u8 i4,.int .u8 i5,.int .u8 i6,.int .u8 i7] #[.int .u8 i0,.int .u8 i1,.int .u8 i2,.int .u8 i3,.int .u8 i4,.int .u8 i5,.int .u8 i6,.int .u8 i7] ?_ _ HCE.out Tryz.underlying72 ?_ ?_ ?_);rfl;rfl;rfl;rfl;rfl;exact gc) | ((with_reducible refine ze (op:=⟨none,.store 72 (.tmp 2) (.tmp 25),_,_,_,_⟩) ?_ 72 (.tmp 2) (.tmp 25) ?_ B 0 #[.int .u8 i0,.int .u8 i1,.int .u8 i2,.int .u8 i3,.int .u8 i4,.int .u8 i5,.int .u8 i6,.int .u8 i7] ?_ ?_ HTH.out ?_ ?_ ?_);rfl;rfl;rfl;rfl;exact gc;exact yU (cs:=[.int .u8 i0,.int .u8 i1,.int .u8 i2,.int .u8 i3,.int .u8 i4,.int .u8 i5,.int .u8 i6,.int .u8 i7]) (by intro v hv;simp only [zt,zi,or_false] at hv;rcases hv with rfl | rfl | rfl | rfl | rfl | rfl | rfl | rfl <;> rfl)))
      refine yS (aW 2 72 Tryz.results197 B rfl [.int .u8 i0,.int .u8 i1,.int .u8 i2,.int .u8 i3,.int .u8 i4,.int .u8 i5,.int .u8 i6,.int .u8 i7] #[.int .u8 i0,.int .u8 i1,.int .u8 i2,.int .u8 i3,.int .u8 i4,.int .u8 i5,.int .u8 i6,.int .u8 i7] rfl _ (fun j u hu=>HR1.out j u hu) Tryz.underlying72 rfl gc) rfl ?_;exact ⟨i0,i1,i2,i3,i4,i5,i6,i7,rfl,HBY.out,HE.out⟩
 · rw [ht] at hs he
   simp only at he;subst he;have HS:=yA hs;have HT:=yA ht;have HCE:=yA (fun (j:Nat) (u:Value) (hu:([.int .u8 0,.int .u8 0,.int .u8 0,.int .u8 0,.int .u8 0,.int .u8 0,.int .u8 0,.int .u8 0]:List Value)[j]?=some u)=>show w2.cell? ⟨B+1,0+j,none⟩=some u from by rw [yO,yI _ _ _ _ _ (0,0) HM2.out,←hu];simp);have HTH:=yA (show w2.there B 0 (#[.int .u8 0,.int .u8 0,.int .u8 0,.int .u8 0,.int .u8 0,.int .u8 0,.int .u8 0,.int .u8 0]:Array Value).size from aw HN2.out (yB 8));have HR1:=yA (yJ w2 B 0 [.int .u8 0,.int .u8 0,.int .u8 0,.int .u8 0,.int .u8 0,.int .u8 0,.int .u8 0,.int .u8 0] HTH.out);have HKE:=yA (Keep.setCells w2 B 0 [.int .u8 0,.int .u8 0,.int .u8 0,.int .u8 0,.int .u8 0,.int .u8 0,.int .u8 0,.int .u8 0])
   have HE:=yA (show ck w g G t wide (bM 8) [0,0,0,0,0,0,0,0] (w2.setCells B 0 [.int .u8 0,.int .u8 0,.int .u8 0,.int .u8 0,.int .u8 0,.int .u8 0,.int .u8 0,.int .u8 0]) from
    ⟨_,HS.out.keep HKE.out (by have:=HRL.out;omega) (by have:=HGL.out;omega),⟨by rw [HT.out],fun x l h=>by rw [HT.out] at h;cases h⟩,HK2.out.trans HKE.out (fun _ _ h=>h) (fun i hi h=>by have h:i=B:=h;have:=HB.out;omega)⟩)
   clear hs ht;go_wp2_with (first | ((with_reducible refine aa (o:=⟨some 14,_,_,_,_,_⟩) ?_ 72 (.tmp 3) ?_ (B+1) 0 ?_ [.int .u8 0,.int .u8 0,.int .u8 0,.int .u8 0,.int .u8 0,.int .u8 0,.int .u8 0,.int .u8 0] #[.int .u8 0,.int .u8 0,.int .u8 0,.int .u8 0,.int .u8 0,.int .u8 0,.int .u8 0,.int .u8 0] ?_ _ HCE.out Tryz.underlying72 ?_ ?_ ?_);rfl;rfl;rfl;rfl;rfl;exact gc) | ((with_reducible refine ze (op:=⟨none,.store 72 (.tmp 2) (.tmp 14),_,_,_,_⟩) ?_ 72 (.tmp 2) (.tmp 14) ?_ B 0 #[.int .u8 0,.int .u8 0,.int .u8 0,.int .u8 0,.int .u8 0,.int .u8 0,.int .u8 0,.int .u8 0] ?_ ?_ HTH.out ?_ ?_ ?_);rfl;rfl;rfl;rfl;exact gc;exact yU (cs:=[.int .u8 0,.int .u8 0,.int .u8 0,.int .u8 0,.int .u8 0,.int .u8 0,.int .u8 0,.int .u8 0]) (by intro v hv;simp only [zt,zi,or_false] at hv;rcases hv with rfl | rfl | rfl | rfl | rfl | rfl | rfl | rfl <;> rfl)))
   refine yS (aW 2 72 Tryz.results197 B rfl [.int .u8 0,.int .u8 0,.int .u8 0,.int .u8 0,.int .u8 0,.int .u8 0,.int .u8 0,.int .u8 0] _ rfl _ (fun j u hu=>HR1.out j u hu) Tryz.underlying72 rfl gc) rfl ?_;exact ⟨0,0,0,0,0,0,0,0,rfl,by intro x hx;simp at hx;omega,HE.out⟩
def GR (w:World) (g G:Nat) (s:Option (List Int)):Prop:=
 ∃ t wide,RfS w g G t wide∧(g≠G∧G<w.heap.size)∧((∃ l,s=some l∧t=some l∧wide=false)∨(s=none∧(t=none∨wide=true)))
theorem GR.keep {w w':World} {g G:Nat} {s:Option (List Int)} {X:Nat→Prop} (h:GR w g G s) (hk:Keep X w w') (h1:¬ X g) (h2:¬ X G):GR w' g G s:=by
 obtain ⟨t,wide,a,b,c⟩:=h;exact ⟨t,wide,a.keep hk h1 h2,⟨b.1,za b.2 hk.size⟩,c⟩
theorem GR.lt {w:World} {g G:Nat} {s:Option (List Int)} (h:GR w g G s):g<w.heap.size∧G<w.heap.size∧g≠G:=by
 obtain ⟨t,wide,a,b,c⟩:=h;exact ⟨a.lt,b.2,b.1⟩
theorem GR.below {w w':World} {g G:Nat} {s:Option (List Int)} (h:GR w g G s) (hb:Below w.heap.size w w'):GR w' g G s:=h.keep (Keep.of_below hb (yB _) (fun _=>False)) id id
def cu {α:Type} (w:World) (g G:Nat) (s:Option (List Int)) (p:bl α) (x:α) (w':World):Prop:=
 ∃ s',GR w' g G s'∧Step p s s' x∧Keep (fun k=>k=g) w w'
theorem cu.lift {α:Type} {w w':World} {g G:Nat} {s t:Option (List Int)} {wide:Bool} {p:bl α} {x:α} (hA:g≠G∧G<w.heap.size) (hs:(∃ l,s=some l∧t=some l∧wide=false)∨(s=none∧(t=none∨wide=true))) (h:ck w g G t wide p x w'):cu w g G s p x w':=by
 obtain ⟨t',h1,h2,h3⟩:=h;have hA':g≠G∧G<w'.heap.size:=⟨hA.1,za hA.2 h3.size⟩;rcases hs with ⟨l,rfl,rfl,rfl⟩ | ⟨rfl,ht⟩
 · refine ⟨t',⟨t',false,h1,hA',?_⟩,h2,h3⟩
   cases t' with
   | none=>exact .inr ⟨rfl,.inl rfl⟩
   | some l'=>exact .inl ⟨l',rfl,rfl,rfl⟩
 · refine ⟨none,⟨t',wide,h1,hA',.inr ⟨rfl,?_⟩⟩,Step.none _ _,h3⟩
   rcases ht with rfl | ht
   · left
     exact h2.1
   · exact .inr ht
theorem bK (w:World) (g G:Nat) (s:Option (List Int)) (h:GR w g G s) :
 Calls Tryz.prog 149 #[.pointer (some ⟨g,0,none⟩)] w fun e w'=>e = .returned (.bool s.isNone)∧w'=w:=by
 obtain ⟨t,wide,h1,h2,h3⟩:=h;obtain ⟨ao,n,c,f,ha,hf⟩:=h1.err;obtain ⟨g0,g1,g2,gf⟩:=cells3 ha;cases wide with
 | true=>
   have HE:=yA (show s.isNone=true from by
    rcases h3 with ⟨l,_,_,h⟩ | ⟨rfl,_⟩
    · cases h
    · rfl)
   clear h1 h2 h3 ha hf;go_enter Tryz.func149,Tryz.ntmps149
   go_wp2_with fail
   go_ret
   exact ⟨by rw [HE.out];rfl,rfl⟩
 | false=>
   by_cases h0:f=0
   · have b1:(f != 0)=false:=by simp [h0]
     have HE:=yA (show s.isNone=false from by
      rcases h3 with ⟨l,rfl,_⟩ | ⟨rfl,h | h⟩
      · rfl
      · exact absurd h (hf.1 h0)
      · cases h)
     clear h1 h2 h3 ha hf h0;go_enter Tryz.func149,Tryz.ntmps149
     go_wp2_with fail
     go_ret
     exact ⟨by rw [HE.out];rfl,rfl⟩
   · have b1:(f != 0)=true:=by simp [h0]
     have HE:=yA (show s.isNone=true from by
      rcases h3 with ⟨l,rfl,rfl,_⟩ | ⟨rfl,_⟩
      · exact absurd (hf.2 (by simp)) h0
      · rfl)
     clear h1 h2 h3 ha hf h0;go_enter Tryz.func149,Tryz.ntmps149
     go_wp2_with fail
     go_ret
     exact ⟨by rw [HE.out];rfl,rfl⟩
theorem sP (w:World) (g G:Nat) (h:GR w g G none) :
 Calls Tryz.prog 151 #[.pointer (some ⟨g,0,none⟩)] w fun e w'=>∃ er:Int,e = .returned (.int .i64 er)∧er≠0∧w'=w:=by
 obtain ⟨t,wide,h1,h2,h3⟩:=h;obtain ⟨ao,n,c,f,ha,hf⟩:=h1.err;obtain ⟨g0,g1,g2,gf⟩:=cells3 ha;cases wide with
 | true=>
   clear h1 h2 h3 ha hf;go_enter Tryz.func151,Tryz.ntmps151
   go_wp2_with fail
   go_ret
   exact ⟨21,rfl,by decide,rfl⟩
 | false=>
   have HE:=yA (show f≠0 from fun h0=>by
    rcases h3 with ⟨l,h,_⟩ | ⟨_,h | h⟩
    · cases h
    · exact (hf.1 h0) h
    · cases h)
   clear h1 h2 h3 ha hf;go_enter Tryz.func151,Tryz.ntmps151
   go_wp2_with fail
   go_ret
   exact ⟨f,rfl,HE.out,rfl⟩
theorem bL (w:World) (g G:Nat) (s:Option (List Int)) (h:GR w g G s) (most:Nat) (hm:most≤9223372036854775807) :
 Calls Tryz.prog 148 #[.pointer (some ⟨g,0,none⟩),.int .u64 (most:Int)] w fun e w'=>∃ x:Int,e = .returned (.int .i64 x)∧(0≤x∧x≤most)∧cu w g G s (ce most) x w':=by
 have H:=yA h;clear h;cases s with
 | none=>
   have HE:=yA (show cu w g G none (ce most) 0 w from ⟨none,H.out,Step.none _ _,Keep.refl _ _⟩);go_enter Tryz.func148,Tryz.ntmps148
   go_wp2_with fail
   refine (bK w g G none H.out).mono ?_;rintro e w2 ⟨rfl,rfl⟩;go_wp2_with fail
   go_ret
   exact ⟨0,rfl,⟨by omega,by omega⟩,HE.out⟩
 | some l=>
   go_enter Tryz.func148,Tryz.ntmps148
   go_wp2_with fail
   refine (bK w g G (some l) H.out).mono ?_;rintro e w2 ⟨rfl,rfl⟩;obtain ⟨t,wide,h1,h2,h3⟩:=H.out
   obtain ⟨rfl,rfl⟩:t=some l∧wide=false:=by
    rcases h3 with ⟨l',h,h',h''⟩ | ⟨h,_⟩
    · cases h;exact ⟨h',h''⟩
    · cases h
   have HA:=yA h2;have H1:=yA h1;clear h1 h2 h3;go_wp2_with fail
   refine (tG w2 g G (some l) false HA.out.1 H1.out).mono ?_;rintro e w3 ⟨n,rfl,hn,t',hs,hst,hk⟩;have HS:=yA hs;have HST:=yA hst;have HK:=yA hk;have HA3:=yA (show g≠G∧G<w3.heap.size from ⟨HA.out.1,za HA.out.2 hk.size⟩);obtain ⟨ao,m,c,f,ha,hf⟩:=hs.err;obtain ⟨g0,g1,g2,gf⟩:=cells3 ha;have gl:=yK ha;have HAT:=yA ha;clear hs hst hk ha hf;by_cases hbig:most<n
   · have b1:decide ((most:Int)<(n:Int))=true:=decide_eq_true (by omega)
     have b1':decide (most<n)=true:=decide_eq_true hbig
     have HE:=yA (show cu w2 g G (some l) (ce most) 0 (w3.setCell ⟨g,2,none⟩ (.bool true)) from by
      have hk:=aS w3 g 2 (.bool true)
      have hv:ce most l=none:=by
       cases t' with
       | none=>
         have h1:=HST.out.1;simp only [yT] at h1;unfold ce;cases hv:dh l with
         | none=>rfl
         | some y=>rw [hv] at h1;cases h1
       | some r=>
         have h1:=HST.out.1;have h2:=HST.out.2;simp only [yT] at h1 h2;unfold ce;cases hv:dh l with
         | none=>rfl
         | some y=>
           obtain ⟨y,r'⟩:=y;have:=h2 y r' hv;subst this;simp only;rw [if_neg (by omega)]
      refine ⟨none,⟨t',true,?_,⟨HA3.out.1,by simpa using HA3.out.2⟩,.inr ⟨rfl,.inr rfl⟩⟩,Step.fail hv _,HK.out.trans hk (fun _ _ h=>h) (fun _ _ h=>h)⟩;cases t' with
      | none=>
        obtain ⟨f',hf',h'⟩:=HS.out;exact ⟨f',hf',aj h' 2 (.bool true)⟩
      | some r=>
        obtain ⟨ao',c',h3,h4,h5,h6,h7,h8⟩:=HS.out;exact ⟨ao',c',aj h3 2 (.bool true),h4.keep hk (fun b o hb hX=>HA3.out.1 (by have:b=G:=h5 _ hb;rw [←this];exact hX.symm)),h5,h6,h7,h8⟩)
     clear hbig;go_wp2_with fail
     go_ret
     exact ⟨0,rfl,⟨by omega,by omega⟩,HE.out⟩
   · have b1:decide ((most:Int)<(n:Int))=false:=decide_eq_false (by omega)
     have b1':decide (most<n)=false:=decide_eq_false hbig;have hn63:n≤9223372036854775807:=by omega
     have HE:=yA (show cu w2 g G (some l) (ce most) (n:Int) w3 from by
      refine cu.lift (t:=some l) (wide:=false) HA.out (.inl ⟨l,rfl,rfl,rfl⟩) ⟨t',HS.out,?_,HK.out⟩;cases t' with
      | none=>
        have h1:=HST.out.1;simp only [yT] at h1;refine Step.fail ?_ _;unfold ce;cases hv:dh l with
        | none=>rfl
        | some y=>rw [hv] at h1;cases h1
      | some r=>
        have h1:=HST.out.1;have h2:=HST.out.2;simp only [yT] at h1 h2;refine Step.some ?_;unfold ce;cases hv:dh l with
        | none=>rw [hv] at h1;cases h1
        | some y=>
          obtain ⟨y,r'⟩:=y;have:=h2 y r' hv;subst this;rw [hv] at h1;simp at h1;subst h1;simp only;rw [if_pos (by omega)])
     have HB:=yA hbig;clear hbig;go_wp2_with fail
     go_ret
     exact ⟨n,rfl,⟨by omega,by have:=HB.out;omega⟩,HE.out⟩
theorem ck.lift' {α:Type} {w w':World} {g G:Nat} {s t:Option (List Int)} {wide:Bool} {p:bl α} {x:α} (h:ck w g G t wide p x w') (hA:g≠G∧G<w.heap.size) (hs:(∃ l,s=some l∧t=some l∧wide=false)∨(s=none∧(t=none∨wide=true))):cu w g G s p x w':=cu.lift hA hs h
theorem kM (w:World) (g G:Nat) (s:Option (List Int)) (h:GR w g G s) :
 Calls Tryz.prog 199 #[.pointer (some ⟨g,0,none⟩)] w fun e w'=>∃ x:Int,e = .returned (.int .u8 x)∧bT x∧cu w g G s ej x w':=by
 obtain ⟨t,wide,h1,h2,h3⟩:=h;refine (xb w g G t wide h2.1 h1).mono ?_;rintro e w' ⟨x,rfl,hx,hr⟩;exact ⟨x,rfl,hx,hr.lift' h2 h3⟩
theorem kN (w:World) (g G:Nat) (s:Option (List Int)) (h:GR w g G s) :
 Calls Tryz.prog 178 #[.pointer (some ⟨g,0,none⟩)] w fun e w'=>∃ x:Int,e = .returned (.int .i64 x)∧ar x∧cu w g G s dc x w':=by
 obtain ⟨t,wide,h1,h2,h3⟩:=h;refine (ym w g G t wide h2.1 h1).mono ?_;rintro e w' ⟨x,rfl,hx,hr⟩;exact ⟨x,rfl,hx,hr.lift' h2 h3⟩
theorem lu (w:World) (g G:Nat) (s:Option (List Int)) (h:GR w g G s) :
 Calls Tryz.prog 198 #[.pointer (some ⟨g,0,none⟩)] w fun e w'=>∃ x y:Int,e = .returned (.agg #[.int .i16 x,.int .i16 y])∧bc x∧bc y∧cu w g G s cG (x,y) w':=by
 obtain ⟨t,wide,h1,h2,h3⟩:=h;refine (uS w g G t wide h2.1 h2.2 h1).mono ?_;rintro e w' ⟨x,y,rfl,hx,hy,hr⟩;exact ⟨x,y,rfl,hx,hy,hr.lift' h2 h3⟩
theorem xd (w:World) (g G:Nat) (s:Option (List Int)) (h:GR w g G s) :
 Calls Tryz.prog 197 #[.pointer (some ⟨g,0,none⟩)] w fun e w'=>∃ i0 i1 i2 i3 i4 i5 i6 i7:Int,e = .returned (.agg #[.int .u8 i0,.int .u8 i1,.int .u8 i2,.int .u8 i3,.int .u8 i4,.int .u8 i5,.int .u8 i6,.int .u8 i7])∧Byt [i0,i1,i2,i3,i4,i5,i6,i7]∧cu w g G s (bM 8) [i0,i1,i2,i3,i4,i5,i6,i7] w':=by
 obtain ⟨t,wide,h1,h2,h3⟩:=h;refine (rid_rd w g G t wide h2.1 h2.2 h1).mono ?_;rintro e w' ⟨i0,i1,i2,i3,i4,i5,i6,i7,rfl,hb,hr⟩;exact ⟨i0,i1,i2,i3,i4,i5,i6,i7,rfl,hb,hr.lift' h2 h3⟩
def ic (cs:List Value) (o:Nat) (vs:List Value):List Value:=cs.take o++vs++cs.drop (o+vs.length)
theorem pG {w:World} {b:Nat} {cs:List Value} (h:w.rangeAt b 0 cs) (o:Nat) (vs:List Value) (ht:w.there b o vs.length) (ho:o≤cs.length):(w.setCells b o vs).rangeAt b 0 (ic cs o vs):=by
 intro j v hv;rw [yO];have hl:(cs.take o).length=o:=by rw [yY];omega
 by_cases h1:j<o
 · unfold ic at hv
   rw [List.append_assoc,zA (by omega),List.getElem?_take,if_pos h1] at hv;have hr:=h j v hv;rw [yO] at hr;rw [World.cell?_setCells_out b vs o w ⟨b,j,none⟩ (fun _ _=>.inl h1)];exact hr
 · by_cases h2:j<o+vs.length
   · unfold ic at hv
     rw [zA (by rw [yN];omega),zx (by omega),hl] at hv;have:=yJ w b o vs ht (j - o) v hv;rwa [show o+(j - o)=j by omega] at this
   · unfold ic at hv
     rw [zx (by rw [yN];omega),yN,hl,List.getElem?_drop] at hv;have hr:=h (o+vs.length+(j - (o+vs.length))) v hv;rw [show 0+(o+vs.length+(j - (o+vs.length)))=j by omega] at hr;rw [World.cell?_setCells_out b vs o w ⟨b,j,none⟩ (fun _ _=>.inr (by show o+vs.length≤j;omega))];exact hr
structure cN (w:World) (g G B RB N:Nat) (s:Option (List Int)) (cs:List Value) (wi:World):Prop where
 gate:GR wi g G s
 cells:wi.rangeAt RB 0 cs
 room:wi.there RB 0 N
 box:wi.there B 0 N
 keep:Keep (fun k=>k=g) w wi
 old:w.heap.size≤B∧w.heap.size≤RB∧B≠RB
 was:g<w.heap.size∧G<w.heap.size
section
variable {w wi w':World} {g G B RB N:Nat} {s s':Option (List Int)} {cs:List Value}
theorem cN.read {α:Type} {p:bl α} {x:α} (h:cN w g G B RB N s cs wi) (hr:cu wi g G s p x w'):∃ s',Step p s s' x∧cN w g G B RB N s' cs w':=by
 obtain ⟨s',h1,h2,h3⟩:=hr;have o1:=h.old;have o2:=h.was;refine ⟨s',h2,h1,fun j u hu=>h3.cell (h.cells j u hu) (by show ¬ RB=g;omega),aq h.room h3 (by omega),aq h.box h3 (by omega),h.keep.trans h3 (fun _ _ h=>h) (fun _ _ h=>h),o1,o2⟩
theorem cN.put (h:cN w g G B RB N s cs wi) (o:Nat) (vs:List Value) (ho:o+vs.length≤N) (hl:cs.length=N):cN w g G B RB N s (ic cs o vs) (wi.setCells RB o vs):=by
 have o1:=h.old;have o2:=h.was;have hk:=Keep.setCells wi RB o vs;refine ⟨h.gate.keep hk (by omega) (by omega),pG h.cells o vs ?_ (by omega),World.there_setCells h.room _ _ _,World.there_setCells h.box _ _ _,h.keep.trans hk (fun _ _ h=>h) (fun i hi he=>by omega),o1,o2⟩;have:=aI h.room o vs.length (by omega);rwa [yO] at this
theorem cN.part (h:cN w g G B RB N s cs wi) (o n:Nat) (ho:o+n≤N):wi.there RB o n:=by
 have:=aI h.room o n ho;rwa [yO] at this
end
theorem ie {x:Int} (h:0≤x∧x≤(cj:Nat)):ar x:=by
 unfold cj at h;unfold ar;omega
theorem sQ:(Tryz.prog.info? 75).map (·.size)=some (#[Value.int .i16 0,Value.int .i16 0]:Array Value).size:=by kernel_rfl
theorem xe:(Tryz.prog.info? 72).map (·.size)=some (#[Value.int .u8 0,Value.int .u8 0,Value.int .u8 0,Value.int .u8 0,Value.int .u8 0,Value.int .u8 0,Value.int .u8 0,Value.int .u8 0]:Array Value).size:=by kernel_rfl
theorem uT {s s1 s2 s3 s4 s5 s6 s7 s8 s9:Option (List Int)} {i0 i1 i2 i3 i4 i5 i6 i7 fx fy tx ty se cl ba tt si nu:Int} (h0:Step (bM 8) s s1 [i0,i1,i2,i3,i4,i5,i6,i7]) (h1:Step cG s1 s2 (fx,fy)) (h2:Step cG s2 s3 (tx,ty)) (h3:Step ej s3 s4 se) (h4:Step ej s4 s5 cl) (h5:Step dc s5 s6 ba) (h6:Step dc s6 s7 tt) (h7:Step (ce cj) s7 s8 si) (h8:Step (ce cj) s8 s9 nu):Step dL s s9 ⟨⟨i0,i1,i2,i3,i4,i5,i6,i7,fx,fy,tx,ty,se,cl,ba,tt⟩,si,nu⟩:=by
 have a0:Step (ei fU 0) s s fU:=by
  cases s with
  | none=>exact Step.none _ _
  | some l=>exact Step.some rfl
 have a1:Step (ei fU 1) s s1 ⟨i0,i1,i2,i3,i4,i5,i6,i7,0,0,0,0,0,0,0,0⟩:=Step.part (x:=(⟨0,0,0,0,0,0,0,0,0,0,0,0,0,0,0,0⟩:az)) a0 (h0.map (fun d:List Int=>({ (⟨0,0,0,0,0,0,0,0,0,0,0,0,0,0,0,0⟩:az) with i0:=d.getD 0 0,i1:=d.getD 1 0,i2:=d.getD 2 0,i3:=d.getD 3 0,i4:=d.getD 4 0,i5:=d.getD 5 0,i6:=d.getD 6 0,i7:=d.getD 7 0 }:az)) (fc 0 (⟨0,0,0,0,0,0,0,0,0,0,0,0,0,0,0,0⟩:az)) (fun l=>rfl));have a2:Step (ei fU 2) s s2 ⟨i0,i1,i2,i3,i4,i5,i6,i7,fx,fy,0,0,0,0,0,0⟩:=Step.part (x:=(⟨i0,i1,i2,i3,i4,i5,i6,i7,0,0,0,0,0,0,0,0⟩:az)) a1 (h1.map (fun d:Int × Int=>({ (⟨i0,i1,i2,i3,i4,i5,i6,i7,0,0,0,0,0,0,0,0⟩:az) with fx:=d.1,fy:=d.2 }:az)) (fc 1 (⟨i0,i1,i2,i3,i4,i5,i6,i7,0,0,0,0,0,0,0,0⟩:az)) (fun l=>rfl));have a3:Step (ei fU 3) s s3 ⟨i0,i1,i2,i3,i4,i5,i6,i7,fx,fy,tx,ty,0,0,0,0⟩:=Step.part (x:=(⟨i0,i1,i2,i3,i4,i5,i6,i7,fx,fy,0,0,0,0,0,0⟩:az)) a2 (h2.map (fun d:Int × Int=>({ (⟨i0,i1,i2,i3,i4,i5,i6,i7,fx,fy,0,0,0,0,0,0⟩:az) with tx:=d.1,ty:=d.2 }:az)) (fc 2 (⟨i0,i1,i2,i3,i4,i5,i6,i7,fx,fy,0,0,0,0,0,0⟩:az)) (fun l=>rfl));have a4:Step (ei fU 4) s s4 ⟨i0,i1,i2,i3,i4,i5,i6,i7,fx,fy,tx,ty,se,0,0,0⟩:=Step.part (x:=(⟨i0,i1,i2,i3,i4,i5,i6,i7,fx,fy,tx,ty,0,0,0,0⟩:az)) a3 (h3.map (fun d:Int=>({ (⟨i0,i1,i2,i3,i4,i5,i6,i7,fx,fy,tx,ty,0,0,0,0⟩:az) with seats:=d }:az)) (fc 3 (⟨i0,i1,i2,i3,i4,i5,i6,i7,fx,fy,tx,ty,0,0,0,0⟩:az)) (fun l=>rfl));have a5:Step (ei fU 5) s s5 ⟨i0,i1,i2,i3,i4,i5,i6,i7,fx,fy,tx,ty,se,cl,0,0⟩:=Step.part (x:=(⟨i0,i1,i2,i3,i4,i5,i6,i7,fx,fy,tx,ty,se,0,0,0⟩:az)) a4 (h4.map (fun d:Int=>({ (⟨i0,i1,i2,i3,i4,i5,i6,i7,fx,fy,tx,ty,se,0,0,0⟩:az) with classes:=d }:az)) (fc 4 (⟨i0,i1,i2,i3,i4,i5,i6,i7,fx,fy,tx,ty,se,0,0,0⟩:az)) (fun l=>rfl));have a6:Step (ei fU 6) s s6 ⟨i0,i1,i2,i3,i4,i5,i6,i7,fx,fy,tx,ty,se,cl,ba,0⟩:=Step.part (x:=(⟨i0,i1,i2,i3,i4,i5,i6,i7,fx,fy,tx,ty,se,cl,0,0⟩:az)) a5 (h5.map (fun d:Int=>({ (⟨i0,i1,i2,i3,i4,i5,i6,i7,fx,fy,tx,ty,se,cl,0,0⟩:az) with base:=d }:az)) (fc 5 (⟨i0,i1,i2,i3,i4,i5,i6,i7,fx,fy,tx,ty,se,cl,0,0⟩:az)) (fun l=>rfl));have a7:Step (ei fU 7) s s7 ⟨i0,i1,i2,i3,i4,i5,i6,i7,fx,fy,tx,ty,se,cl,ba,tt⟩:=Step.part (x:=(⟨i0,i1,i2,i3,i4,i5,i6,i7,fx,fy,tx,ty,se,cl,ba,0⟩:az)) a6 (h6.map (fun d:Int=>({ (⟨i0,i1,i2,i3,i4,i5,i6,i7,fx,fy,tx,ty,se,cl,ba,0⟩:az) with ttl:=d }:az)) (fc 6 (⟨i0,i1,i2,i3,i4,i5,i6,i7,fx,fy,tx,ty,se,cl,ba,0⟩:az)) (fun l=>rfl));exact (Step.seq (f:=Prod.mk) (Step.seq (f:=Prod.mk) a7 h7) h8).map (fun y:(az × Int) × Int=>(⟨y.1.1,y.1.2,y.2⟩:ad)) dL (fun l=>rfl)
theorem pH (w:World) (g G:Nat) (s:Option (List Int)) (h:GR w g G s) :
 Calls Tryz.prog 176 #[.pointer (some ⟨g,0,none⟩)] w fun e w'=>∃ x:ad,e = .returned (.agg #[.int .u8 x.r.i0,.int .u8 x.r.i1,.int .u8 x.r.i2,.int .u8 x.r.i3,.int .u8 x.r.i4,.int .u8 x.r.i5,.int .u8 x.r.i6,.int .u8 x.r.i7,.int .i16 x.r.fx,.int .i16 x.r.fy,.int .i16 x.r.tx,.int .i16 x.r.ty,.int .u8 x.r.seats,.int .u8 x.r.classes,.int .i64 x.r.base,.int .i64 x.r.ttl,.int .i64 x.since,.int .i64 x.number])∧x.Ok∧cu w g G s dL x w':=by
 have hk1:=Keep.alloc (fun k=>k=g) w (.cells #[.int .u8 0,.int .u8 0,.int .u8 0,.int .u8 0,.int .u8 0,.int .u8 0,.int .u8 0,.int .u8 0,.int .i16 0,.int .i16 0,.int .i16 0,.int .i16 0,.int .u8 0,.int .u8 0,.int .i64 0,.int .i64 0,.int .i64 0,.int .i64 0] 79);have hk2:=Keep.alloc (fun k=>k=g) (w.alloc (.cells #[.int .u8 0,.int .u8 0,.int .u8 0,.int .u8 0,.int .u8 0,.int .u8 0,.int .u8 0,.int .u8 0,.int .i16 0,.int .i16 0,.int .i16 0,.int .i16 0,.int .u8 0,.int .u8 0,.int .i64 0,.int .i64 0,.int .i64 0,.int .i64 0] 79)) (.cells #[.int .u8 0,.int .u8 0,.int .u8 0,.int .u8 0,.int .u8 0,.int .u8 0,.int .u8 0,.int .u8 0,.int .i16 0,.int .i16 0,.int .i16 0,.int .i16 0,.int .u8 0,.int .u8 0,.int .i64 0,.int .i64 0,.int .i64 0,.int .i64 0] 79);have hk:=hk1.trans hk2 (Z:=fun k=>k=g) (fun _ _ h=>h) (fun _ _ h=>h);have hs1:(w.alloc (.cells #[.int .u8 0,.int .u8 0,.int .u8 0,.int .u8 0,.int .u8 0,.int .u8 0,.int .u8 0,.int .u8 0,.int .i16 0,.int .i16 0,.int .i16 0,.int .i16 0,.int .u8 0,.int .u8 0,.int .i64 0,.int .i64 0,.int .i64 0,.int .i64 0] 79)).heap.size=w.heap.size+1:=by simp
 have hn2:=yE (w.alloc (.cells #[.int .u8 0,.int .u8 0,.int .u8 0,.int .u8 0,.int .u8 0,.int .u8 0,.int .u8 0,.int .u8 0,.int .i16 0,.int .i16 0,.int .i16 0,.int .i16 0,.int .u8 0,.int .u8 0,.int .i64 0,.int .i64 0,.int .i64 0,.int .i64 0] 79)) (.cells #[.int .u8 0,.int .u8 0,.int .u8 0,.int .u8 0,.int .u8 0,.int .u8 0,.int .u8 0,.int .u8 0,.int .i16 0,.int .i16 0,.int .i16 0,.int .i16 0,.int .u8 0,.int .u8 0,.int .i64 0,.int .i64 0,.int .i64 0,.int .i64 0] 79);rw [hs1] at hn2
 have HR0:=yA (show cN w g G w.heap.size (w.heap.size+1) 18 s [.int .u8 0,.int .u8 0,.int .u8 0,.int .u8 0,.int .u8 0,.int .u8 0,.int .u8 0,.int .u8 0,.int .i16 0,.int .i16 0,.int .i16 0,.int .i16 0,.int .u8 0,.int .u8 0,.int .i64 0,.int .i64 0,.int .i64 0,.int .i64 0] ((w.alloc (.cells #[.int .u8 0,.int .u8 0,.int .u8 0,.int .u8 0,.int .u8 0,.int .u8 0,.int .u8 0,.int .u8 0,.int .i16 0,.int .i16 0,.int .i16 0,.int .i16 0,.int .u8 0,.int .u8 0,.int .i64 0,.int .i64 0,.int .i64 0,.int .i64 0] 79)).alloc (.cells #[.int .u8 0,.int .u8 0,.int .u8 0,.int .u8 0,.int .u8 0,.int .u8 0,.int .u8 0,.int .u8 0,.int .i16 0,.int .i16 0,.int .i16 0,.int .i16 0,.int .u8 0,.int .u8 0,.int .i64 0,.int .i64 0,.int .i64 0,.int .i64 0] 79)) from by
  have hb:=((Below.refl w.heap.size w).alloc (yB _) (.cells #[.int .u8 0,.int .u8 0,.int .u8 0,.int .u8 0,.int .u8 0,.int .u8 0,.int .u8 0,.int .u8 0,.int .i16 0,.int .i16 0,.int .i16 0,.int .i16 0,.int .u8 0,.int .u8 0,.int .i64 0,.int .i64 0,.int .i64 0,.int .i64 0] 79)).alloc (by simp) (.cells #[.int .u8 0,.int .u8 0,.int .u8 0,.int .u8 0,.int .u8 0,.int .u8 0,.int .u8 0,.int .u8 0,.int .i16 0,.int .i16 0,.int .i16 0,.int .i16 0,.int .u8 0,.int .u8 0,.int .i64 0,.int .i64 0,.int .i64 0,.int .i64 0] 79);refine ⟨h.below hb,fun j u hu=>?_,aw hn2 (yB 18),aw (hk2.old (yE w _) (by have:=h.lt;omega)) (yB 18),hk,⟨yB _,by omega,by omega⟩,h.lt.1,h.lt.2.1⟩;rw [yO];exact (yI _ _ _ _ _ (0,0) hn2).trans (by rw [←hu];simp))
 clear h hk1 hk2 hk hn2;go_enter Tryz.func176,Tryz.ntmps176
 go_upto_region 2 with fail
 clear hs1;generalize (w.alloc (.cells #[.int .u8 0,.int .u8 0,.int .u8 0,.int .u8 0,.int .u8 0,.int .u8 0,.int .u8 0,.int .u8 0,.int .i16 0,.int .i16 0,.int .i16 0,.int .i16 0,.int .u8 0,.int .u8 0,.int .i64 0,.int .i64 0,.int .i64 0,.int .i64 0] 79)).alloc (.cells #[.int .u8 0,.int .u8 0,.int .u8 0,.int .u8 0,.int .u8 0,.int .u8 0,.int .u8 0,.int .u8 0,.int .i16 0,.int .i16 0,.int .i16 0,.int .i16 0,.int .u8 0,.int .u8 0,.int .i64 0,.int .i64 0,.int .i64 0,.int .i64 0] 79)=w0 at *;obtain ⟨B,hB⟩:∃ B,w.heap.size=B:=⟨_,rfl⟩;rw [hB] at HR0 ⊢;clear hB;go_wp2_with fail
 refine (xd w0 g G s HR0.out.gate).mono ?_;rintro e v0 ⟨i0,i1,i2,i3,i4,i5,i6,i7,rfl,hok,hr⟩;obtain ⟨s1,hst,hr1⟩:=HR0.out.read hr;have HO0:=yA hok;have HST0:=yA hst;have HV0:=yA hr1;have HR1:=yA (hr1.put 0 [.int .u8 i0,.int .u8 i1,.int .u8 i2,.int .u8 i3,.int .u8 i4,.int .u8 i5,.int .u8 i6,.int .u8 i7] (by simp) rfl);have HTH0:=yA (show v0.there (B+1) 0 (#[.int .u8 i0,.int .u8 i1,.int .u8 i2,.int .u8 i3,.int .u8 i4,.int .u8 i5,.int .u8 i6,.int .u8 i7]:Array Value).size from hr1.part 0 8 (by omega));clear hr hr1 hst hok HR0;have szx:(Tryz.prog.info? 72).map (·.size)=some (#[.int .u8 i0,.int .u8 i1,.int .u8 i2,.int .u8 i3,.int .u8 i4,.int .u8 i5,.int .u8 i6,.int .u8 i7]:Array Value).size:=xe
 go_upto_region 3 with (first | ((with_reducible refine ze (op:=⟨none,.store 72 (.tmp 9) (.tmp 7),_,_,_,_⟩) ?_ 72 (.tmp 9) (.tmp 7) ?_ (B+1) 0 #[.int .u8 i0,.int .u8 i1,.int .u8 i2,.int .u8 i3,.int .u8 i4,.int .u8 i5,.int .u8 i6,.int .u8 i7] ?_ ?_ HTH0.out szx ?_ ?_);rfl;rfl;rfl;rfl;exact yU (cs:=[.int .u8 i0,.int .u8 i1,.int .u8 i2,.int .u8 i3,.int .u8 i4,.int .u8 i5,.int .u8 i6,.int .u8 i7]) (by intro v hv;simp only [zt,zi,or_false] at hv;rcases hv with rfl | rfl | rfl | rfl | rfl | rfl | rfl | rfl <;> rfl)))
 have HR1':=yA (show cN w g G B (B+1) 18 s1 [.int .u8 i0,.int .u8 i1,.int .u8 i2,.int .u8 i3,.int .u8 i4,.int .u8 i5,.int .u8 i6,.int .u8 i7,.int .i16 0,.int .i16 0,.int .i16 0,.int .i16 0,.int .u8 0,.int .u8 0,.int .i64 0,.int .i64 0,.int .i64 0,.int .i64 0] (v0.setCells (B+1) 0 [.int .u8 i0,.int .u8 i1,.int .u8 i2,.int .u8 i3,.int .u8 i4,.int .u8 i5,.int .u8 i6,.int .u8 i7]) from HR1.out);clear HR1 HTH0 HV0 szx;try simp only [Array.toList_toArray]
 generalize v0.setCells (B+1) 0 [.int .u8 i0,.int .u8 i1,.int .u8 i2,.int .u8 i3,.int .u8 i4,.int .u8 i5,.int .u8 i6,.int .u8 i7]=w1 at *;have HR1:=HR1';clear HR1';go_wp2_with fail
 refine (lu w1 g G s1 HR1.out.gate).mono ?_;rintro e v1 ⟨fx,fy,rfl,hok1,hok2,hr⟩;obtain ⟨s2,hst,hr1⟩:=HR1.out.read hr;have HO1:=yA (And.intro hok1 hok2);have HST1:=yA hst;have HV1:=yA hr1;have HR2:=yA (hr1.put 8 [.int .i16 fx,.int .i16 fy] (by simp) rfl);have HTH1:=yA (show v1.there (B+1) 8 (#[.int .i16 fx,.int .i16 fy]:Array Value).size from hr1.part 8 2 (by omega));clear hr hr1 hst hok1 hok2 HR1;have szx:(Tryz.prog.info? 75).map (·.size)=some (#[.int .i16 fx,.int .i16 fy]:Array Value).size:=sQ
 go_upto_region 4 with (first | ((with_reducible refine ze (op:=⟨none,.store 75 (.tmp 15) (.tmp 13),_,_,_,_⟩) ?_ 75 (.tmp 15) (.tmp 13) ?_ (B+1) 8 #[.int .i16 fx,.int .i16 fy] ?_ ?_ HTH1.out szx ?_ ?_);rfl;rfl;rfl;rfl;exact yU (cs:=[.int .i16 fx,.int .i16 fy]) (by intro v hv;simp only [zt,zi,or_false] at hv;rcases hv with rfl | rfl <;> rfl)))
 have HR2':=yA (show cN w g G B (B+1) 18 s2 [.int .u8 i0,.int .u8 i1,.int .u8 i2,.int .u8 i3,.int .u8 i4,.int .u8 i5,.int .u8 i6,.int .u8 i7,.int .i16 fx,.int .i16 fy,.int .i16 0,.int .i16 0,.int .u8 0,.int .u8 0,.int .i64 0,.int .i64 0,.int .i64 0,.int .i64 0] (v1.setCells (B+1) 8 [.int .i16 fx,.int .i16 fy]) from HR2.out);clear HR2 HTH1 HV1 szx;try simp only [Array.toList_toArray]
 generalize v1.setCells (B+1) 8 [.int .i16 fx,.int .i16 fy]=w2 at *;have HR2:=HR2';clear HR2';go_wp2_with fail
 refine (lu w2 g G s2 HR2.out.gate).mono ?_;rintro e v2 ⟨tx,ty,rfl,hok1,hok2,hr⟩;obtain ⟨s3,hst,hr1⟩:=HR2.out.read hr;have HO2:=yA (And.intro hok1 hok2);have HST2:=yA hst;have HV2:=yA hr1;have HR3:=yA (hr1.put 10 [.int .i16 tx,.int .i16 ty] (by simp) rfl);have HTH2:=yA (show v2.there (B+1) 10 (#[.int .i16 tx,.int .i16 ty]:Array Value).size from hr1.part 10 2 (by omega));clear hr hr1 hst hok1 hok2 HR2;have szx:(Tryz.prog.info? 75).map (·.size)=some (#[.int .i16 tx,.int .i16 ty]:Array Value).size:=sQ
 go_upto_region 5 with (first | ((with_reducible refine ze (op:=⟨none,.store 75 (.tmp 21) (.tmp 19),_,_,_,_⟩) ?_ 75 (.tmp 21) (.tmp 19) ?_ (B+1) 10 #[.int .i16 tx,.int .i16 ty] ?_ ?_ HTH2.out szx ?_ ?_);rfl;rfl;rfl;rfl;exact yU (cs:=[.int .i16 tx,.int .i16 ty]) (by intro v hv;simp only [zt,zi,or_false] at hv;rcases hv with rfl | rfl <;> rfl)))
 have HR3':=yA (show cN w g G B (B+1) 18 s3 [.int .u8 i0,.int .u8 i1,.int .u8 i2,.int .u8 i3,.int .u8 i4,.int .u8 i5,.int .u8 i6,.int .u8 i7,.int .i16 fx,.int .i16 fy,.int .i16 tx,.int .i16 ty,.int .u8 0,.int .u8 0,.int .i64 0,.int .i64 0,.int .i64 0,.int .i64 0] (v2.setCells (B+1) 10 [.int .i16 tx,.int .i16 ty]) from HR3.out);clear HR3 HTH2 HV2 szx;try simp only [Array.toList_toArray]
 generalize v2.setCells (B+1) 10 [.int .i16 tx,.int .i16 ty]=w3 at *;have HR3:=HR3';clear HR3';go_wp2_with fail
 refine (kM w3 g G s3 HR3.out.gate).mono ?_;rintro e v3 ⟨se,rfl,hok,hr⟩;obtain ⟨s4,hst,hr1⟩:=HR3.out.read hr;have HO3:=yA hok;have HST3:=yA hst;have HV3:=yA hr1;have HR4:=yA (hr1.put 12 [.int .u8 se] (by simp) rfl);have HTH3:=yA (show v3.there (B+1) 12 (#[.int .u8 se]:Array Value).size from hr1.part 12 1 (by omega));clear hr hr1 hst hok HR3;have hfz:v3.frozen? ⟨B+1,12,none⟩=false:=(HTH3.out 0 (by simp)).2;obtain ⟨oldc,hoc⟩:=zB.1 (HTH3.out 0 (by simp)).1;have hoc:v3.cell? ⟨B+1,12,none⟩=some oldc:=hoc;go_upto_region 6 with fail
 clear hfz hoc;have HR4':=yA (show cN w g G B (B+1) 18 s4 [.int .u8 i0,.int .u8 i1,.int .u8 i2,.int .u8 i3,.int .u8 i4,.int .u8 i5,.int .u8 i6,.int .u8 i7,.int .i16 fx,.int .i16 fy,.int .i16 tx,.int .i16 ty,.int .u8 se,.int .u8 0,.int .i64 0,.int .i64 0,.int .i64 0,.int .i64 0] (v3.setCells (B+1) 12 [.int .u8 se]) from HR4.out);have hsc:v3.setCells (B+1) 12 [.int .u8 se]=v3.setCell ⟨B+1,12,none⟩ (.int .u8 se):=rfl;rw [hsc] at HR4';clear hsc HR4 HTH3 HV3;generalize v3.setCell ⟨B+1,12,none⟩ (.int .u8 se)=w4 at *;have HR4:=HR4';clear HR4';go_wp2_with fail
 refine (kM w4 g G s4 HR4.out.gate).mono ?_;rintro e v4 ⟨cl,rfl,hok,hr⟩;obtain ⟨s5,hst,hr1⟩:=HR4.out.read hr;have HO4:=yA hok;have HST4:=yA hst;have HV4:=yA hr1;have HR5:=yA (hr1.put 13 [.int .u8 cl] (by simp) rfl);have HTH4:=yA (show v4.there (B+1) 13 (#[.int .u8 cl]:Array Value).size from hr1.part 13 1 (by omega));clear hr hr1 hst hok HR4;have hfz:v4.frozen? ⟨B+1,13,none⟩=false:=(HTH4.out 0 (by simp)).2;obtain ⟨oldc,hoc⟩:=zB.1 (HTH4.out 0 (by simp)).1;have hoc:v4.cell? ⟨B+1,13,none⟩=some oldc:=hoc;go_upto_region 7 with fail
 clear hfz hoc;have HR5':=yA (show cN w g G B (B+1) 18 s5 [.int .u8 i0,.int .u8 i1,.int .u8 i2,.int .u8 i3,.int .u8 i4,.int .u8 i5,.int .u8 i6,.int .u8 i7,.int .i16 fx,.int .i16 fy,.int .i16 tx,.int .i16 ty,.int .u8 se,.int .u8 cl,.int .i64 0,.int .i64 0,.int .i64 0,.int .i64 0] (v4.setCells (B+1) 13 [.int .u8 cl]) from HR5.out);have hsc:v4.setCells (B+1) 13 [.int .u8 cl]=v4.setCell ⟨B+1,13,none⟩ (.int .u8 cl):=rfl;rw [hsc] at HR5';clear hsc HR5 HTH4 HV4;generalize v4.setCell ⟨B+1,13,none⟩ (.int .u8 cl)=w5 at *;have HR5:=HR5';clear HR5';go_wp2_with fail
 refine (kN w5 g G s5 HR5.out.gate).mono ?_;rintro e v5 ⟨ba,rfl,hok,hr⟩;obtain ⟨s6,hst,hr1⟩:=HR5.out.read hr;have HO5:=yA hok;have HST5:=yA hst;have HV5:=yA hr1;have HR6:=yA (hr1.put 14 [.int .i64 ba] (by simp) rfl);have HTH5:=yA (show v5.there (B+1) 14 (#[.int .i64 ba]:Array Value).size from hr1.part 14 1 (by omega));clear hr hr1 hst hok HR5;have hfz:v5.frozen? ⟨B+1,14,none⟩=false:=(HTH5.out 0 (by simp)).2;obtain ⟨oldc,hoc⟩:=zB.1 (HTH5.out 0 (by simp)).1;have hoc:v5.cell? ⟨B+1,14,none⟩=some oldc:=hoc;go_upto_region 8 with fail
 clear hfz hoc;have HR6':=yA (show cN w g G B (B+1) 18 s6 [.int .u8 i0,.int .u8 i1,.int .u8 i2,.int .u8 i3,.int .u8 i4,.int .u8 i5,.int .u8 i6,.int .u8 i7,.int .i16 fx,.int .i16 fy,.int .i16 tx,.int .i16 ty,.int .u8 se,.int .u8 cl,.int .i64 ba,.int .i64 0,.int .i64 0,.int .i64 0] (v5.setCells (B+1) 14 [.int .i64 ba]) from HR6.out);have hsc:v5.setCells (B+1) 14 [.int .i64 ba]=v5.setCell ⟨B+1,14,none⟩ (.int .i64 ba):=rfl;rw [hsc] at HR6';clear hsc HR6 HTH5 HV5;generalize v5.setCell ⟨B+1,14,none⟩ (.int .i64 ba)=w6 at *;have HR6:=HR6';clear HR6';go_wp2_with fail
 refine (kN w6 g G s6 HR6.out.gate).mono ?_;rintro e v6 ⟨tt,rfl,hok,hr⟩;obtain ⟨s7,hst,hr1⟩:=HR6.out.read hr;have HO6:=yA hok;have HST6:=yA hst;have HV6:=yA hr1;have HR7:=yA (hr1.put 15 [.int .i64 tt] (by simp) rfl);have HTH6:=yA (show v6.there (B+1) 15 (#[.int .i64 tt]:Array Value).size from hr1.part 15 1 (by omega));clear hr hr1 hst hok HR6;have hfz:v6.frozen? ⟨B+1,15,none⟩=false:=(HTH6.out 0 (by simp)).2;obtain ⟨oldc,hoc⟩:=zB.1 (HTH6.out 0 (by simp)).1;have hoc:v6.cell? ⟨B+1,15,none⟩=some oldc:=hoc;go_upto_region 9 with fail
 clear hfz hoc;have HR7':=yA (show cN w g G B (B+1) 18 s7 [.int .u8 i0,.int .u8 i1,.int .u8 i2,.int .u8 i3,.int .u8 i4,.int .u8 i5,.int .u8 i6,.int .u8 i7,.int .i16 fx,.int .i16 fy,.int .i16 tx,.int .i16 ty,.int .u8 se,.int .u8 cl,.int .i64 ba,.int .i64 tt,.int .i64 0,.int .i64 0] (v6.setCells (B+1) 15 [.int .i64 tt]) from HR7.out);have hsc:v6.setCells (B+1) 15 [.int .i64 tt]=v6.setCell ⟨B+1,15,none⟩ (.int .i64 tt):=rfl;rw [hsc] at HR7';clear hsc HR7 HTH6 HV6;generalize v6.setCell ⟨B+1,15,none⟩ (.int .i64 tt)=w7 at *;have HR7:=HR7';clear HR7';go_wp2_with fail
 refine (bL w7 g G s7 HR7.out.gate cj (by decide)).mono ?_;rintro e v7 ⟨si,rfl,hok,hr⟩;obtain ⟨s8,hst,hr1⟩:=HR7.out.read hr;have HO7:=yA hok;have HST7:=yA hst;have HV7:=yA hr1;have HR8:=yA (hr1.put 16 [.int .i64 si] (by simp) rfl);have HTH7:=yA (show v7.there (B+1) 16 (#[.int .i64 si]:Array Value).size from hr1.part 16 1 (by omega));clear hr hr1 hst hok HR7;have hfz:v7.frozen? ⟨B+1,16,none⟩=false:=(HTH7.out 0 (by simp)).2;obtain ⟨oldc,hoc⟩:=zB.1 (HTH7.out 0 (by simp)).1;have hoc:v7.cell? ⟨B+1,16,none⟩=some oldc:=hoc;go_upto_region 10 with fail
 clear hfz hoc;have HR8':=yA (show cN w g G B (B+1) 18 s8 [.int .u8 i0,.int .u8 i1,.int .u8 i2,.int .u8 i3,.int .u8 i4,.int .u8 i5,.int .u8 i6,.int .u8 i7,.int .i16 fx,.int .i16 fy,.int .i16 tx,.int .i16 ty,.int .u8 se,.int .u8 cl,.int .i64 ba,.int .i64 tt,.int .i64 si,.int .i64 0] (v7.setCells (B+1) 16 [.int .i64 si]) from HR8.out);have hsc:v7.setCells (B+1) 16 [.int .i64 si]=v7.setCell ⟨B+1,16,none⟩ (.int .i64 si):=rfl;rw [hsc] at HR8';clear hsc HR8 HTH7 HV7;generalize v7.setCell ⟨B+1,16,none⟩ (.int .i64 si)=w8 at *;have HR8:=HR8';clear HR8';go_wp2_with fail
 refine (bL w8 g G s8 HR8.out.gate cj (by decide)).mono ?_;rintro e v8 ⟨nu,rfl,hok,hr⟩;obtain ⟨s9,hst,hr1⟩:=HR8.out.read hr;have HO8:=yA hok;have HST8:=yA hst;have HV8:=yA hr1;have HR9:=yA (hr1.put 17 [.int .i64 nu] (by simp) rfl);have HTH8:=yA (show v8.there (B+1) 17 (#[.int .i64 nu]:Array Value).size from hr1.part 17 1 (by omega));clear hr hr1 hst hok HR8;have hfz:v8.frozen? ⟨B+1,17,none⟩=false:=(HTH8.out 0 (by simp)).2;obtain ⟨oldc,hoc⟩:=zB.1 (HTH8.out 0 (by simp)).1;have hoc:v8.cell? ⟨B+1,17,none⟩=some oldc:=hoc;go_upto_region 11 with fail
 clear hfz hoc;have HR9':=yA (show cN w g G B (B+1) 18 s9 [.int .u8 i0,.int .u8 i1,.int .u8 i2,.int .u8 i3,.int .u8 i4,.int .u8 i5,.int .u8 i6,.int .u8 i7,.int .i16 fx,.int .i16 fy,.int .i16 tx,.int .i16 ty,.int .u8 se,.int .u8 cl,.int .i64 ba,.int .i64 tt,.int .i64 si,.int .i64 nu] (v8.setCells (B+1) 17 [.int .i64 nu]) from HR9.out);have hsc:v8.setCells (B+1) 17 [.int .i64 nu]=v8.setCell ⟨B+1,17,none⟩ (.int .i64 nu):=rfl;rw [hsc] at HR9';clear hsc HR9 HTH8 HV8;generalize v8.setCell ⟨B+1,17,none⟩ (.int .i64 nu)=w9 at *;have HR9:=HR9';clear HR9';have HCE:=yA (fun (j:Nat) (u:Value) (hu:([.int .u8 i0,.int .u8 i1,.int .u8 i2,.int .u8 i3,.int .u8 i4,.int .u8 i5,.int .u8 i6,.int .u8 i7,.int .i16 fx,.int .i16 fy,.int .i16 tx,.int .i16 ty,.int .u8 se,.int .u8 cl,.int .i64 ba,.int .i64 tt,.int .i64 si,.int .i64 nu]:List Value)[j]?=some u)=>HR9.out.cells j u hu);have HTB:=yA (show w9.there B 0 (#[.int .u8 i0,.int .u8 i1,.int .u8 i2,.int .u8 i3,.int .u8 i4,.int .u8 i5,.int .u8 i6,.int .u8 i7,.int .i16 fx,.int .i16 fy,.int .i16 tx,.int .i16 ty,.int .u8 se,.int .u8 cl,.int .i64 ba,.int .i64 tt,.int .i64 si,.int .i64 nu]:Array Value).size from HR9.out.box);have HAL:=yA (show (#[.int .u8 i0,.int .u8 i1,.int .u8 i2,.int .u8 i3,.int .u8 i4,.int .u8 i5,.int .u8 i6,.int .u8 i7,.int .i16 fx,.int .i16 fy,.int .i16 tx,.int .i16 ty,.int .u8 se,.int .u8 cl,.int .i64 ba,.int .i64 tt,.int .i64 si,.int .i64 nu]:Array Value).all (·.oneCell')=true from yU (⟨⟨i0,i1,i2,i3,i4,i5,i6,i7,fx,fy,tx,ty,se,cl,ba,tt⟩,si,nu⟩:ad).cells_one)
 have HGE:=yA (show cu w g G s dL (⟨⟨i0,i1,i2,i3,i4,i5,i6,i7,fx,fy,tx,ty,se,cl,ba,tt⟩,si,nu⟩:ad) (w9.setCells B 0 [.int .u8 i0,.int .u8 i1,.int .u8 i2,.int .u8 i3,.int .u8 i4,.int .u8 i5,.int .u8 i6,.int .u8 i7,.int .i16 fx,.int .i16 fy,.int .i16 tx,.int .i16 ty,.int .u8 se,.int .u8 cl,.int .i64 ba,.int .i64 tt,.int .i64 si,.int .i64 nu]) from by
  have hk:=Keep.setCells w9 B 0 [.int .u8 i0,.int .u8 i1,.int .u8 i2,.int .u8 i3,.int .u8 i4,.int .u8 i5,.int .u8 i6,.int .u8 i7,.int .i16 fx,.int .i16 fy,.int .i16 tx,.int .i16 ty,.int .u8 se,.int .u8 cl,.int .i64 ba,.int .i64 tt,.int .i64 si,.int .i64 nu];have o1:=HR9.out.old;have o2:=HR9.out.was;refine ⟨s9,HR9.out.gate.keep hk (by omega) (by omega),uT HST0.out HST1.out HST2.out HST3.out HST4.out HST5.out HST6.out HST7.out HST8.out,HR9.out.keep.trans hk (fun _ _ h=>h) (fun i hi he=>by omega)⟩)
 have szf:(Tryz.prog.info? 79).map (·.size)=some (#[.int .u8 i0,.int .u8 i1,.int .u8 i2,.int .u8 i3,.int .u8 i4,.int .u8 i5,.int .u8 i6,.int .u8 i7,.int .i16 fx,.int .i16 fy,.int .i16 tx,.int .i16 ty,.int .u8 se,.int .u8 cl,.int .i64 ba,.int .i64 tt,.int .i64 si,.int .i64 nu]:Array Value).size:=aK
 have HOK:=yA (show (⟨⟨i0,i1,i2,i3,i4,i5,i6,i7,fx,fy,tx,ty,se,cl,ba,tt⟩,si,nu⟩:ad).Ok from ⟨⟨⟨HO0.out _ (by simp),HO0.out _ (by simp),HO0.out _ (by simp),HO0.out _ (by simp),HO0.out _ (by simp),HO0.out _ (by simp),HO0.out _ (by simp),HO0.out _ (by simp)⟩,HO1.out,HO2.out,HO3.out,HO4.out,HO5.out,HO6.out⟩,ie HO7.out,ie HO8.out⟩);go_wp2_with (first | ((with_reducible refine aa (o:=⟨some 52,_,_,_,_,_⟩) ?_ 79 (.tmp 3) ?_ (B+1) 0 ?_ [.int .u8 i0,.int .u8 i1,.int .u8 i2,.int .u8 i3,.int .u8 i4,.int .u8 i5,.int .u8 i6,.int .u8 i7,.int .i16 fx,.int .i16 fy,.int .i16 tx,.int .i16 ty,.int .u8 se,.int .u8 cl,.int .i64 ba,.int .i64 tt,.int .i64 si,.int .i64 nu] #[.int .u8 i0,.int .u8 i1,.int .u8 i2,.int .u8 i3,.int .u8 i4,.int .u8 i5,.int .u8 i6,.int .u8 i7,.int .i16 fx,.int .i16 fy,.int .i16 tx,.int .i16 ty,.int .u8 se,.int .u8 cl,.int .i64 ba,.int .i64 tt,.int .i64 si,.int .i64 nu] ?_ _ HCE.out Tryz.underlying79 ?_ ?_ ?_);rfl;rfl;rfl;rfl;rfl;exact aK) | ((with_reducible refine ze (op:=⟨none,.store 79 (.tmp 2) (.tmp 52),_,_,_,_⟩) ?_ 79 (.tmp 2) (.tmp 52) ?_ B 0 #[.int .u8 i0,.int .u8 i1,.int .u8 i2,.int .u8 i3,.int .u8 i4,.int .u8 i5,.int .u8 i6,.int .u8 i7,.int .i16 fx,.int .i16 fy,.int .i16 tx,.int .i16 ty,.int .u8 se,.int .u8 cl,.int .i64 ba,.int .i64 tt,.int .i64 si,.int .i64 nu] ?_ ?_ HTB.out szf HAL.out ?_);rfl;rfl;rfl;rfl))
 refine yS (aW 2 79 Tryz.results176 B rfl [.int .u8 i0,.int .u8 i1,.int .u8 i2,.int .u8 i3,.int .u8 i4,.int .u8 i5,.int .u8 i6,.int .u8 i7,.int .i16 fx,.int .i16 fy,.int .i16 tx,.int .i16 ty,.int .u8 se,.int .u8 cl,.int .i64 ba,.int .i64 tt,.int .i64 si,.int .i64 nu] #[.int .u8 i0,.int .u8 i1,.int .u8 i2,.int .u8 i3,.int .u8 i4,.int .u8 i5,.int .u8 i6,.int .u8 i7,.int .i16 fx,.int .i16 fy,.int .i16 tx,.int .i16 ty,.int .u8 se,.int .u8 cl,.int .i64 ba,.int .i64 tt,.int .i64 si,.int .i64 nu] rfl _ (yJ w9 B 0 [.int .u8 i0,.int .u8 i1,.int .u8 i2,.int .u8 i3,.int .u8 i4,.int .u8 i5,.int .u8 i6,.int .u8 i7,.int .i16 fx,.int .i16 fy,.int .i16 tx,.int .i16 ty,.int .u8 se,.int .u8 cl,.int .i64 ba,.int .i64 tt,.int .i64 si,.int .i64 nu] HTB.out) Tryz.underlying79 rfl aK) rfl ?_;exact ⟨⟨⟨i0,i1,i2,i3,i4,i5,i6,i7,fx,fy,tx,ty,se,cl,ba,tt⟩,si,nu⟩,rfl,HOK.out,HGE.out⟩
theorem uU (w:World) (g G:Nat) (s:Option (List Int)) (h:GR w g G s) :
 Calls Tryz.prog 177 #[.pointer (some ⟨g,0,none⟩)] w fun e w'=>∃ x:ak,e = .returned (.agg #[.int .u8 x.d.i0,.int .u8 x.d.i1,.int .u8 x.d.i2,.int .u8 x.d.i3,.int .u8 x.d.i4,.int .u8 x.d.i5,.int .u8 x.d.i6,.int .u8 x.d.i7,.int .i16 x.d.ax,.int .i16 x.d.ay,.int .u8 x.d.seats,.int .u8 x.d.cls,.int .i64 x.d.radius,.int .i64 x.number])∧x.Ok∧cu w g G s d7 x w':=by
 have hk1:=Keep.alloc (fun k=>k=g) w (.cells #[.int .u8 0,.int .u8 0,.int .u8 0,.int .u8 0,.int .u8 0,.int .u8 0,.int .u8 0,.int .u8 0,.int .i16 0,.int .i16 0,.int .u8 0,.int .u8 0,.int .i64 0,.int .i64 0] 83);have hk2:=Keep.alloc (fun k=>k=g) (w.alloc (.cells #[.int .u8 0,.int .u8 0,.int .u8 0,.int .u8 0,.int .u8 0,.int .u8 0,.int .u8 0,.int .u8 0,.int .i16 0,.int .i16 0,.int .u8 0,.int .u8 0,.int .i64 0,.int .i64 0] 83)) (.cells #[.int .u8 0,.int .u8 0,.int .u8 0,.int .u8 0,.int .u8 0,.int .u8 0,.int .u8 0,.int .u8 0,.int .i16 0,.int .i16 0,.int .u8 0,.int .u8 0,.int .i64 0,.int .i64 0] 83);have hk:=hk1.trans hk2 (Z:=fun k=>k=g) (fun _ _ h=>h) (fun _ _ h=>h);have hs1:(w.alloc (.cells #[.int .u8 0,.int .u8 0,.int .u8 0,.int .u8 0,.int .u8 0,.int .u8 0,.int .u8 0,.int .u8 0,.int .i16 0,.int .i16 0,.int .u8 0,.int .u8 0,.int .i64 0,.int .i64 0] 83)).heap.size=w.heap.size+1:=by simp
 have hn2:=yE (w.alloc (.cells #[.int .u8 0,.int .u8 0,.int .u8 0,.int .u8 0,.int .u8 0,.int .u8 0,.int .u8 0,.int .u8 0,.int .i16 0,.int .i16 0,.int .u8 0,.int .u8 0,.int .i64 0,.int .i64 0] 83)) (.cells #[.int .u8 0,.int .u8 0,.int .u8 0,.int .u8 0,.int .u8 0,.int .u8 0,.int .u8 0,.int .u8 0,.int .i16 0,.int .i16 0,.int .u8 0,.int .u8 0,.int .i64 0,.int .i64 0] 83);rw [hs1] at hn2
 have HR0:=yA (show cN w g G w.heap.size (w.heap.size+1) 14 s [.int .u8 0,.int .u8 0,.int .u8 0,.int .u8 0,.int .u8 0,.int .u8 0,.int .u8 0,.int .u8 0,.int .i16 0,.int .i16 0,.int .u8 0,.int .u8 0,.int .i64 0,.int .i64 0] ((w.alloc (.cells #[.int .u8 0,.int .u8 0,.int .u8 0,.int .u8 0,.int .u8 0,.int .u8 0,.int .u8 0,.int .u8 0,.int .i16 0,.int .i16 0,.int .u8 0,.int .u8 0,.int .i64 0,.int .i64 0] 83)).alloc (.cells #[.int .u8 0,.int .u8 0,.int .u8 0,.int .u8 0,.int .u8 0,.int .u8 0,.int .u8 0,.int .u8 0,.int .i16 0,.int .i16 0,.int .u8 0,.int .u8 0,.int .i64 0,.int .i64 0] 83)) from by
  have hb:=((Below.refl w.heap.size w).alloc (yB _) (.cells #[.int .u8 0,.int .u8 0,.int .u8 0,.int .u8 0,.int .u8 0,.int .u8 0,.int .u8 0,.int .u8 0,.int .i16 0,.int .i16 0,.int .u8 0,.int .u8 0,.int .i64 0,.int .i64 0] 83)).alloc (by simp) (.cells #[.int .u8 0,.int .u8 0,.int .u8 0,.int .u8 0,.int .u8 0,.int .u8 0,.int .u8 0,.int .u8 0,.int .i16 0,.int .i16 0,.int .u8 0,.int .u8 0,.int .i64 0,.int .i64 0] 83);refine ⟨h.below hb,fun j u hu=>?_,aw hn2 (yB 14),aw (hk2.old (yE w _) (by have:=h.lt;omega)) (yB 14),hk,⟨yB _,by omega,by omega⟩,h.lt.1,h.lt.2.1⟩;rw [yO];exact (yI _ _ _ _ _ (0,0) hn2).trans (by rw [←hu];simp))
 clear h hk1 hk2 hk hn2;go_enter Tryz.func177,Tryz.ntmps177
 go_upto_region 2 with fail
 clear hs1;generalize (w.alloc (.cells #[.int .u8 0,.int .u8 0,.int .u8 0,.int .u8 0,.int .u8 0,.int .u8 0,.int .u8 0,.int .u8 0,.int .i16 0,.int .i16 0,.int .u8 0,.int .u8 0,.int .i64 0,.int .i64 0] 83)).alloc (.cells #[.int .u8 0,.int .u8 0,.int .u8 0,.int .u8 0,.int .u8 0,.int .u8 0,.int .u8 0,.int .u8 0,.int .i16 0,.int .i16 0,.int .u8 0,.int .u8 0,.int .i64 0,.int .i64 0] 83)=w0 at *;obtain ⟨B,hB⟩:∃ B,w.heap.size=B:=⟨_,rfl⟩;rw [hB] at HR0 ⊢;clear hB;go_wp2_with fail
 refine (xd w0 g G s HR0.out.gate).mono ?_;rintro e v0 ⟨i0,i1,i2,i3,i4,i5,i6,i7,rfl,hok,hr⟩;obtain ⟨s1,hst,hr1⟩:=HR0.out.read hr;have HO0:=yA hok;have HST0:=yA hst;have HV0:=yA hr1;have HR1:=yA (hr1.put 0 [.int .u8 i0,.int .u8 i1,.int .u8 i2,.int .u8 i3,.int .u8 i4,.int .u8 i5,.int .u8 i6,.int .u8 i7] (by simp) rfl);have HTH0:=yA (show v0.there (B+1) 0 (#[.int .u8 i0,.int .u8 i1,.int .u8 i2,.int .u8 i3,.int .u8 i4,.int .u8 i5,.int .u8 i6,.int .u8 i7]:Array Value).size from hr1.part 0 8 (by omega));clear hr hr1 hst hok HR0;have szx:(Tryz.prog.info? 72).map (·.size)=some (#[.int .u8 i0,.int .u8 i1,.int .u8 i2,.int .u8 i3,.int .u8 i4,.int .u8 i5,.int .u8 i6,.int .u8 i7]:Array Value).size:=xe
 go_upto_region 3 with (first | ((with_reducible refine ze (op:=⟨none,.store 72 (.tmp 9) (.tmp 7),_,_,_,_⟩) ?_ 72 (.tmp 9) (.tmp 7) ?_ (B+1) 0 #[.int .u8 i0,.int .u8 i1,.int .u8 i2,.int .u8 i3,.int .u8 i4,.int .u8 i5,.int .u8 i6,.int .u8 i7] ?_ ?_ HTH0.out szx ?_ ?_);rfl;rfl;rfl;rfl;exact yU (cs:=[.int .u8 i0,.int .u8 i1,.int .u8 i2,.int .u8 i3,.int .u8 i4,.int .u8 i5,.int .u8 i6,.int .u8 i7]) (by intro v hv;simp only [zt,zi,or_false] at hv;rcases hv with rfl | rfl | rfl | rfl | rfl | rfl | rfl | rfl <;> rfl)))
 have HR1':=yA (show cN w g G B (B+1) 14 s1 [.int .u8 i0,.int .u8 i1,.int .u8 i2,.int .u8 i3,.int .u8 i4,.int .u8 i5,.int .u8 i6,.int .u8 i7,.int .i16 0,.int .i16 0,.int .u8 0,.int .u8 0,.int .i64 0,.int .i64 0] (v0.setCells (B+1) 0 [.int .u8 i0,.int .u8 i1,.int .u8 i2,.int .u8 i3,.int .u8 i4,.int .u8 i5,.int .u8 i6,.int .u8 i7]) from HR1.out);clear HR1 HTH0 HV0 szx;try simp only [Array.toList_toArray]
 generalize v0.setCells (B+1) 0 [.int .u8 i0,.int .u8 i1,.int .u8 i2,.int .u8 i3,.int .u8 i4,.int .u8 i5,.int .u8 i6,.int .u8 i7]=w1 at *;have HR1:=HR1';clear HR1';go_wp2_with fail
 refine (lu w1 g G s1 HR1.out.gate).mono ?_;rintro e v1 ⟨ax,ay,rfl,hok1,hok2,hr⟩;obtain ⟨s2,hst,hr1⟩:=HR1.out.read hr;have HO1:=yA (And.intro hok1 hok2);have HST1:=yA hst;have HV1:=yA hr1;have HR2:=yA (hr1.put 8 [.int .i16 ax,.int .i16 ay] (by simp) rfl);have HTH1:=yA (show v1.there (B+1) 8 (#[.int .i16 ax,.int .i16 ay]:Array Value).size from hr1.part 8 2 (by omega));clear hr hr1 hst hok1 hok2 HR1;have szx:(Tryz.prog.info? 75).map (·.size)=some (#[.int .i16 ax,.int .i16 ay]:Array Value).size:=sQ
 go_upto_region 4 with (first | ((with_reducible refine ze (op:=⟨none,.store 75 (.tmp 15) (.tmp 13),_,_,_,_⟩) ?_ 75 (.tmp 15) (.tmp 13) ?_ (B+1) 8 #[.int .i16 ax,.int .i16 ay] ?_ ?_ HTH1.out szx ?_ ?_);rfl;rfl;rfl;rfl;exact yU (cs:=[.int .i16 ax,.int .i16 ay]) (by intro v hv;simp only [zt,zi,or_false] at hv;rcases hv with rfl | rfl <;> rfl)))
 have HR2':=yA (show cN w g G B (B+1) 14 s2 [.int .u8 i0,.int .u8 i1,.int .u8 i2,.int .u8 i3,.int .u8 i4,.int .u8 i5,.int .u8 i6,.int .u8 i7,.int .i16 ax,.int .i16 ay,.int .u8 0,.int .u8 0,.int .i64 0,.int .i64 0] (v1.setCells (B+1) 8 [.int .i16 ax,.int .i16 ay]) from HR2.out);clear HR2 HTH1 HV1 szx;try simp only [Array.toList_toArray]
 generalize v1.setCells (B+1) 8 [.int .i16 ax,.int .i16 ay]=w2 at *;have HR2:=HR2';clear HR2';go_wp2_with fail
 refine (kM w2 g G s2 HR2.out.gate).mono ?_;rintro e v2 ⟨se,rfl,hok,hr⟩;obtain ⟨s3,hst,hr1⟩:=HR2.out.read hr;have HO2:=yA hok;have HST2:=yA hst;have HV2:=yA hr1;have HR3:=yA (hr1.put 10 [.int .u8 se] (by simp) rfl);have HTH2:=yA (show v2.there (B+1) 10 (#[.int .u8 se]:Array Value).size from hr1.part 10 1 (by omega));clear hr hr1 hst hok HR2;have hfz:v2.frozen? ⟨B+1,10,none⟩=false:=(HTH2.out 0 (by simp)).2;obtain ⟨oldc,hoc⟩:=zB.1 (HTH2.out 0 (by simp)).1;have hoc:v2.cell? ⟨B+1,10,none⟩=some oldc:=hoc;go_upto_region 5 with fail
 clear hfz hoc;have HR3':=yA (show cN w g G B (B+1) 14 s3 [.int .u8 i0,.int .u8 i1,.int .u8 i2,.int .u8 i3,.int .u8 i4,.int .u8 i5,.int .u8 i6,.int .u8 i7,.int .i16 ax,.int .i16 ay,.int .u8 se,.int .u8 0,.int .i64 0,.int .i64 0] (v2.setCells (B+1) 10 [.int .u8 se]) from HR3.out);have hsc:v2.setCells (B+1) 10 [.int .u8 se]=v2.setCell ⟨B+1,10,none⟩ (.int .u8 se):=rfl;rw [hsc] at HR3';clear hsc HR3 HTH2 HV2;generalize v2.setCell ⟨B+1,10,none⟩ (.int .u8 se)=w3 at *;have HR3:=HR3';clear HR3';go_wp2_with fail
 refine (kM w3 g G s3 HR3.out.gate).mono ?_;rintro e v3 ⟨cl,rfl,hok,hr⟩;obtain ⟨s4,hst,hr1⟩:=HR3.out.read hr;have HO3:=yA hok;have HST3:=yA hst;have HV3:=yA hr1;have HR4:=yA (hr1.put 11 [.int .u8 cl] (by simp) rfl);have HTH3:=yA (show v3.there (B+1) 11 (#[.int .u8 cl]:Array Value).size from hr1.part 11 1 (by omega));clear hr hr1 hst hok HR3;have hfz:v3.frozen? ⟨B+1,11,none⟩=false:=(HTH3.out 0 (by simp)).2;obtain ⟨oldc,hoc⟩:=zB.1 (HTH3.out 0 (by simp)).1;have hoc:v3.cell? ⟨B+1,11,none⟩=some oldc:=hoc;go_upto_region 6 with fail
 clear hfz hoc;have HR4':=yA (show cN w g G B (B+1) 14 s4 [.int .u8 i0,.int .u8 i1,.int .u8 i2,.int .u8 i3,.int .u8 i4,.int .u8 i5,.int .u8 i6,.int .u8 i7,.int .i16 ax,.int .i16 ay,.int .u8 se,.int .u8 cl,.int .i64 0,.int .i64 0] (v3.setCells (B+1) 11 [.int .u8 cl]) from HR4.out);have hsc:v3.setCells (B+1) 11 [.int .u8 cl]=v3.setCell ⟨B+1,11,none⟩ (.int .u8 cl):=rfl;rw [hsc] at HR4';clear hsc HR4 HTH3 HV3;generalize v3.setCell ⟨B+1,11,none⟩ (.int .u8 cl)=w4 at *;have HR4:=HR4';clear HR4';go_wp2_with fail
 refine (kN w4 g G s4 HR4.out.gate).mono ?_;rintro e v4 ⟨ra,rfl,hok,hr⟩;obtain ⟨s5,hst,hr1⟩:=HR4.out.read hr;have HO4:=yA hok;have HST4:=yA hst;have HV4:=yA hr1;have HR5:=yA (hr1.put 12 [.int .i64 ra] (by simp) rfl);have HTH4:=yA (show v4.there (B+1) 12 (#[.int .i64 ra]:Array Value).size from hr1.part 12 1 (by omega));clear hr hr1 hst hok HR4;have hfz:v4.frozen? ⟨B+1,12,none⟩=false:=(HTH4.out 0 (by simp)).2;obtain ⟨oldc,hoc⟩:=zB.1 (HTH4.out 0 (by simp)).1;have hoc:v4.cell? ⟨B+1,12,none⟩=some oldc:=hoc;go_upto_region 7 with fail
 clear hfz hoc;have HR5':=yA (show cN w g G B (B+1) 14 s5 [.int .u8 i0,.int .u8 i1,.int .u8 i2,.int .u8 i3,.int .u8 i4,.int .u8 i5,.int .u8 i6,.int .u8 i7,.int .i16 ax,.int .i16 ay,.int .u8 se,.int .u8 cl,.int .i64 ra,.int .i64 0] (v4.setCells (B+1) 12 [.int .i64 ra]) from HR5.out);have hsc:v4.setCells (B+1) 12 [.int .i64 ra]=v4.setCell ⟨B+1,12,none⟩ (.int .i64 ra):=rfl;rw [hsc] at HR5';clear hsc HR5 HTH4 HV4;generalize v4.setCell ⟨B+1,12,none⟩ (.int .i64 ra)=w5 at *;have HR5:=HR5';clear HR5';go_wp2_with fail
 refine (bL w5 g G s5 HR5.out.gate cj (by decide)).mono ?_;rintro e v5 ⟨nu,rfl,hok,hr⟩;obtain ⟨s6,hst,hr1⟩:=HR5.out.read hr;have HO5:=yA hok;have HST5:=yA hst;have HV5:=yA hr1;have HR6:=yA (hr1.put 13 [.int .i64 nu] (by simp) rfl);have HTH5:=yA (show v5.there (B+1) 13 (#[.int .i64 nu]:Array Value).size from hr1.part 13 1 (by omega));clear hr hr1 hst hok HR5;have hfz:v5.frozen? ⟨B+1,13,none⟩=false:=(HTH5.out 0 (by simp)).2;obtain ⟨oldc,hoc⟩:=zB.1 (HTH5.out 0 (by simp)).1;have hoc:v5.cell? ⟨B+1,13,none⟩=some oldc:=hoc;go_upto_region 8 with fail
 clear hfz hoc;have HR6':=yA (show cN w g G B (B+1) 14 s6 [.int .u8 i0,.int .u8 i1,.int .u8 i2,.int .u8 i3,.int .u8 i4,.int .u8 i5,.int .u8 i6,.int .u8 i7,.int .i16 ax,.int .i16 ay,.int .u8 se,.int .u8 cl,.int .i64 ra,.int .i64 nu] (v5.setCells (B+1) 13 [.int .i64 nu]) from HR6.out);have hsc:v5.setCells (B+1) 13 [.int .i64 nu]=v5.setCell ⟨B+1,13,none⟩ (.int .i64 nu):=rfl;rw [hsc] at HR6';clear hsc HR6 HTH5 HV5;generalize v5.setCell ⟨B+1,13,none⟩ (.int .i64 nu)=w6 at *;have HR6:=HR6';clear HR6';have HCE:=yA (fun (j:Nat) (u:Value) (hu:([.int .u8 i0,.int .u8 i1,.int .u8 i2,.int .u8 i3,.int .u8 i4,.int .u8 i5,.int .u8 i6,.int .u8 i7,.int .i16 ax,.int .i16 ay,.int .u8 se,.int .u8 cl,.int .i64 ra,.int .i64 nu]:List Value)[j]?=some u)=>HR6.out.cells j u hu);have HTB:=yA (show w6.there B 0 (#[.int .u8 i0,.int .u8 i1,.int .u8 i2,.int .u8 i3,.int .u8 i4,.int .u8 i5,.int .u8 i6,.int .u8 i7,.int .i16 ax,.int .i16 ay,.int .u8 se,.int .u8 cl,.int .i64 ra,.int .i64 nu]:Array Value).size from HR6.out.box);have HAL:=yA (show (#[.int .u8 i0,.int .u8 i1,.int .u8 i2,.int .u8 i3,.int .u8 i4,.int .u8 i5,.int .u8 i6,.int .u8 i7,.int .i16 ax,.int .i16 ay,.int .u8 se,.int .u8 cl,.int .i64 ra,.int .i64 nu]:Array Value).all (·.oneCell')=true from yU (⟨⟨i0,i1,i2,i3,i4,i5,i6,i7,ax,ay,se,cl,ra⟩,nu⟩:ak).cells_one)
 have HGE:=yA (show cu w g G s d7 (⟨⟨i0,i1,i2,i3,i4,i5,i6,i7,ax,ay,se,cl,ra⟩,nu⟩:ak) (w6.setCells B 0 [.int .u8 i0,.int .u8 i1,.int .u8 i2,.int .u8 i3,.int .u8 i4,.int .u8 i5,.int .u8 i6,.int .u8 i7,.int .i16 ax,.int .i16 ay,.int .u8 se,.int .u8 cl,.int .i64 ra,.int .i64 nu]) from by
  have hk:=Keep.setCells w6 B 0 [.int .u8 i0,.int .u8 i1,.int .u8 i2,.int .u8 i3,.int .u8 i4,.int .u8 i5,.int .u8 i6,.int .u8 i7,.int .i16 ax,.int .i16 ay,.int .u8 se,.int .u8 cl,.int .i64 ra,.int .i64 nu];have o1:=HR6.out.old;have o2:=HR6.out.was;refine ⟨s6,HR6.out.gate.keep hk (by omega) (by omega),(Step.seq (f:=Prod.mk) (Step.seq (f:=Prod.mk) (Step.seq (f:=Prod.mk) (Step.seq (f:=Prod.mk) (Step.seq (f:=Prod.mk) HST0.out HST1.out) HST2.out) HST3.out) HST4.out) HST5.out).map ni d7 (fun l=>rfl),HR6.out.keep.trans hk (fun _ _ h=>h) (fun i hi he=>by omega)⟩)
 have szf:(Tryz.prog.info? 83).map (·.size)=some (#[.int .u8 i0,.int .u8 i1,.int .u8 i2,.int .u8 i3,.int .u8 i4,.int .u8 i5,.int .u8 i6,.int .u8 i7,.int .i16 ax,.int .i16 ay,.int .u8 se,.int .u8 cl,.int .i64 ra,.int .i64 nu]:Array Value).size:=dF
 have HOK:=yA (show (⟨⟨i0,i1,i2,i3,i4,i5,i6,i7,ax,ay,se,cl,ra⟩,nu⟩:ak).Ok from ⟨⟨⟨HO0.out _ (by simp),HO0.out _ (by simp),HO0.out _ (by simp),HO0.out _ (by simp),HO0.out _ (by simp),HO0.out _ (by simp),HO0.out _ (by simp),HO0.out _ (by simp)⟩,HO1.out,HO2.out,HO3.out,HO4.out⟩,ie HO5.out⟩);go_wp2_with (first | ((with_reducible refine aa (o:=⟨some 37,_,_,_,_,_⟩) ?_ 83 (.tmp 3) ?_ (B+1) 0 ?_ [.int .u8 i0,.int .u8 i1,.int .u8 i2,.int .u8 i3,.int .u8 i4,.int .u8 i5,.int .u8 i6,.int .u8 i7,.int .i16 ax,.int .i16 ay,.int .u8 se,.int .u8 cl,.int .i64 ra,.int .i64 nu] #[.int .u8 i0,.int .u8 i1,.int .u8 i2,.int .u8 i3,.int .u8 i4,.int .u8 i5,.int .u8 i6,.int .u8 i7,.int .i16 ax,.int .i16 ay,.int .u8 se,.int .u8 cl,.int .i64 ra,.int .i64 nu] ?_ _ HCE.out Tryz.underlying83 ?_ ?_ ?_);rfl;rfl;rfl;rfl;rfl;exact dF) | ((with_reducible refine ze (op:=⟨none,.store 83 (.tmp 2) (.tmp 37),_,_,_,_⟩) ?_ 83 (.tmp 2) (.tmp 37) ?_ B 0 #[.int .u8 i0,.int .u8 i1,.int .u8 i2,.int .u8 i3,.int .u8 i4,.int .u8 i5,.int .u8 i6,.int .u8 i7,.int .i16 ax,.int .i16 ay,.int .u8 se,.int .u8 cl,.int .i64 ra,.int .i64 nu] ?_ ?_ HTB.out szf HAL.out ?_);rfl;rfl;rfl;rfl))
 refine yS (aW 2 83 Tryz.results177 B rfl [.int .u8 i0,.int .u8 i1,.int .u8 i2,.int .u8 i3,.int .u8 i4,.int .u8 i5,.int .u8 i6,.int .u8 i7,.int .i16 ax,.int .i16 ay,.int .u8 se,.int .u8 cl,.int .i64 ra,.int .i64 nu] #[.int .u8 i0,.int .u8 i1,.int .u8 i2,.int .u8 i3,.int .u8 i4,.int .u8 i5,.int .u8 i6,.int .u8 i7,.int .i16 ax,.int .i16 ay,.int .u8 se,.int .u8 cl,.int .i64 ra,.int .i64 nu] rfl _ (yJ w6 B 0 [.int .u8 i0,.int .u8 i1,.int .u8 i2,.int .u8 i3,.int .u8 i4,.int .u8 i5,.int .u8 i6,.int .u8 i7,.int .i16 ax,.int .i16 ay,.int .u8 se,.int .u8 cl,.int .i64 ra,.int .i64 nu] HTB.out) Tryz.underlying83 rfl dF) rfl ?_;exact ⟨⟨⟨i0,i1,i2,i3,i4,i5,i6,i7,ax,ay,se,cl,ra⟩,nu⟩,rfl,HOK.out,HGE.out⟩
end Go.Proofs.YtcaicgipibcicaaGreat
