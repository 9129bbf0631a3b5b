/- The codec's Reader where it fails, and where it has failed. -/
import Derived.Test.YtcaicgipibcicaaGreatQAuSee
import Derived.Laws.CopyOwn
import Derived.Test.YtcaicgipibcicaaGreatQSumA
set_option maxRecDepth 100000
set_option maxHeartbeats 4000000
set_option linter.unusedSimpArgs false
set_option linter.unusedVariables false
open Go.Lib renaming hid→wB
open List renaming getElem?_eq_getElem→wE,length_drop→xt
open Option renaming bind_some→wQ
namespace Go.Proofs.YtcaicgipibcicaaGreat
open Go.RowKit Go.Sort
def fq (w:World) (R:Nat) (ao:Option Addr) (n c:Nat) (f:Int):Prop:=w.heap[R]?=some (.cells #[.slice ao n c,.int .i64 f,.bool true] 226 (0,0))
theorem fq.keep {w w':World} {R:Nat} {ao:Option Addr} {n c:Nat} {f:Int} {X:Nat→Prop} (h:fq w R ao n c f) (hk:Keep X w w') (hx:¬ X R):fq w' R ao n c f:=hk.old h hx
theorem fq.fail {w:World} {R:Nat} {ao:Option Addr} {n c:Nat} {f:Int} (h:fq w R ao n c f) (e:Int):fq ((w.setCell ⟨R,1,none⟩ (.int .i64 e)).setCell ⟨R,0,none⟩ (.slice none 0 0)) R none 0 0 e∧Keep (fun k=>k=R) w ((w.setCell ⟨R,1,none⟩ (.int .i64 e)).setCell ⟨R,0,none⟩ (.slice none 0 0)):=
 ⟨ae (ae h 1 (.int .i64 e)) 0 (.slice none 0 0),(aJ w R 1 _).trans (aJ _ R 0 _) (fun _ _ h=>h) (fun _ _ h=>h)⟩
theorem lO (w:World) (R:Nat) (ao:Option Addr) (n c:Nat) (e:Int) (h:fq w R ao n c 0) :
 Calls Tryz.prog 181 #[.pointer (some ⟨R,0,none⟩),.int .i64 e] w fun r w'=>r = .returned (.tuple #[])∧fq w' R none 0 0 e∧Keep (fun k=>k=R) w w':=by
 have HF:=wB (h.fail e);obtain ⟨g0,g1,g2,gf⟩:=cells3 h;clear h;go_enter Tryz.func181,Tryz.ntmps181
 go_wp2_with fail
 exact bodyPost_end (v:=.tuple #[]) (by simp [results,Tryz.results181,go_sem]) rfl ⟨rfl,HF.out.1,HF.out.2⟩
theorem pa (w:World) (R:Nat) (ao:Option Addr) (n c:Nat) (f:Int) (k:Nat) (h:fq w R ao n c f) (hf:f≠0) :
 Calls Tryz.prog 182 #[.pointer (some ⟨R,0,none⟩),.int .i64 (k:Int)] w fun r w'=>r = .returned (.slice none 0 0)∧w'=w:=by
 obtain ⟨g0,g1,g2,gf⟩:=cells3 h;have b1:(f != 0)=true:=by simp [hf]
 clear h;go_enter Tryz.func182,Tryz.ntmps182
 go_wp2_with fail
 go_ret
 exact ⟨rfl,rfl⟩
theorem lP (w:World) (R:Nat) (ao:Option Addr) (n c:Nat) (k:Nat) (h:fq w R ao n c 0) (hk:n<k) :
 Calls Tryz.prog 182 #[.pointer (some ⟨R,0,none⟩),.int .i64 (k:Int)] w fun r w'=>r = .returned (.slice none 0 0)∧fq w' R none 0 0 20∧Keep (fun k=>k=R) w w':=by
 have H:=wB h;obtain ⟨g0,g1,g2,gf⟩:=cells3 h;have b1:decide ((n:Int)<(k:Int))=true:=decide_eq_true (by omega);clear h;go_enter Tryz.func182,Tryz.ntmps182
 go_wp2_with fail
 refine (lO w R ao n c 20 H.out).mono ?_;rintro e w2 ⟨rfl,h2,k2⟩;have H2:=wB h2;have K2:=wB k2;clear h2 k2;go_wp2_with fail
 go_ret
 exact ⟨rfl,H2.out,K2.out⟩
def Dry (w:World) (R:Nat) (w':World):Prop:=∃ f ao c,f≠0∧fq w' R ao 0 c f∧Keep (fun k=>k=R) w w'
theorem mT (w:World) (R:Nat) (ao:Option Addr) (c:Nat) (f:Int) (h:fq w R ao 0 c f) :
 Calls Tryz.prog 155 #[.pointer (some ⟨R,0,none⟩),.int .i64 4] w fun r w'=>r = .returned (.int .u64 0)∧Dry w R w':=by
 have HN:∃ w2,(Dry w R w2)∧Calls Tryz.prog 182 #[.pointer (some ⟨R,0,none⟩),.int .i64 4] w fun r w'=>r = .returned (.slice none 0 0)∧Dry w R w':=by
  by_cases hf:f=0
  · subst hf
    refine ⟨_,⟨20,none,0,by decide,(h.fail 20).1,(h.fail 20).2⟩,(lP w R ao 0 c 4 h (by omega)).mono ?_⟩;rintro e w2 ⟨rfl,h2,k2⟩;exact ⟨rfl,20,none,0,by decide,h2,k2⟩
  · refine ⟨w,⟨f,ao,c,hf,h,Keep.refl _ _⟩,(pa w R ao 0 c f 4 h hf).mono ?_⟩
    rintro e w2 ⟨rfl,rfl⟩;exact ⟨rfl,f,ao,c,hf,h,Keep.refl _ _⟩
 obtain ⟨_,_,hn⟩:=HN;have HN:=wB hn;clear hn h;go_enter Tryz.func155,Tryz.ntmps155
 go_wp2_with fail
 refine HN.out.mono ?_;rintro e w2 ⟨rfl,h2⟩;have H2:=wB h2;clear h2;go_wp2_with fail
 go_loopw [5,20] (fun a i wr=>Hid (a = .int .u64 0∧i = .int .i64 0∧wr=w2)) (fun _ i _=>0)
 case atStart=>exact wB ⟨rfl,rfl,rfl⟩
 case round=>
  obtain ⟨rfl,rfl,rfl⟩:=hrel.out;clear hrel;go_wp2_with fail
  go_ret
  exact ⟨rfl,H2.out⟩
theorem rC (w:World) (R:Nat) (ao:Option Addr) (n c:Nat) (f:Int) (h:fq w R ao n c f) (hf:f≠0) :
 Calls Tryz.prog 156 #[.pointer (some ⟨R,0,none⟩)] w fun r w'=>r = .returned (.int .i64 f)∧w'=w:=by
 obtain ⟨g0,g1,g2,gf⟩:=cells3 h;have b1:(f==0)=false:=by simp [hf]
 clear h;go_enter Tryz.func156,Tryz.ntmps156
 go_wp2_with fail
 go_ret
 exact ⟨rfl,rfl⟩
theorem slice_head (ao:Option Addr) (k c hi:Nat) (h2:hi≤k) (h3:k≤c) :
 ∃ c',(∀ w:World,(Instr.slice 59 (.slice ao k c) none (some (.int .i64 (hi:Int))) none).run Tryz.prog w = .ok (.slice ao hi c') w)∧hi≤c':=by
 have h5:¬ c<hi:=by omega
 exact ⟨c,fun w=>by go_simp,by omega⟩
theorem qR (ao:Option Addr) (k c lo:Nat) (h1:lo≤k) (h3:k≤c) :
 ∃ ao' c',(∀ w:World,(Instr.slice 59 (.slice ao k c) (some (.int .i64 (lo:Int))) none none).run Tryz.prog w = .ok (.slice ao' (k - lo) c') w)∧k - lo≤c'∧
  (∀ a',ao'=some a'→∃ a,ao=some a∧a.block=a'.block)∧∀ (w:World) (b:List Int),b.length=k→RdC w ao (cellsOf ah b)→RdC w ao' (cellsOf ah (b.drop lo)):=by
 by_cases hc:c=lo
 · subst hc
   have:k=c:=by omega
   subst this;refine ⟨ao,0,fun w=>by go_simp,by omega,fun a' h=>⟨a',h,rfl⟩,fun w b hb hr=>?_⟩;left
   rw [←hb,List.drop_length];rfl
 · refine ⟨ao.map (·.add lo),c - lo,fun w=>by go_simp,by omega,fun a' h=>?_,fun w b hb hr=>?_⟩
   · cases ao with
     | none=>simp at h
     | some a=>
       simp only [Option.map_some,Option.some.injEq] at h;refine ⟨a,rfl,?_⟩;rw [←h];unfold Addr.add;split <;> rfl
   · rcases hr with h0 | ⟨b',o,rfl,hcell⟩
     · left
       have:b=[]:=by
        have:=congrArg List.length h0;rw [aI] at this;exact List.eq_nil_of_length_eq_zero (by simpa using this)
       subst this;simp [cellsOf]
     · have hadd:(⟨b',o,none⟩:Addr).add lo=⟨b',o+lo,none⟩:=by unfold Addr.add;split <;> simp_all
       right
       refine ⟨b',o+lo,by simp [hadd],fun j u hu=>?_⟩
       have he:cellsOf ah (b.drop lo)=(cellsOf ah b).drop lo:=by
        have:∀ (l:List Int) (n:Nat),cellsOf ah (l.drop n)=(cellsOf ah l).drop n:=by
         intro l
         induction l with
         | nil=>intro n;simp [cellsOf]
         | cons x l ih=>
           intro n;cases n with
           | zero=>rfl
           | succ n=>
             have:=ih n
             simpa [cellsOf,ah] using this
        exact this b lo
       rw [he,List.getElem?_drop] at hu;have:=hcell _ u hu;rwa [←Nat.add_assoc] at this
def RdS (w:World) (R G:Nat) (s:Option (List Int)):Prop:=match s with
 | some l=>∃ ao c,fq w R ao l.length c 0∧RdC w ao (cellsOf ah l)∧(∀ a,ao=some a→a.block=G)∧Byt l∧l.length≤c∧l.length≤1000000000
 | none=>∃ f,f≠0∧fq w R none 0 0 f
theorem RdS.keep {w w':World} {R G:Nat} {s:Option (List Int)} {X:Nat→Prop} (h:RdS w R G s) (hk:Keep X w w') (h1:¬ X R) (h2:¬ X G):RdS w' R G s:=by
 cases s with
 | none=>obtain ⟨f,hf,h⟩:=h;exact ⟨f,hf,h.keep hk h1⟩
 | some l=>
   obtain ⟨ao,c,h3,h4,h5,h6,h7,h8⟩:=h;exact ⟨ao,c,h3.keep hk h1,h4.keep hk (fun b o hb=>by have h9:b=G:=h5 _ hb;rw [h9];exact h2),h5,h6,h7,h8⟩
theorem RdS.lt {w:World} {R G:Nat} {s:Option (List Int)} (h:RdS w R G s):R<w.heap.size:=by
 cases s with
 | none=>obtain ⟨f,hf,h⟩:=h;exact lt_of_block h
 | some l=>obtain ⟨ao,c,h3,_⟩:=h;exact lt_of_block h3
theorem RdS.below {w w':World} {R G:Nat} {s:Option (List Int)} (h:RdS w R G s) (hb:Below w.heap.size w w'):RdS w' R G s:=h.keep (Keep.of_below hb (Nat.le_refl _) (fun _=>False)) id id
theorem RdS.byt {w:World} {R G:Nat} {l:List Int} (h:RdS w R G (some l)):Byt l:=by obtain ⟨_,_,_,_,_,h,_⟩:=h;exact h
theorem RdS.len {w:World} {R G:Nat} {l:List Int} (h:RdS w R G (some l)):l.length≤1000000000:=by obtain ⟨_,_,_,_,_,_,_,h⟩:=h;exact h
def pd (w:World) (R G k:Nat) (s:Option (List Int)) (e:Ending) (w':World):Prop:=
 Keep (fun k=>k=R) w w'∧RdS w' R G ((s.bind (bK k)).map (·.2))∧
 match s.bind (bK k) with
 | some (d,_)=>∃ b o c,e = .returned (.slice (some ⟨b,o,none⟩) k c)∧k≤c∧∀ j u,(cellsOf ah d)[j]?=some u→w'.cell? ⟨b,o+j,none⟩=some u
 | none=>e = .returned (.slice none 0 0)
theorem next_any (w:World) (R G k:Nat) (s:Option (List Int)) (hRG:R≠G) (hk:0<k) (hk2:k≤1000) (h:RdS w R G s) :
 Calls Tryz.prog 182 #[.pointer (some ⟨R,0,none⟩),.int .i64 (k:Int)] w (pd w R G k s):=by
 cases s with
 | none=>
   obtain ⟨f,hf,h1⟩:=h;refine (pa w R none 0 0 f k h1 hf).mono ?_;rintro e w' ⟨rfl,rfl⟩;exact ⟨Keep.refl _ _,⟨f,hf,h1⟩,rfl⟩
 | some l=>
   obtain ⟨ao,c,h1,h2,h3,h4,h5,h6⟩:=h;by_cases hlt:l.length<k
   · have htk:bK k l=none:=by simp [bK,hlt]
     refine (lP w R ao l.length c k h1 hlt).mono ?_;rintro e w' ⟨rfl,h7,h8⟩;refine ⟨h8,?_,?_⟩
     · simp only [wQ,htk,Option.map_none]
       exact ⟨20,by decide,h7⟩
     · simp only [wQ,htk]
   · have htk:bK k l=some (l.take k,l.drop k):=by simp [bK,hlt]
     obtain ⟨c1,hs1,hc1⟩:=slice_head ao l.length c k (by omega) h5;obtain ⟨ao2,c2,hs2,hc2,hb2,hr2⟩:=qR ao l.length c k (by omega) h5
     obtain ⟨b,o,hao,hcell⟩:∃ b o,ao=some ⟨b,o,none⟩∧∀ j u,(cellsOf ah l)[j]?=some u→w.cell? ⟨b,o+j,none⟩=some u:=by
      rcases h2 with h0 | h0
      · have:=congrArg List.length h0
        rw [aI,List.length_nil] at this;omega
      · exact h0
     have hbG:b=G:=h3 _ hao;have HH:=wB h1;have HK:=wB (aJ w R 0 (.slice ao2 (l.length - k) c2))
     have HE:=wB (show pd w R G k (some l) (.returned (.slice ao k c1)) (w.setCell ⟨R,0,none⟩ (.slice ao2 (l.length - k) c2)) from by
      refine ⟨HK.out,?_,?_⟩
      · simp only [wQ,htk,Option.map_some]
        refine ⟨ao2,c2,?_,(hr2 w l rfl h2).keep HK.out (fun b' o' hb hX=>?_),fun a' hb=>?_,h4.drop k,by rw [xt];exact hc2,by rw [xt];omega⟩
        · rw [xt]
          exact ae h1 0 _
        · obtain ⟨a,h9,h10⟩:=hb2 _ hb
          have h11:=h3 a h9;rw [h10] at h11;exact hRG (by rw [←hX];exact h11)
        · obtain ⟨a,h9,h10⟩:=hb2 a' hb
          rw [←h10];exact h3 a h9
      · simp only [wQ,htk]
        refine ⟨b,o,c1,by rw [hao],hc1,fun j u hu=>HK.out.cell (hcell j u ?_) (by show ¬ b=R;rw [hbG];exact fun e=>hRG e.symm)⟩;have hj:j<k:=by have:=(List.getElem?_eq_some_iff.1 hu).1;rw [aI,List.length_take] at this;omega
        have hjl:j<l.length:=by omega
        rw [show j=j*1+0 by omega,ei ah 1 dC (l.take k) j (l[j]) (by rw [List.getElem?_take,if_pos hj];exact wE hjl) 0 (by omega)] at hu;rw [show j=j*1+0 by omega,ei ah 1 dC l j (l[j]) (wE hjl) 0 (by omega)];exact hu)
     obtain ⟨g0,g1,g2,gf⟩:=cells3 h1;have b1:decide ((l.length:Int)<(k:Int))=false:=decide_eq_false (by omega);have q1:=hs1;have q2:=hs2;clear h1 h2 h3 h4 hr2 hb2 hcell hbG hao hs1 hs2;go_enter Tryz.func182,Tryz.ntmps182
     go_wp2_with fail
     go_ret
     exact HE.out
end Go.Proofs.YtcaicgipibcicaaGreat
