/- A new reader of bytes; the gate at its end. -/
import Derived.Test.YtcaicgipibcicaaGreatQRdR
import Derived.Test.YtcaicgipibcicaaGreatQAuRef6
import Derived.Test.YtcaicgipibcicaaGreatQRecCk2
set_option maxRecDepth 100000
set_option maxHeartbeats 8000000
set_option linter.unusedSimpArgs false
set_option linter.unusedVariables false
open Go renaming all_oneCell_toArray→xz,heap_alloc_new→wF,wpList_store_mid→xG
open Go.Lib renaming hid→wB
open Go.RowKit.Below renaming refl→wI
open Go.World renaming rangeAt_setCells_same→wT
open Nat renaming le_refl→wC
namespace Go.Proofs.YtcaicgipibcicaaGreat
open Go.RowKit Go.Sort
theorem uB (w:World) (g R G:Nat) (h:GtR w g R G none) :
 Calls Tryz.prog 157 #[.pointer (some ⟨g,0,none⟩)] w fun e w'=>e = .returned (.bool true)∧GtR w' g R G none∧Keep (fun k=>k=g) w w'∧∃ bad,bad≠0∧w'.heap[g]?=some (.cells #[.pointer none,.pointer (some ⟨R,0,none⟩),.int .i64 bad] 147 (0,0)):=by
 obtain ⟨bad,s',h1,h2,h3,h4,h5⟩:=h
 have h6:bad≠0∨s'=none:=by
  rcases h5 with ⟨l,h,_⟩ | ⟨_,h⟩
  · cases h
  · exact h
 have HB:=wB h1;have HR:=wB h2;have HN:=wB h3;have HG:=wB h4;have HS:=wB h6;obtain ⟨g0,g1,g2,gf⟩:=cells3 h1;have hgl:=lt_of_block h1;clear h1 h2 h3 h4 h5 h6;by_cases hb:bad=0
 · have b1:(bad==0)=true:=by simp [hb]
   have HSN:=wB (show s'=none from by rcases HS.out with h | h;exact absurd hb h;exact h);clear hb;go_enter Tryz.func157,Tryz.ntmps157
   go_wp2_with fail
   refine (pu w R G s' HR.out).mono ?_;rintro e w2 ⟨er,rfl,he,rfl⟩;have HER:=wB (show er≠0 from fun e0=>(he.1 e0) HSN.out);have HK:=wB (aJ w2 g 2 (.int .i64 er));have HQ:=wB (ae HB.out 2 (.int .i64 er));have b2:(er != 0)=true:=by simp [HER.out]
   have HF:=wB (show GtR (w2.setCell ⟨g,2,none⟩ (.int .i64 er)) g R G none from
    ⟨er,s',HQ.out,HR.out.keep HK.out (fun e=>HN.out.1 e.symm) (fun e=>HN.out.2.1 e.symm),HN.out,by simpa using HG.out,.inr ⟨rfl,.inl HER.out⟩⟩)
   clear he;go_wp2_with fail
   go_ret
   exact ⟨rfl,HF.out,HK.out,er,HER.out,HQ.out⟩
 · have b1:(bad==0)=false:=by simp [hb]
   have b2:(bad != 0)=true:=by simp [hb]
   have HF:=wB (show GtR w g R G none from ⟨bad,s',HB.out,HR.out,HN.out,HG.out,.inr ⟨rfl,.inl hb⟩⟩);have HBD:=wB hb;clear hb;go_enter Tryz.func157,Tryz.ntmps157
   go_wp2_with fail
   go_ret
   exact ⟨rfl,HF.out,Keep.refl _ _,bad,HBD.out,HB.out⟩
theorem rB (w:World) (g R G:Nat) (s:Option (List Int)) (h:GtR w g R G s) :
 Calls Tryz.prog 120 #[.pointer (some ⟨g,0,none⟩)] w fun e w'=>∃ er:Int,e = .returned (.int .i64 er)∧rF s er∧GtR w' g R G s∧Keep (fun k=>k=g) w w':=by
 have H:=wB h;clear h;cases s with
 | none=>
   go_enter Tryz.func120,Tryz.ntmps120
   go_wp2_with fail
   refine (uB w g R G H.out).mono ?_;rintro e w2 ⟨rfl,hg2,hk2,bad,hbad,hb⟩;have HE:=wB (And.intro hg2 (And.intro hk2 hbad));obtain ⟨g0,g1,g2,gf⟩:=cells3 hb;clear hg2 hk2 hbad hb;go_wp2_with fail
   go_ret
   exact ⟨bad,rfl,⟨fun e=>absurd e HE.out.2.2,fun e=>by cases e⟩,HE.out.1,HE.out.2.1⟩
 | some l=>
   go_enter Tryz.func120,Tryz.ntmps120
   go_wp2_with fail
   refine (c7 w g R G (some l) H.out).mono ?_;rintro e w2 ⟨rfl,hg2,hk2⟩;have HE:=wB (And.intro hg2 hk2);obtain ⟨bad2,s2,hb2,hr2,hn2,hG2,⟨l',h1,rfl,rfl⟩ | ⟨h1,_⟩⟩:=hg2
   · cases h1
     obtain ⟨g0,g1,g2,gf⟩:=cells3 hb2;have HR2:=wB hr2;clear hb2 hr2 hn2 hk2;go_wp2_with fail
     refine (qV w2 R G (some l) HR2.out).mono ?_;rintro e w3 ⟨er,rfl,he,rfl⟩;have HEI:=wB he;clear he;go_wp2_with fail
     go_ret
     exact ⟨er,rfl,HEI.out,HE.out.1,HE.out.2⟩
   · cases h1
def mR (w:World) (l:List Int) (e:Ending) (w':World):Prop:=
 ∃ R G,e = .returned (.pointer (some ⟨R,0,none⟩))∧Below w.heap.size w w'∧RdS w' R G (some l)∧w.heap.size≤R∧w.heap.size≤G∧R≠G∧G<w'.heap.size
theorem ez (w:World) (ao:Option Addr) (n cap:Nat) (l:List Int) (hn:l.length=n) (hr:RdC w ao (cellsOf ah l)) (hb:Byt l) (hm:n≤1000000000) :
 Calls Tryz.prog 119 #[.slice ao n cap] w (mR w l):=by
 obtain ⟨i5,hi,hz0,hz1,hz2⟩:=dF (show (Tryz.prog.info? 5).map (fun i=>(i.zero,i.size,i.bytes))=some (some (.int .u8 0),1,1) by kernel_rfl);have hinfo:(Tryz.prog.info? 5).map (·.size)=some 1:=by rw [hi];simp [hz1]
 obtain ⟨M,hM⟩:∃ M,M=madeCells (Value.int .u8 0).cells (((n:Nat):Int).toNat*i5.size):=⟨_,rfl⟩;have hMs:M.size=n:=by rw [hM,size_madeCells,hz1];simp
 have hmk:∀ W:World,(Instr.makeSlice 59 (.int .i64 (n:Int)) (.int .i64 (n:Int))).run Tryz.prog W = .ok (.slice (some ⟨W.heap.size,0,none⟩) n n) (W.alloc (.cells M 5)):=fun W=>by
  have h:=run_make (P:=Tryz.prog) W 59 5 i5 (.int .u8 0) Tryz.underlying59 hi hz0 .i64 .i64 (n:Int) (n:Int) (by omega) (by omega) (by rw [hz2];omega) (by omega);rw [←hM] at h
  simpa using h
 clear hM;have hlen:(cellsOf ah l).length=n:=by rw [aI,hn]
 obtain ⟨W2,hcp,hgY,hb2⟩:∃ W2,(∀ ty,(Builtin.copy_ #[59,59] ty #[.slice (some ⟨w.heap.size,0,none⟩) n n,.slice ao n cap]).run Tryz.prog (w.alloc (.cells M 5)) = .ok (goInt n) W2)∧W2.heap[w.heap.size]?=some (.cells (cellsOf ah l).toArray 5 (0,0))∧Below w.heap.size (w.alloc (.cells M 5)) W2:=by
  rcases hr with h0 | ⟨b,o,rfl,hsrc⟩
  · have hn0:n=0:=by rw [←hlen,h0];rfl
    subst hn0;refine ⟨_,fun ty=>run_copy_none (P:=Tryz.prog) _ 59 59 ty 5 _ ao 0 0 0 cap Tryz.underlying59 hinfo rfl,?_,wI _ _⟩;rw [wF,h0];have:M=#[]:=Array.eq_empty_of_size_eq_zero hMs;rw [this]
  · refine ⟨(w.alloc (.cells M 5)).setRow w.heap.size (cellsOf ah l).toArray,fun ty=>?_,setRow_heap _ _ M _ 5 (0,0) (wF w _),⟨rfl,rfl,rfl,by simp,fun k hk=>setRow_other _ _ _ _ (by omega)⟩⟩
    have h:=run_copy_row (P:=Tryz.prog) (w.alloc (.cells M 5)) 59 59 ty 5 w.heap.size 0 n n ⟨b,o,none⟩ n cap M 5 (cellsOf ah l) Tryz.underlying59 hinfo (wF w _) (by rw [hlen];simp [Nat.min_def])
     (fun j u hu=>by
       have hadd:(⟨b,o,none⟩:Addr).add j=⟨b,o+j,none⟩:=by unfold Addr.add;split <;> simp_all
       rw [hadd];exact (Keep.alloc (fun _=>False) w (.cells M 5)).cell (hsrc j u hu) id) (by omega) (di ah eE l)
    rw [hlen] at h;rw [h,List.take_zero,List.nil_append,List.drop_of_length_le (by rw [Array.length_toList];omega),List.append_nil]
 have hb1:Below w.heap.size w W2:=((wI _ w).alloc (wC _) (.cells M 5)).trans hb2;have hlt:=lt_of_block hgY
 have HE:=wB (show mR w l (.returned (.pointer (some ⟨W2.heap.size,0,none⟩))) (W2.alloc (.cells #[.slice (some ⟨w.heap.size,0,none⟩) n n,.int .i64 0,.bool true] 226)) from by
  have hb3:=(wI W2.heap.size W2).alloc (wC _) (.cells #[.slice (some ⟨w.heap.size,0,none⟩) n n,.int .i64 0,.bool true] 226);have hrow:=(Keep.of_below hb3 (wC _) (fun _=>False)).old hgY id;refine ⟨W2.heap.size,w.heap.size,rfl,Below.next hb1 hb3,⟨some ⟨w.heap.size,0,none⟩,n,?_,?_,fun a e=>by cases e;rfl,hb,by omega,by omega⟩,hb1.size,wC _,by omega,by simp;omega⟩
  · show fq _ _ _ l.length _ _
    rw [hn];exact wF W2 _
  · refine .inr ⟨_,0,rfl,fun j u hu=>?_⟩
    rw [Nat.zero_add,cell_of_row _ _ _ _ _ (0,0) hrow]
    simpa using hu)
 have hcp2:=hcp 3;clear hb1 hb2 hgY hr hb hcp hlt hn;go_enter Tryz.func119,Tryz.ntmps119
 go_wp2_with fail
 go_ret
 exact HE.out
theorem results_cell_tmp {P:Program} {fn:Func} {tmps:Array Value} {w:World} (a b:Nat) (t:TypeId) (hr:fn.results=#[.cell a t,.tmp b]) (H:Nat) (ha:tmps.getD a undef = .pointer (some ⟨H,0,none⟩)) (v2:Value) (hb:tmps.getD b undef=v2) (cs:List Value) (V:Array Value) (hV:cs.toArray=V) (d:TypeDesc)
 (hc:w.rangeAt H 0 cs) (hu:P.underlying t=some d) (hd:(match d with | .struct _ | .array _ _=>true | _=>false)=true) (hi:(P.info? t).map (·.size)=some cs.length):(results fn tmps).run P w = .ok (.tuple #[.agg V,v2]) w:=by
 have h:=aZ (P:=P) w H 0 t cs d hc hu hd hi;rw [hV] at h;unfold results;rw [hr];rw [Array.getD_eq_getD_getElem?] at ha hb;simp [ha,hb,asAddr,Sem.run_bind,h]
def oY:RV:=⟨⟨0,[],[],0,0,[],[],[],[]⟩,none,0,0,none,0,0,none,0,0,none,0,0,none,0,0,none,0,0⟩
def vW (w:World) (l:List Int) (e:Ending) (w':World):Prop:=
 Below w.heap.size w w'∧∃ (v:RV) (er:Int),e = .returned (.tuple #[.agg #[.int .i64 v.x.tick,.slice v.wo v.wn v.wc,.slice v.ko v.kn v.kc,.int .i64 v.x.rows,.int .i64 v.x.cols,.slice v.eo v.en v.ec,.slice v.po v.pn v.pc,.slice v.yo v.yn v.yc,.slice v.zo v.zn v.zc],.int .i64 er])∧
  match gk l with
  | some x=>er=0∧v.x=x∧v.In w'∧v.Zone w.heap.size w'.heap.size
  | none=>er≠0
theorem step_end {l:List Int} {s:Option (List Int)} {x:aw} {er:Int} (h:Step pt (some l) s x) (he:rF s er):(er=0→pt l=some (x,[]))∧(er≠0→gk l=none):=by
 obtain ⟨h1,h2⟩:=h;simp only [Option.bind_some] at h1 h2;cases hp:pt l with
 | none=>
   rw [hp] at h1;subst h1;refine ⟨fun e=>?_,fun _=>by simp [gk,hp]⟩;have:=he.1 e;cases this
 | some y=>
   obtain ⟨y,r⟩:=y;rw [hp] at h1;have:=h2 y r hp;subst this h1;refine ⟨fun e=>?_,fun e=>?_⟩
   · have:=he.1 e
     simp at this;rw [this]
   · cases r with
     | nil=>exact absurd (he.2 rfl) e
     | cons b r=>simp [gk,hp]
theorem RV.Zone.wide {N M N' M':Nat} {v:RV} (h:v.Zone N M) (h1:N'≤N) (h2:M≤M'):v.Zone N' M':=fun X w w' hi hk hx=>h X w w' hi hk (fun k hk=>by have:=hx k hk;omega)
theorem decode_any (w:World) (ao:Option Addr) (n cap:Nat) (l:List Int) (hn:l.length=n) (hr:RdC w ao (cellsOf ah l)) (hb:Byt l) (hm:n≤1000000000) :
 Calls Tryz.prog 121 #[.slice ao n cap] w (vW w l):=by
 have HB0:=wB ((wI w.heap.size w).alloc (wC _) (.cells #[.int .i64 0,.slice none 0 0,.slice none 0 0,.int .i64 0,.int .i64 0,.slice none 0 0,.slice none 0 0,.slice none 0 0,.slice none 0 0] 34));have HT0:=wB (wF w (.cells #[.int .i64 0,.slice none 0 0,.slice none 0 0,.int .i64 0,.int .i64 0,.slice none 0 0,.slice none 0 0,.slice none 0 0,.slice none 0 0] 34));have HR0:=wB (hr.below HB0.out);have HN:=wB hn;have HBY:=wB hb;clear hn hr hb;go_enter Tryz.func121,Tryz.ntmps121
 go_upto_region 1 with fail
 generalize w.alloc (.cells #[.int .i64 0,.slice none 0 0,.slice none 0 0,.int .i64 0,.int .i64 0,.slice none 0 0,.slice none 0 0,.slice none 0 0,.slice none 0 0] 34)=W0 at *;obtain ⟨B0,hB0⟩:∃ B0,w.heap.size=B0:=⟨_,rfl⟩;have HSZ:=wB hB0;rw [hB0];rw [hB0] at HT0 HB0;clear hB0;have HL0:=wB (lt_of_block HT0.out);go_wp2_with fail
 refine (ez W0 ao n cap l HN.out HR0.out HBY.out hm).mono ?_;rintro e w1 ⟨R,G,rfl,hb1,hrd,hR,hG,hRG,hGlt⟩;have HT1:=wB ((Keep.of_below hb1 (wC _) (fun _=>False)).old HT0.out id);have HL1:=wB hb1.size;obtain ⟨g,hg⟩:∃ g,w1.heap.size=g:=⟨_,rfl⟩
 have HG2:=wB (show GtR (w1.alloc (.cells #[.pointer none,.pointer (some ⟨R,0,none⟩),.int .i64 0] 147)) g R G (some l) from by
  have hk:=Keep.alloc (fun _=>False) w1 (.cells #[.pointer none,.pointer (some ⟨R,0,none⟩),.int .i64 0] 147);have hlr:=hrd.lt;refine ⟨0,some l,by rw [←hg];exact wF w1 _,hrd.keep hk id id,⟨by omega,by omega,hRG⟩,by simp;omega,.inl ⟨l,rfl,rfl,rfl⟩⟩)
 have HK2:=wB (show Keep (fun _=>False) w1 (w1.alloc (.cells #[.pointer none,.pointer (some ⟨R,0,none⟩),.int .i64 0] 147)) from Keep.alloc (fun _=>False) w1 _);have HS2:=wB (show (w1.alloc (.cells #[.pointer none,.pointer (some ⟨R,0,none⟩),.int .i64 0] 147)).heap.size=g+1 from by rw [←hg];simp);have HRG:=wB (show R<g∧G<g∧W0.heap.size≤R∧W0.heap.size≤G from ⟨by rw [←hg];exact hrd.lt,by rw [←hg];exact hGlt,hR,hG⟩);have HB1:=wB hb1;have HGE:=wB hg;clear hb1 hrd hR hG hRG hGlt;go_upto_region 3 with fail
 generalize w1.alloc (.cells #[.pointer none,.pointer (some ⟨R,0,none⟩),.int .i64 0] 147)=W2 at *;have HK3:=wB (Keep.alloc (fun _=>False) W2 (.cells #[.int .i64 0,.slice none 0 0,.slice none 0 0,.int .i64 0,.int .i64 0,.slice none 0 0,.slice none 0 0,.slice none 0 0,.slice none 0 0] 34));have HT3:=wB (show (W2.alloc (.cells #[.int .i64 0,.slice none 0 0,.slice none 0 0,.int .i64 0,.int .i64 0,.slice none 0 0,.slice none 0 0,.slice none 0 0,.slice none 0 0] 34)).heap[g+1]?=some (.cells #[.int .i64 0,.slice none 0 0,.slice none 0 0,.int .i64 0,.int .i64 0,.slice none 0 0,.slice none 0 0,.slice none 0 0,.slice none 0 0] 34 (0,0)) from by rw [←HS2.out];exact wF W2 _);have HG3:=wB (HG2.out.keep HK3.out id id id);have HS3:=wB (show (W2.alloc (.cells #[.int .i64 0,.slice none 0 0,.slice none 0 0,.int .i64 0,.int .i64 0,.slice none 0 0,.slice none 0 0,.slice none 0 0,.slice none 0 0] 34)).heap.size=g+2 from by simp [HS2.out]);generalize W2.alloc (.cells #[.int .i64 0,.slice none 0 0,.slice none 0 0,.int .i64 0,.int .i64 0,.slice none 0 0,.slice none 0 0,.slice none 0 0,.slice none 0 0] 34)=W3 at *;clear hg;have HB3:=wB (show Below B0 w W3 from (HB0.out.trans (HB1.out.mono (by have:=HL0.out;omega))).trans ((HK2.out.trans HK3.out (Z:=fun _=>False) (fun _ _ h=>h) (fun _ _ h=>h)).below (by have:=HL0.out;have:=HL1.out;omega) (fun _ _ h=>h)));have HT03:=wB (HK3.out.old (HK2.out.old HT1.out id) id);clear HK2 HK3 HG2 HS2 HT1 HB1 HT0 HR0 HB0;go_wp2_with fail
 refine (sU W3 g R G (g+1) (some l) HG3.out HT3.out (by have:=HRG.out;omega)).mono ?_;rintro e w4 ⟨rfl,v,s4,hrec⟩;have HREC:=wB hrec;clear hrec;go_wp2_with fail
 refine (rB w4 g R G s4 HREC.out.gate).mono ?_;rintro e w5 ⟨er,rfl,hE,hg5,hk5⟩;have HSE:=wB (step_end HREC.out.step hE);have HIN5:=wB (HREC.out.zone _ _ _ HREC.out.ins hk5 (fun k hk=>by have:=HS3.out;omega));have HCE:=wB (fun (j:Nat) (u:Value) (hu:v.cells[j]?=some u)=>show w5.cell? ⟨g+1,0+j,none⟩=some u from hk5.cell (HREC.out.cells j u hu) (by show ¬ g+1=g;omega));have HT5:=wB (hk5.old (HREC.out.keep.old HT03.out (by have:=HL0.out;have:=HL1.out;have:=HRG.out;have:=HGE.out;show ¬ (B0=g∨B0=R∨B0=g+1);omega)) (by have:=HL0.out;have:=HL1.out;have:=HGE.out;omega));have HB5:=wB ((HB3.out.trans (HREC.out.keep.below (by have:=HB3.out.size;have:=HSZ.out;omega) (fun i hi he=>by have:=HL0.out;have:=HL1.out;have:=HRG.out;have:=HGE.out;rcases he with he | he | he <;> omega))).trans (hk5.below (by have h1:=HB3.out.size;have h2:=HREC.out.keep.size;have h3:=HSZ.out;omega) (fun i hi he=>by have:=HL0.out;have:=HL1.out;have:=HGE.out;omega)));have HZ5:=wB (show v.Zone (B0+1) w5.heap.size from HREC.out.zone.wide (by have:=HL0.out;have:=HL1.out;have:=HGE.out;have:=HS3.out;omega) hk5.size);clear hE hg5 hk5 HREC HT03 HB3 HG3 HT3;have sz_rec':(Tryz.prog.info? 34).map (·.size)=some (#[.int .i64 0,.slice none 0 0,.slice none 0 0,.int .i64 0,.int .i64 0,.slice none 0 0,.slice none 0 0,.slice none 0 0,.slice none 0 0]:Array Value).size:=da
 by_cases he:er=0
 · have HP:=wB (HSE.out.1 he)
   subst he;go_wp2_with (first | ((with_reducible refine ad (o:=⟨some 17,_,_,_,_,_⟩) ?_ 34 (.tmp 5) ?_ (g+1) 0 ?_ v.cells #[.int .i64 v.x.tick,.slice v.wo v.wn v.wc,.slice v.ko v.kn v.kc,.int .i64 v.x.rows,.int .i64 v.x.cols,.slice v.eo v.en v.ec,.slice v.po v.pn v.pc,.slice v.yo v.yn v.yc,.slice v.zo v.zn v.zc] ?_ _ HCE.out Tryz.underlying34 ?_ ?_ ?_);rfl;rfl;rfl;rfl;rfl;exact da))
   refine (ma w5 v HIN5.out).mono ?_;rintro e w6 ⟨rfl,hb6⟩;have HIN6:=wB (HIN5.out.keep hb6);have hk6:=Keep.of_below hb6 (wC _) (fun _=>False);have HCE6:=wB (fun (j:Nat) (u:Value) (hu:v.cells[j]?=some u)=>show w6.cell? ⟨g+1,0+j,none⟩=some u from hk6.cell (HCE.out j u hu) id);have HT6:=wB (hk6.old HT5.out id);have HB6:=wB (HB5.out.trans (hk6.below (by have:=HB5.out.size;have:=HSZ.out;omega) (fun _ _ h=>h)));have HZ6:=wB (HZ5.out.wide (wC _) hk6.size);clear hb6 hk6 HCE HIN5 HT5 HB5 HZ5;by_cases hrc:bh v.x=0
   · have b1:(bh v.x != 0)=false:=by simp [hrc]
     have HDF:=wB (show gk l=some v.x from by simp [gk,HP.out,hrc]);clear hrc;have HTH:=wB (show w6.there B0 0 (#[.int .i64 v.x.tick,.slice v.wo v.wn v.wc,.slice v.ko v.kn v.kc,.int .i64 v.x.rows,.int .i64 v.x.cols,.slice v.eo v.en v.ec,.slice v.po v.pn v.pc,.slice v.yo v.yn v.yc,.slice v.zo v.zn v.zc]:Array Value).size from aP HT6.out (wC 9));have sz_rec2:(Tryz.prog.info? 34).map (·.size)=some (#[.int .i64 v.x.tick,.slice v.wo v.wn v.wc,.slice v.ko v.kn v.kc,.int .i64 v.x.rows,.int .i64 v.x.cols,.slice v.eo v.en v.ec,.slice v.po v.pn v.pc,.slice v.yo v.yn v.yc,.slice v.zo v.zn v.zc]:Array Value).size:=da
     go_wp2_with (first | ((with_reducible refine ad (o:=⟨some 23,_,_,_,_,_⟩) ?_ 34 (.tmp 5) ?_ (g+1) 0 ?_ v.cells #[.int .i64 v.x.tick,.slice v.wo v.wn v.wc,.slice v.ko v.kn v.kc,.int .i64 v.x.rows,.int .i64 v.x.cols,.slice v.eo v.en v.ec,.slice v.po v.pn v.pc,.slice v.yo v.yn v.yc,.slice v.zo v.zn v.zc] ?_ _ HCE6.out Tryz.underlying34 ?_ ?_ ?_);rfl;rfl;rfl;rfl;rfl;exact da) | ((with_reducible refine xG (op:=⟨none,.store 34 (.tmp 2) (.tmp 23),_,_,_,_⟩) ?_ 34 (.tmp 2) (.tmp 23) ?_ B0 0 #[.int .i64 v.x.tick,.slice v.wo v.wn v.wc,.slice v.ko v.kn v.kc,.int .i64 v.x.rows,.int .i64 v.x.cols,.slice v.eo v.en v.ec,.slice v.po v.pn v.pc,.slice v.yo v.yn v.yc,.slice v.zo v.zn v.zc] ?_ ?_ HTH.out sz_rec2 ?_ ?_);rfl;rfl;rfl;rfl;exact xz (RV.cells_one v)))
     have HKF:=wB (Keep.setCells w6 B0 0 v.cells);exact bodyPost_ret (v:=.tuple #[.agg #[.int .i64 v.x.tick,.slice v.wo v.wn v.wc,.slice v.ko v.kn v.kc,.int .i64 v.x.rows,.int .i64 v.x.cols,.slice v.eo v.en v.ec,.slice v.po v.pn v.pc,.slice v.yo v.yn v.yc,.slice v.zo v.zn v.zc],.int .i64 0]) (results_cell_tmp 2 3 34 Tryz.results121 B0 rfl _ rfl v.cells _ rfl _ (wT w6 B0 0 v.cells HTH.out) Tryz.underlying34 rfl da) rfl ⟨by rw [HSZ.out];exact HB6.out.trans (HKF.out.below (by have:=HB6.out.size;have:=HSZ.out;omega) (fun i hi he=>by omega)),v,0,rfl,by rw [HDF.out,HSZ.out];exact ⟨rfl,rfl,HZ6.out _ _ _ HIN6.out HKF.out (fun k hk=>by omega),HZ6.out.wide (Nat.le_succ _) HKF.out.size⟩⟩
   · have b1:(bh v.x != 0)=true:=by simp [hrc]
     have HDF:=wB (show gk l=none from by simp [gk,HP.out,hrc]);have HER:=wB hrc;clear hrc;have HTH:=wB (show w6.there B0 0 (#[.int .i64 0,.slice none 0 0,.slice none 0 0,.int .i64 0,.int .i64 0,.slice none 0 0,.slice none 0 0,.slice none 0 0,.slice none 0 0]:Array Value).size from aP HT6.out (wC 9));go_wp2_with (first | ((with_reducible refine xG (op:=⟨none,.store 34 (.tmp 2) (.tmp 21),_,_,_,_⟩) ?_ 34 (.tmp 2) (.tmp 21) ?_ B0 0 #[.int .i64 0,.slice none 0 0,.slice none 0 0,.int .i64 0,.int .i64 0,.slice none 0 0,.slice none 0 0,.slice none 0 0,.slice none 0 0] ?_ ?_ HTH.out sz_rec' ?_ ?_);rfl;rfl;rfl;rfl;exact xz (RV.cells_one oY)))
     exact bodyPost_ret (v:=.tuple #[.agg #[.int .i64 0,.slice none 0 0,.slice none 0 0,.int .i64 0,.int .i64 0,.slice none 0 0,.slice none 0 0,.slice none 0 0,.slice none 0 0],.int .i64 (bh v.x)]) (results_cell_tmp 2 3 34 Tryz.results121 B0 rfl _ rfl oY.cells _ rfl _ (wT w6 B0 0 oY.cells HTH.out) Tryz.underlying34 rfl da) rfl ⟨by rw [HSZ.out];exact HB6.out.trans ((Keep.setCells w6 B0 0 _).below (by have:=HB6.out.size;have:=HSZ.out;omega) (fun i hi he=>by omega)),oY,(bh v.x),rfl,by rw [HDF.out];exact HER.out⟩
 · have b1:(er==0)=false:=by simp [he]
   have b2:(er != 0)=true:=by simp [he]
   have HDF:=wB (HSE.out.2 he);have HER:=wB he;have HT6:=HT5;have HB6:=HB5;clear he;have HTH:=wB (show w5.there B0 0 (#[.int .i64 0,.slice none 0 0,.slice none 0 0,.int .i64 0,.int .i64 0,.slice none 0 0,.slice none 0 0,.slice none 0 0,.slice none 0 0]:Array Value).size from aP HT6.out (wC 9));go_wp2_with (first | ((with_reducible refine xG (op:=⟨none,.store 34 (.tmp 2) (.tmp 21),_,_,_,_⟩) ?_ 34 (.tmp 2) (.tmp 21) ?_ B0 0 #[.int .i64 0,.slice none 0 0,.slice none 0 0,.int .i64 0,.int .i64 0,.slice none 0 0,.slice none 0 0,.slice none 0 0,.slice none 0 0] ?_ ?_ HTH.out sz_rec' ?_ ?_);rfl;rfl;rfl;rfl;exact xz (RV.cells_one oY)))
   exact bodyPost_ret (v:=.tuple #[.agg #[.int .i64 0,.slice none 0 0,.slice none 0 0,.int .i64 0,.int .i64 0,.slice none 0 0,.slice none 0 0,.slice none 0 0,.slice none 0 0],.int .i64 er]) (results_cell_tmp 2 3 34 Tryz.results121 B0 rfl _ rfl oY.cells _ rfl _ (wT w5 B0 0 oY.cells HTH.out) Tryz.underlying34 rfl da) rfl ⟨by rw [HSZ.out];exact HB6.out.trans ((Keep.setCells w5 B0 0 _).below (by have:=HB6.out.size;have:=HSZ.out;omega) (fun i hi he=>by omega)),oY,er,rfl,by rw [HDF.out];exact HER.out⟩
end Go.Proofs.YtcaicgipibcicaaGreat
