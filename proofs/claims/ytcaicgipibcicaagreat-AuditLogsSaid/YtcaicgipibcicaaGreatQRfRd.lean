/- The reference's Read of a log. -/
import Derived.Test.YtcaicgipibcicaaGreatQRfC2
import Derived.Test.YtcaicgipibcicaaGreatQRfDc
import Derived.Test.YtcaicgipibcicaaGreatQRdRg
import Derived.Test.YtcaicgipibcicaaGreatQRdJ
set_option maxRecDepth 100000
set_option maxHeartbeats 16000000
set_option linter.unusedSimpArgs false
set_option linter.unusedVariables false
open Go renaming all_oneCell_toArray→yU,bodyPost_ret→yS,cell_of_row→yI,heap_alloc_new→yE,wpList_store_mid→ze
open Go.Lib renaming hid→yA
open Go.World renaming rangeAt_setCells_same→yJ
open Nat renaming le_refl→yB,lt_of_lt_of_le→za
namespace Go.Proofs.YtcaicgipibcicaaGreat
open Go.RowKit Go.Sort
/- sliceI -/
theorem rh (ao:Option Addr) (k c lo:Nat) (h2:lo≤k) (h3:k≤c) :
 ∃ ao' c',(∀ w:World,(Instr.slice 59 (.slice ao k c) (some (.int .i64 (lo:Int))) none none).run Tryz.prog w = .ok (.slice ao' (k - lo) c') w)∧k - lo≤c'∧
  (∀ a',ao'=some a'→∃ a,ao=some a∧a.block=a'.block)∧∀ (w:World) (b:List Int),b.length=k→RdC w ao (cellsOf ai b)→RdC w ao' (cellsOf ai (b.drop lo)):=by
 have h5:¬ c<k:=by omega
 have h6:¬ k<lo:=by omega
 by_cases hc:c=lo
 · subst hc
   have:k=c:=by omega
   subst this;refine ⟨ao,0,fun w=>by go_simp,by omega,fun a' h=>⟨a',h,rfl⟩,fun w b hb hr=>?_⟩;left
   rw [List.drop_of_length_le (by omega)];rfl
 · refine ⟨ao.map (·.add lo),c - lo,fun w=>by go_simp,by omega,fun a' h=>?_,fun w b hb hr=>?_⟩
   · cases ao with
     | none=>simp at h
     | some a=>
       simp only [Option.map_some,Option.some.injEq] at h;refine ⟨a,rfl,?_⟩;rw [←h];unfold Addr.add;split <;> rfl
   · rcases hr with h0 | ⟨b',o,rfl,hcell⟩
     · left
       have:b=[]:=by
        have:=congrArg List.length h0;rw [aG] at this;exact List.eq_nil_of_length_eq_zero (by simpa using this)
       subst this;simp [cellsOf]
     · have hadd:(⟨b',o,none⟩:Addr).add lo=⟨b',o+lo,none⟩:=by unfold Addr.add;split <;> simp_all
       right
       refine ⟨b',o+lo,by simp [hadd],fun j u hu=>?_⟩;rw [eB,List.getElem?_drop] at hu;have:=hcell _ u hu;rwa [←Nat.add_assoc] at this
theorem cC {P:Program} {fn:Func} {tmps:Array Value} {w:World} (a b1 b2 b3 b4:Nat) (t:TypeId) (hr:fn.results=#[.cell a t,.tmp b1,.tmp b2,.tmp b3,.tmp b4]) (H:Nat) (ha:tmps.getD a undef = .pointer (some ⟨H,0,none⟩)) (v1 v2 v3 v4:Value) (h1:tmps.getD b1 undef=v1) (h2:tmps.getD b2 undef=v2) (h3:tmps.getD b3 undef=v3) (h4:tmps.getD b4 undef=v4) (cs:List Value) (V:Array Value) (hV:cs.toArray=V) (d:TypeDesc)
 (hc:w.rangeAt H 0 cs) (hu:P.underlying t=some d) (hd:(match d with | .struct _ | .array _ _=>true | _=>false)=true) (hi:(P.info? t).map (·.size)=some cs.length):(results fn tmps).run P w = .ok (.tuple #[.agg V,v1,v2,v3,v4]) w:=by
 have h:=bk (P:=P) w H 0 t cs d hc hu hd hi;rw [hV] at h;unfold results;rw [hr];rw [Array.getD_eq_getD_getElem?] at ha h1 h2 h3 h4;simp [ha,h1,h2,h3,h4,asAddr,Sem.run_bind,h]
def pF (w:World) (l0:List Int) (e:Ending) (w':World):Prop:=
 Below w.heap.size w w'∧∃ st:RSt,ff l0=st∧
  if st.pos=0 then ∃ (s:Int) (er:Int),e = .returned (.tuple #[.agg #[.int .i64 0,.int .i64 0,.int .i64 0,.int .i64 0,.int .i64 0],.slice none 0 0,.int .i64 0,.int .u32 s,.int .i64 er])∧er≠0
  else ∃ (ao:Option Addr) (cap:Nat) (vs:List RV) (s:Int),e = .returned (.tuple #[.agg #[.int .i64 st.c.q,.int .i64 st.c.d,.int .i64 st.c.w,.int .i64 st.c.ttl,.int .i64 st.c.b],.slice ao vs.length cap,.int .i64 (st.pos:Int),.int .u32 s,.int .i64 0])∧
   vs.map (·.x)=st.recs∧ew w.heap.size (.slice ao vs.length cap) vs w'∧st.pos≤l0.length
structure RrAt (w:World) (l0:List Int) (B CB lo:Nat) (st:RSt) (sa:Nat) (sv:Value) (vs:List RV) (wr:World):Prop where
 ra:RAt l0 (be4 sa) st
 ne:st.pos≠0
 map:vs.map (·.x)=st.recs
 len:vs.length≤st.pos
 tick:ar st.tick
 sa:sa<4294967296
 box:wr.heap[B]?=some (.cells #[.int .i64 0,.int .i64 0,.int .i64 0,.int .i64 0,.int .i64 0] 23 (0,0))
 conf:wr.heap[CB]?=some (.cells #[.int .i64 st.c.q,.int .i64 st.c.d,.int .i64 st.c.w,.int .i64 st.c.ttl,.int .i64 st.c.b] 23 (0,0))
 rs:ew lo sv vs wr
 below:Below w.heap.size w wr
theorem RrAt.keep {w:World} {l0:List Int} {B CB lo:Nat} {st:RSt} {sa:Nat} {sv:Value} {vs:List RV} {wr w':World} (h:RrAt w l0 B CB lo st sa sv vs wr) (hk:Keep (fun _=>False) wr w'):RrAt w l0 B CB lo st sa sv vs w':=
 ⟨h.ra,h.ne,h.map,h.len,h.tick,h.sa,hk.old h.box id,hk.old h.conf id,h.rs.keep hk (fun _ h=>h.elim),h.below.trans (hk.below h.below.size (fun _ _ h=>h))⟩
theorem uQ (w:World) (ao:Option Addr) (n cap:Nat) (l0:List Int) (G:Nat) (hn:l0.length=n) (hb:Byt l0) (hm:n≤1000000000) (hcap:n≤cap) (hr:RdC w ao (cellsOf ai l0)) (hG:∀ a,ao=some a→a.block=G) (hGl:G<w.heap.size) :
 Calls Tryz.prog 66 #[.slice ao n cap] w (pF w l0):=by
 have HN:=yA hn;have HBY:=yA hb;have HM:=yA hm;have HCP:=yA hcap;have HGG:=yA hG;have hb0:=(Below.refl w.heap.size w).alloc (yB _) (.cells #[.int .i64 0,.int .i64 0,.int .i64 0,.int .i64 0,.int .i64 0] 23);have HT0:=yA (yE w (.cells #[.int .i64 0,.int .i64 0,.int .i64 0,.int .i64 0,.int .i64 0] 23));have HB0:=yA hb0;have HR0:=yA (hr.below hb0);have HRW:=yA hr;have HGL:=yA (za hGl hb0.size);have HGW:=yA hGl;clear hn hb hm hcap hr hG hGl hb0;go_enter Tryz.func66,Tryz.ntmps66
 go_upto_region 1 with fail
 generalize w.alloc (.cells #[.int .i64 0,.int .i64 0,.int .i64 0,.int .i64 0,.int .i64 0] 23)=W at *;obtain ⟨B,hBE⟩:∃ B,w.heap.size=B:=⟨_,rfl⟩;have HBE:=yA hBE;rw [hBE] at HT0 ⊢;clear hBE;have HBW:=yA (lt_of_block HT0.out);go_wp2_with fail
 refine (oF W 0 (by omega) ao n cap l0 G HN.out HR0.out HBY.out HCP.out HM.out HGG.out).mono ?_;rintro e w1 ⟨hb1,hmt⟩;have HB1:=yA (Below.next HB0.out hb1);have HT1:=yA ((Keep.of_below hb1 (yB _) (fun _=>False)).old HT0.out id);have HGL1:=yA (za HGL.out hb1.size)
 have HZERO:=yA (fun (w':World) (s:Int) (hk:Keep (fun _=>False) w1 w') (hst:ff l0=ez)=>show pF w l0 (.returned (.tuple #[.agg #[.int .i64 0,.int .i64 0,.int .i64 0,.int .i64 0,.int .i64 0],.slice none 0 0,.int .i64 0,.int .u32 s,.int .i64 250])) (w'.setCells B 0 dB.cells) from
  ⟨(HB1.out.trans (hk.below HB1.out.size (fun _ _ h=>h))).trans ((Keep.setCells w' B 0 dB.cells).below (Nat.le_trans HB1.out.size hk.size) (fun i hi e=>by have:=HBE.out;omega)),ez,hst,by rw [if_pos (show ez.pos=0 from rfl)];exact ⟨s,250,rfl,by decide⟩⟩)
 have szc:(Tryz.prog.info? 23).map (·.size)=some (#[.int .i64 0,.int .i64 0,.int .i64 0,.int .i64 0,.int .i64 0]:Array Value).size:=aE
 cases hnx:bJ (be4 0) l0 with
 | none=>
   rw [hnx] at hmt;simp only at hmt;subst hmt;have HST:=yA ((RAt.first l0).stop (.inl (by show bJ (be4 0) (l0.drop 0)=none;rw [List.drop_zero];exact hnx)));clear hnx hb1;go_wp2_with fail
   refine (oH w1 none 0 0 [] G rfl (.inl rfl) (fun x hx=>by cases hx) (yB _) (by omega) (fun a h=>by cases h) HGL1.out).mono ?_;rintro e w2 ⟨hb2,c,ok,rfl,_,_⟩;have HK2:=yA ((Keep.of_below hb2 (yB _) (fun _=>False)).trans (Keep.alloc (fun _=>False) w2 (.cells #[.int .i64 c.q,.int .i64 c.d,.int .i64 c.w,.int .i64 c.ttl,.int .i64 c.b] 23)) (Z:=fun _=>False) (fun _ _ h=>h) (fun _ _ h=>h));have HTH:=yA (show (w2.alloc (.cells #[.int .i64 c.q,.int .i64 c.d,.int .i64 c.w,.int .i64 c.ttl,.int .i64 c.b] 23)).there B 0 (#[.int .i64 0,.int .i64 0,.int .i64 0,.int .i64 0,.int .i64 0]:Array Value).size from aw (HK2.out.old HT1.out id) (yB 5));clear hb2;go_wp2_with (first | ((with_reducible refine ah (o:=⟨none,.store 23 (.tmp 10) (.tmp 28),_,_,_,_⟩) ?_ 23 (.tmp 10) (.tmp 28) ?_ _ #[.int .i64 c.q,.int .i64 c.d,.int .i64 c.w,.int .i64 c.ttl,.int .i64 c.b] ?_ ?_ c.cells ?_ ?_ ?_ c.cells_one ?_);rfl;rfl;rfl;rfl;rfl;exact aE;rfl) | ((with_reducible refine ze (op:=⟨none,.store 23 (.tmp 2) (.tmp 36),_,_,_,_⟩) ?_ 23 (.tmp 2) (.tmp 36) ?_ B 0 #[.int .i64 0,.int .i64 0,.int .i64 0,.int .i64 0,.int .i64 0] ?_ ?_ HTH.out szc ?_ ?_);rfl;rfl;rfl;rfl;exact yU (dy ⟨0,0,0,0,0⟩)))
   exact yS (v:=.tuple #[.agg #[.int .i64 0,.int .i64 0,.int .i64 0,.int .i64 0,.int .i64 0],.slice none 0 0,.int .i64 0,.int .u32 0,.int .i64 250]) (cC 2 3 4 5 6 23 Tryz.results66 B rfl _ _ _ _ rfl rfl rfl rfl (ae.cells ⟨0,0,0,0,0⟩) _ rfl _ (yJ _ B 0 (ae.cells ⟨0,0,0,0,0⟩) HTH.out) Tryz.underlying23 rfl aE) rfl (HZERO.out _ 0 HK2.out HST.out)
 | some y=>
   obtain ⟨c,s⟩:=y;rw [hnx] at hmt;obtain ⟨co,cc,rfl,hcr,hcc,hcg⟩:=hmt;have hsp:=gX HBY.out hnx;have HCB:=yA (show Byt c from by rw [hsp.2.1];exact (HBY.out.drop 8).take _);have HSL:=yA (show s<4294967296 from by rw [hsp.2.2.2.1];exact jd _);obtain ⟨cn,hcn⟩:∃ cn,c.length=cn:=⟨_,rfl⟩;have hcl:cn+12≤n:=by have:=hsp.2.2.1;rw [hcn,HN.out] at this;exact this
   have HCN:=yA hcn;rw [hcn] at hcc ⊢;have HCR:=yA hcr;have HCC:=yA hcc;have HCG:=yA hcg;have HNX:=yA (show bJ (be4 0) (l0.drop ez.pos)=some (c,s) from by show bJ (be4 0) (l0.drop 0)=_;rw [List.drop_zero];exact hnx);have hm9:=HM.out;have b1:((cn:Int)+12==0)=false:=by simp;omega
   clear hsp hcn hcr hcc hcg hnx hb1;go_wp2_with fail
   refine (oH w1 co cn cc c G HCN.out HCR.out HCB.out HCC.out (by omega) HCG.out HGL1.out).mono ?_;rintro e w2 ⟨hb2,x,ok,rfl,hok,hno⟩;have HS12:=yA (za (lt_of_block HT1.out) hb2.size);have HK2:=yA ((Keep.of_below hb2 (yB _) (fun _=>False)).trans (Keep.alloc (fun _=>False) w2 (.cells #[.int .i64 x.q,.int .i64 x.d,.int .i64 x.w,.int .i64 x.ttl,.int .i64 x.b] 23)) (Z:=fun _=>False) (fun _ _ h=>h) (fun _ _ h=>h));have HTH:=yA (show (w2.alloc (.cells #[.int .i64 x.q,.int .i64 x.d,.int .i64 x.w,.int .i64 x.ttl,.int .i64 x.b] 23)).there B 0 (#[.int .i64 0,.int .i64 0,.int .i64 0,.int .i64 0,.int .i64 0]:Array Value).size from aw (HK2.out.old HT1.out id) (yB 5));clear hb2;cases ok with
   | false=>
     have HST:=yA ((RAt.first l0).stop (.inr ⟨c,s,HNX.out,by
      by_cases hq:∃ y,eT c=some (y,[])
      · obtain ⟨y,hq⟩:=hq
        rw [eH hq,if_neg (hno rfl y hq)]
      · exact fV (fun y hy=>hq ⟨y,hy⟩)⟩))
     clear hok hno;go_wp2_with (first | ((with_reducible refine ah (o:=⟨none,.store 23 (.tmp 10) (.tmp 28),_,_,_,_⟩) ?_ 23 (.tmp 10) (.tmp 28) ?_ _ #[.int .i64 x.q,.int .i64 x.d,.int .i64 x.w,.int .i64 x.ttl,.int .i64 x.b] ?_ ?_ x.cells ?_ ?_ ?_ x.cells_one ?_);rfl;rfl;rfl;rfl;rfl;exact aE;rfl) | ((with_reducible refine ze (op:=⟨none,.store 23 (.tmp 2) (.tmp 36),_,_,_,_⟩) ?_ 23 (.tmp 2) (.tmp 36) ?_ B 0 #[.int .i64 0,.int .i64 0,.int .i64 0,.int .i64 0,.int .i64 0] ?_ ?_ HTH.out szc ?_ ?_);rfl;rfl;rfl;rfl;exact yU (dy ⟨0,0,0,0,0⟩)))
     exact yS (v:=.tuple #[.agg #[.int .i64 0,.int .i64 0,.int .i64 0,.int .i64 0,.int .i64 0],.slice none 0 0,.int .i64 0,.int .u32 0,.int .i64 250]) (cC 2 3 4 5 6 23 Tryz.results66 B rfl _ _ _ _ rfl rfl rfl rfl (ae.cells ⟨0,0,0,0,0⟩) _ rfl _ (yJ _ B 0 (ae.cells ⟨0,0,0,0,0⟩) HTH.out) Tryz.underlying23 rfl aE) rfl (HZERO.out _ 0 HK2.out HST.out)
   | true=>
     have HST:=yA (show bm ez c=some ⟨cn+12,x,[],0⟩ from by
      rw [eH (hok.1 rfl).1,if_pos (hok.1 rfl).2,HCN.out])
     have HNA:=yA ((RAt.first l0).next HBY.out HNX.out HST.out);have HCBL:=yA (yE w2 (.cells #[.int .i64 x.q,.int .i64 x.d,.int .i64 x.w,.int .i64 x.ttl,.int .i64 x.b] 23));have HB2:=yA (HB1.out.trans (HK2.out.below HB1.out.size (fun _ _ h=>h)));have HT2:=yA (HK2.out.old HT1.out id);have HR2:=yA (HRW.out.below HB2.out);clear hok hno;go_upto_region 5 with (first | ((with_reducible refine ah (o:=⟨none,.store 23 (.tmp 10) (.tmp 28),_,_,_,_⟩) ?_ 23 (.tmp 10) (.tmp 28) ?_ _ #[.int .i64 x.q,.int .i64 x.d,.int .i64 x.w,.int .i64 x.ttl,.int .i64 x.b] ?_ ?_ x.cells ?_ ?_ ?_ x.cells_one ?_);rfl;rfl;rfl;rfl;rfl;exact aE;rfl))
     obtain ⟨CB,hCB⟩:∃ CB,w2.heap.size=CB:=⟨_,rfl⟩;have HCBE:=yA (show CB<(w2.alloc (.cells #[.int .i64 x.q,.int .i64 x.d,.int .i64 x.w,.int .i64 x.ttl,.int .i64 x.b] 23)).heap.size∧B<CB from ⟨by rw [←hCB];simp,by rw [←hCB];exact HS12.out⟩);rw [hCB] at HCBL;try rw [hCB]
     clear hCB b1;generalize w2.alloc (.cells #[.int .i64 x.q,.int .i64 x.d,.int .i64 x.w,.int .i64 x.ttl,.int .i64 x.b] 23)=W3 at *
     have HX0:=yA (show RrAt w l0 B CB (CB+1) ⟨cn+12,x,[],0⟩ s (.slice none 0 0) [] W3 from
      ⟨HNA.out,by show cn+12≠0;omega,rfl,Nat.zero_le _,gM,HSL.out,HT2.out,HCBL.out,ew.nil _ _,HB2.out⟩)
     go_wp2_with fail
     go_loopw [8,9,12,13] (fun p q sv t wr=>Hid (∃ (st:RSt) (sa:Nat) (vs:List RV),p = .int .i64 (st.pos:Int)∧q = .int .u32 (sa:Int)∧t = .int .i64 st.tick∧RrAt w l0 B CB (CB+1) st sa sv vs wr)) (fun p _ _ _ _=>n - (intOf p).toNat)
     case atStart=>exact yA ⟨_,s,[],rfl,rfl,rfl,HX0.out⟩
     case round=>
      obtain ⟨st,sa,vs,rfl,rfl,rfl,hrr⟩:=hrel.out;clear hrel HX0 HST HNA HTH HT2 HB2 HR2 HK2 HCBL HT0 HB0 HR0 HGL HBW HT1 HS12;have HRR:=yA hrr;have HGLR:=yA (za HGW.out hrr.below.size);have HRDR:=yA (HRW.out.below hrr.below);have hpn:st.pos≤n:=by have:=hrr.ra.le;rw [HN.out] at this;exact this
      have HSA:=yA hrr.sa;have HTI:=yA hrr.tick;have HSH:=yA hrr.rs.own.sl;have HNE:=yA hrr.ne;clear hrr;obtain ⟨ao',c',hsl,hsc,hsb,hsr⟩:=rh ao n cap st.pos hpn HCP.out;have HSC:=yA hsc;have HSR:=yA (hsr wr l0 HN.out HRDR.out)
      have HSG:=yA (show ∀ a,ao'=some a→a.block=G from fun a h=>by
       obtain ⟨a2,h1,h2⟩:=hsb a h;rw [←h2];exact HGG.out a2 h1)
      have HPN:=yA hpn;clear hsc hsb hsr;go_wp2_with fail
      refine (oF wr sa HSA.out ao' (n - st.pos) c' (l0.drop st.pos) G (by rw [List.length_drop,HN.out]) HSR.out (HBY.out.drop _) HSC.out (by have:=HM.out;omega) HSG.out).mono ?_;rintro e w3 ⟨hb3,hmt⟩;have HB3:=yA hb3;clear hb3 hsl;have HGL3:=yA (za HGLR.out HB3.out.size);have szk:(Tryz.prog.info? 23).map (·.size)=some (#[.int .i64 st.c.q,.int .i64 st.c.d,.int .i64 st.c.w,.int .i64 st.c.ttl,.int .i64 st.c.b]:Array Value).size:=aE
      have HFINW:=yA (fun (wX:World) (hk:Keep (fun _=>False) wr wX) (hex:ff l0=st)=>show pF w l0 (.returned (.tuple #[.agg #[.int .i64 st.c.q,.int .i64 st.c.d,.int .i64 st.c.w,.int .i64 st.c.ttl,.int .i64 st.c.b],u12,.int .i64 (st.pos:Int),.int .u32 (sa:Int),.int .i64 0])) (wX.setCells B 0 st.c.cells) from by
       have hX:=HRR.out.keep hk;have hkB:=Keep.setCells wX B 0 st.c.cells;obtain ⟨so,sc,rfl⟩:=HSH.out;refine ⟨hX.below.trans (hkB.below hX.below.size (fun i hi e=>by have:=HBE.out;omega)),st,hex,?_⟩;rw [if_neg hX.ne];exact ⟨so,sc,vs,sa,rfl,hX.map,((hX.rs.keep hkB (fun k e=>by have:=HCBE.out;omega)).low (by have:=HCBE.out;have:=HBE.out;omega)),hX.ra.le⟩)
      have HCFW:=yA (fun (wX:World) (hk:Keep (fun _=>False) wr wX) (j:Nat) (u:Value) (hu:st.c.cells[j]?=some u)=>show wX.cell? ⟨CB,0+j,none⟩=some u from by
       rw [Nat.zero_add,yI _ _ _ _ _ (0,0) (HRR.out.keep hk).conf,←hu];simp [ae.cells])
      have HTXW:=yA (fun (wX:World) (hk:Keep (fun _=>False) wr wX)=>show wX.there B 0 (#[.int .i64 st.c.q,.int .i64 st.c.d,.int .i64 st.c.w,.int .i64 st.c.ttl,.int .i64 st.c.b]:Array Value).size from aw (HRR.out.keep hk).box (yB 5));cases hnx:bJ (be4 sa) (l0.drop st.pos) with
      | none=>
        rw [hnx] at hmt;simp only at hmt;subst hmt;have HEX:=yA (HRR.out.ra.stop (.inl hnx));clear hnx;go_wp2_with fail
        refine (me w3 none 0 0 [] G rfl (.inl rfl) (fun x hx=>by cases hx) (yB _) (by omega) (fun a h=>by cases h) HGL3.out).mono ?_;rintro e w4 ⟨hb4,v,er,rfl,_⟩;have HKX:=yA (((Keep.of_below HB3.out (yB _) (fun _=>False)).trans (Keep.of_below hb4 (yB _) (fun _=>False)) (Z:=fun _=>False) (fun _ _ h=>h) (fun _ _ h=>h)).trans (Keep.alloc (fun _=>False) w4 (.cells #[.int .i64 v.x.tick,.slice v.wo v.wn v.wc,.slice v.ko v.kn v.kc,.int .i64 v.x.rows,.int .i64 v.x.cols,.slice v.eo v.en v.ec,.slice v.po v.pn v.pc,.slice v.yo v.yn v.yc,.slice v.zo v.zn v.zc] 34)) (Z:=fun _=>False) (fun _ _ h=>h) (fun _ _ h=>h));clear hb4;go_upto_region 9 with (first | ((with_reducible refine ah (o:=⟨none,.store 34 (.tmp 17) (.tmp 49),_,_,_,_⟩) ?_ 34 (.tmp 17) (.tmp 49) ?_ _ #[.int .i64 v.x.tick,.slice v.wo v.wn v.wc,.slice v.ko v.kn v.kc,.int .i64 v.x.rows,.int .i64 v.x.cols,.slice v.eo v.en v.ec,.slice v.po v.pn v.pc,.slice v.yo v.yn v.yc,.slice v.zo v.zn v.zc] ?_ ?_ v.cells ?_ ?_ ?_ (RV.cells_one v) ?_);rfl;rfl;rfl;rfl;rfl;exact bt;rfl))
        have HCF:=yA (HCFW.out _ HKX.out);have HTX:=yA (HTXW.out _ HKX.out);have HFIN:=yA (HFINW.out _ HKX.out);generalize w4.alloc (.cells #[.int .i64 v.x.tick,.slice v.wo v.wn v.wc,.slice v.ko v.kn v.kc,.int .i64 v.x.rows,.int .i64 v.x.cols,.slice v.eo v.en v.ec,.slice v.po v.pn v.pc,.slice v.yo v.yn v.yc,.slice v.zo v.zn v.zc] 34)=WX at *;go_wp2_with (first | ((with_reducible refine aa (o:=⟨some 63,_,_,_,_,_⟩) ?_ 23 (.tmp 10) ?_ CB (0) ?_ st.c.cells #[.int .i64 st.c.q,.int .i64 st.c.d,.int .i64 st.c.w,.int .i64 st.c.ttl,.int .i64 st.c.b] ?_ _ HCF.out Tryz.underlying23 ?_ ?_ ?_);rfl;rfl;rfl;rfl;rfl;exact aE) | ((with_reducible refine ze (op:=⟨none,.store 23 (.tmp 2) (.tmp 63),_,_,_,_⟩) ?_ 23 (.tmp 2) (.tmp 63) ?_ B 0 #[.int .i64 st.c.q,.int .i64 st.c.d,.int .i64 st.c.w,.int .i64 st.c.ttl,.int .i64 st.c.b] ?_ ?_ HTX.out szk ?_ ?_);rfl;rfl;rfl;rfl;exact yU (dy st.c)))
        exact yS (v:=.tuple #[.agg #[.int .i64 st.c.q,.int .i64 st.c.d,.int .i64 st.c.w,.int .i64 st.c.ttl,.int .i64 st.c.b],u12,.int .i64 (st.pos:Int),.int .u32 (sa:Int),.int .i64 0]) (cC 2 3 4 5 6 23 Tryz.results66 B rfl _ _ _ _ rfl rfl rfl rfl st.c.cells _ rfl _ (yJ _ B 0 st.c.cells HTX.out) Tryz.underlying23 rfl aE) rfl (HFIN.out HEX.out)
      | some y=>
        obtain ⟨c,s⟩:=y;rw [hnx] at hmt;obtain ⟨co2,cc2,rfl,hcr2,hcc2,hcg2⟩:=hmt;have hsp:=gX (HBY.out.drop st.pos) hnx;have HCB2:=yA (show Byt c from by rw [hsp.2.1];exact ((HBY.out.drop _).drop 8).take _);have HSL2:=yA (show s<4294967296 from by rw [hsp.2.2.2.1];exact jd _);obtain ⟨dn,hdn⟩:∃ dn,c.length=dn:=⟨_,rfl⟩;have hdl:st.pos+(dn+12)≤n:=by have:=hsp.2.2.1;rw [hdn,List.length_drop,HN.out] at this;omega
        have HDN:=yA hdn;rw [hdn] at hcc2 ⊢;have HCR2:=yA hcr2;have HCC2:=yA hcc2;have HCG2:=yA hcg2;have HNX2:=yA hnx;have b1:((dn:Int)+12==0)=false:=by simp;omega
        clear hsp hdn hcr2 hcc2 hcg2 hnx;go_wp2_with fail
        refine (me w3 co2 dn cc2 c G HDN.out HCR2.out HCB2.out HCC2.out (by omega) HCG2.out HGL3.out).mono ?_;rintro e w4 ⟨hb4,v,er,rfl,hmd⟩;have HMD:=yA hmd;have HK34:=yA ((Keep.of_below hb4 (yB _) (fun _=>False)));have HKX:=yA (((Keep.of_below HB3.out (yB _) (fun _=>False)).trans HK34.out (Z:=fun _=>False) (fun _ _ h=>h) (fun _ _ h=>h)).trans (Keep.alloc (fun _=>False) w4 (.cells #[.int .i64 v.x.tick,.slice v.wo v.wn v.wc,.slice v.ko v.kn v.kc,.int .i64 v.x.rows,.int .i64 v.x.cols,.slice v.eo v.en v.ec,.slice v.po v.pn v.pc,.slice v.yo v.yn v.yc,.slice v.zo v.zn v.zc] 34)) (Z:=fun _=>False) (fun _ _ h=>h) (fun _ _ h=>h));have HK4X:=yA (Keep.alloc (fun _=>False) w4 (.cells #[.int .i64 v.x.tick,.slice v.wo v.wn v.wc,.slice v.ko v.kn v.kc,.int .i64 v.x.rows,.int .i64 v.x.cols,.slice v.eo v.en v.ec,.slice v.po v.pn v.pc,.slice v.yo v.yn v.yc,.slice v.zo v.zn v.zc] 34));have HHR:=yA (yE w4 (.cells #[.int .i64 v.x.tick,.slice v.wo v.wn v.wc,.slice v.ko v.kn v.kc,.int .i64 v.x.rows,.int .i64 v.x.cols,.slice v.eo v.en v.ec,.slice v.po v.pn v.pc,.slice v.yo v.yn v.yc,.slice v.zo v.zn v.zc] 34));clear hb4 hmd;go_upto_region 9 with (first | ((with_reducible refine ah (o:=⟨none,.store 34 (.tmp 17) (.tmp 49),_,_,_,_⟩) ?_ 34 (.tmp 17) (.tmp 49) ?_ _ #[.int .i64 v.x.tick,.slice v.wo v.wn v.wc,.slice v.ko v.kn v.kc,.int .i64 v.x.rows,.int .i64 v.x.cols,.slice v.eo v.en v.ec,.slice v.po v.pn v.pc,.slice v.yo v.yn v.yc,.slice v.zo v.zn v.zc] ?_ ?_ v.cells ?_ ?_ ?_ (RV.cells_one v) ?_);rfl;rfl;rfl;rfl;rfl;exact bt;rfl))
        have HCF:=yA (HCFW.out _ HKX.out);have HTX:=yA (HTXW.out _ HKX.out);have HFIN:=yA (HFINW.out _ HKX.out);obtain ⟨H,hH⟩:∃ H,w4.heap.size=H:=⟨_,rfl⟩;have HHE:=yA hH;rw [hH] at HHR;try rw [hH]
        clear hH;generalize w4.alloc (.cells #[.int .i64 v.x.tick,.slice v.wo v.wn v.wc,.slice v.ko v.kn v.kc,.int .i64 v.x.rows,.int .i64 v.x.cols,.slice v.eo v.en v.ec,.slice v.po v.pn v.pc,.slice v.yo v.yn v.yc,.slice v.zo v.zn v.zc] 34)=WX at *;by_cases her:er=0
        · subst her
          have h0:WX.cell? ⟨H,0,none⟩=some (.int .i64 v.x.tick):=by rw [yI _ _ _ _ _ (0,0) HHR.out];rfl
          obtain ⟨x2,hdx,hvx,hvin,hvz⟩:∃ x,eU c=some x∧v.x=x∧v.In w4∧v.Zone w3.heap.size w4.heap.size:=by
           have:=HMD.out;cases hd:eU c with
           | none=>rw [hd] at this;exact absurd rfl this
           | some x=>rw [hd] at this;exact ⟨x,rfl,this.2⟩
          have HDX:=yA hdx;have HVX:=yA hvx;have HVI:=yA hvin;have HVZ:=yA hvz;clear hdx hvx hvin hvz HMD;by_cases hlt:st.tick<v.x.tick
          · have b2:decide (v.x.tick≤st.tick)=false:=decide_eq_false (by omega)
            have HST2:=yA (show bm st c=some ⟨st.pos+(dn+12),st.c,st.recs++[v.x],v.x.tick⟩ from by
             rw [c9 HNE.out,HDX.out];simp only;rw [←HVX.out,if_pos hlt,HDN.out])
            have HNA2:=yA (HRR.out.ra.next HBY.out HNX2.out HST2.out);clear hlt;obtain ⟨i5,hi,hz0,hz1,hz2⟩:=kU;have HRX:=yA (HRR.out.keep HKX.out)
            have HCE:=yA (fun (j:Nat) (u:Value) (hu:v.cells[j]?=some u)=>show WX.cell? ⟨H,0+j,none⟩=some u from by
             rw [Nat.zero_add,yI _ _ _ _ _ (0,0) HHR.out,←hu];simp [RV.cells])
            have HAL:=yA (Keep.alloc (fun _=>False) WX (.cells #[.int .i64 v.x.tick,.slice v.wo v.wn v.wc,.slice v.ko v.kn v.kc,.int .i64 v.x.rows,.int .i64 v.x.cols,.slice v.eo v.en v.ec,.slice v.po v.pn v.pc,.slice v.yo v.yn v.yc,.slice v.zo v.zn v.zc] 34));have HRSA:=yA (HRX.out.rs.keep HAL.out (fun _ h=>h.elim));have HLEN:=yA (show vs.length≤1000000000 from Nat.le_trans HRR.out.len (by omega));have HML:=yA (show vs.length+1≤maxLen from by have:=HLEN.out;unfold maxLen;omega);have HBYT:=yA (show (vs.length+1)*168≤140737488355328 from by have:=HLEN.out;omega);have hwp:IntKind.i64.wrap ((st.pos:Int)+((dn:Int)+12))=(st.pos:Int)+((dn:Int)+12):=by rw [IntKind.wrap_i64];omega
            go_wp2_with (first | ((with_reducible refine aa (o:=⟨some 68,_,_,_,_,_⟩) ?_ 34 (.tmp 17) ?_ H 0 ?_ v.cells #[.int .i64 v.x.tick,.slice v.wo v.wn v.wc,.slice v.ko v.kn v.kc,.int .i64 v.x.rows,.int .i64 v.x.cols,.slice v.eo v.en v.ec,.slice v.po v.pn v.pc,.slice v.yo v.yn v.yc,.slice v.zo v.zn v.zc] ?_ _ HCE.out Tryz.underlying34 ?_ ?_ ?_);rfl;rfl;rfl;rfl;rfl;exact bt) | (at_builtin;refine br rfl (.tmp 67) (.tmp 69) 43 43 rfl 34 i5 ki 9 168 Tryz.underlying43 hi hz0 hz1 hz2 rfl u12 vs.length (cellsOf RV.cells vs) rfl HRSA.out.own (.slice (some ⟨WX.heap.size,0,none⟩) 1 1) 1 v.cells rfl (Src.lit Tryz.underlying43 9 _ rfl (RV.cells_one v) _ _ (by first | rfl | simp [RV.cells])) (by omega) HML.out HBYT.out ?_))
            clear h0;intro g q2 w5 ho2 hk2
            have HK5:=yA (show Keep (fun k=>u12.ownBlock=some k) (WX.alloc (.cells #[.int .i64 v.x.tick,.slice v.wo v.wn v.wc,.slice v.ko v.kn v.kc,.int .i64 v.x.rows,.int .i64 v.x.cols,.slice v.eo v.en v.ec,.slice v.po v.pn v.pc,.slice v.yo v.yn v.yc,.slice v.zo v.zn v.zc] 34)) w5 from by
             rcases hk2 with ⟨_,h⟩ | ⟨_,h⟩
             · exact h
             · exact h.mono (fun _ _ h=>h.elim))
            have HBL:=yA (fun b (e:u12.ownBlock=some b)=>show b<wr.heap.size from HRR.out.rs.own.lt b e);have HSZ:=yA (show wr.heap.size≤w3.heap.size∧w3.heap.size≤w4.heap.size from ⟨HB3.out.size,HK34.out.size⟩)
            have HRS:=yA (HRSA.out.push (W0:=w3) (W1:=w4) (X:=fun _=>False) HVI.out HVZ.out HSZ.out.2 (by have:=lt_of_block HRR.out.conf;have:=HSZ.out;omega) (fun b e=>by have:=HBL.out b e;have:=HSZ.out;omega)
             (HK4X.out.trans HAL.out (Z:=fun _=>False) (fun _ _ h=>h) (fun _ _ h=>h)) (fun _ h=>h.elim) ho2 HK5.out (by
               rcases hk2 with ⟨h,_⟩ | ⟨h,_⟩
               · exact .inl (by rw [h];rfl)
               · exact .inr ⟨g,rfl,by simpa using h⟩))
            clear ho2 hk2;have HKR:=yA ((HKX.out.trans HAL.out (Z:=fun k=>u12.ownBlock=some k) (fun _ _ h=>h.elim) (fun _ _ h=>h.elim)).trans HK5.out (Z:=fun k=>u12.ownBlock=some k) (fun _ _ h=>h) (fun _ _ h=>h))
            have HR5:=yA (show RrAt w l0 B CB (CB+1) ⟨st.pos+(dn+12),st.c,st.recs++[v.x],v.x.tick⟩ s (.slice (some ⟨g,0,none⟩) (vs.length+1) q2) (vs++[v]) w5 from by
             have hlo:=HRR.out.rs.blk;have hcb:=HCBE.out;refine ⟨HNA2.out,by show st.pos+(dn+12)≠0;omega,?_,?_,HVI.out.ok.tick,HSL2.out,HKR.out.old HRR.out.box (fun e=>by have:=hlo _ e;omega),HKR.out.old HRR.out.conf (fun e=>by have:=hlo _ e;omega),HRS.out,HRR.out.below.trans (HKR.out.below HRR.out.below.size (fun i h e=>by have:=hlo _ e;have:=HBE.out;omega))⟩
             · rw [List.map_append,HRR.out.map];rfl
             · have:=HRR.out.len
               show (vs++[v]).length≤st.pos+(dn+12)
               rw [List.length_append];simp;omega)
            have h0:w5.cell? ⟨H,0,none⟩=some (.int .i64 v.x.tick):=HK5.out.cell (HAL.out.cell (by rw [yI _ _ _ _ _ (0,0) HHR.out];rfl) id) (fun e=>by have h9:=HBL.out H e;have:=HSZ.out;have:=HHE.out;omega);go_wp2_with fail
            go_roundw
            case rel=>exact yA ⟨_,s,vs++[v],by show _=Value.int .i64 ((st.pos+(dn+12):Nat):Int);go_num,rfl,rfl,HR5.out⟩
            case measure=>simp [intOf];omega
          · have b2:decide (v.x.tick≤st.tick)=true:=decide_eq_true (by omega)
            have HEX:=yA (HRR.out.ra.stop (.inr ⟨c,s,HNX2.out,by rw [c9 HNE.out,HDX.out];simp only;rw [←HVX.out,if_neg hlt]⟩));clear hlt;go_wp2_with (first | ((with_reducible refine aa (o:=⟨some 63,_,_,_,_,_⟩) ?_ 23 (.tmp 10) ?_ CB (0) ?_ st.c.cells #[.int .i64 st.c.q,.int .i64 st.c.d,.int .i64 st.c.w,.int .i64 st.c.ttl,.int .i64 st.c.b] ?_ _ HCF.out Tryz.underlying23 ?_ ?_ ?_);rfl;rfl;rfl;rfl;rfl;exact aE) | ((with_reducible refine ze (op:=⟨none,.store 23 (.tmp 2) (.tmp 63),_,_,_,_⟩) ?_ 23 (.tmp 2) (.tmp 63) ?_ B 0 #[.int .i64 st.c.q,.int .i64 st.c.d,.int .i64 st.c.w,.int .i64 st.c.ttl,.int .i64 st.c.b] ?_ ?_ HTX.out szk ?_ ?_);rfl;rfl;rfl;rfl;exact yU (dy st.c)))
            exact yS (v:=.tuple #[.agg #[.int .i64 st.c.q,.int .i64 st.c.d,.int .i64 st.c.w,.int .i64 st.c.ttl,.int .i64 st.c.b],u12,.int .i64 (st.pos:Int),.int .u32 (sa:Int),.int .i64 0]) (cC 2 3 4 5 6 23 Tryz.results66 B rfl _ _ _ _ rfl rfl rfl rfl st.c.cells _ rfl _ (yJ _ B 0 st.c.cells HTX.out) Tryz.underlying23 rfl aE) rfl (HFIN.out HEX.out)
        · have b2:(er != 0)=true:=by simp [her]
          have HEX:=yA (HRR.out.ra.stop (.inr ⟨c,s,HNX2.out,by
           rw [c9 HNE.out];have:=HMD.out;cases hd:eU c with
           | none=>rfl
           | some x=>rw [hd] at this;exact absurd this.1 her⟩))
          clear her;go_wp2_with (first | ((with_reducible refine aa (o:=⟨some 63,_,_,_,_,_⟩) ?_ 23 (.tmp 10) ?_ CB (0) ?_ st.c.cells #[.int .i64 st.c.q,.int .i64 st.c.d,.int .i64 st.c.w,.int .i64 st.c.ttl,.int .i64 st.c.b] ?_ _ HCF.out Tryz.underlying23 ?_ ?_ ?_);rfl;rfl;rfl;rfl;rfl;exact aE) | ((with_reducible refine ze (op:=⟨none,.store 23 (.tmp 2) (.tmp 63),_,_,_,_⟩) ?_ 23 (.tmp 2) (.tmp 63) ?_ B 0 #[.int .i64 st.c.q,.int .i64 st.c.d,.int .i64 st.c.w,.int .i64 st.c.ttl,.int .i64 st.c.b] ?_ ?_ HTX.out szk ?_ ?_);rfl;rfl;rfl;rfl;exact yU (dy st.c)))
          exact yS (v:=.tuple #[.agg #[.int .i64 st.c.q,.int .i64 st.c.d,.int .i64 st.c.w,.int .i64 st.c.ttl,.int .i64 st.c.b],u12,.int .i64 (st.pos:Int),.int .u32 (sa:Int),.int .i64 0]) (cC 2 3 4 5 6 23 Tryz.results66 B rfl _ _ _ _ rfl rfl rfl rfl st.c.cells _ rfl _ (yJ _ B 0 st.c.cells HTX.out) Tryz.underlying23 rfl aE) rfl (HFIN.out HEX.out)
end Go.Proofs.YtcaicgipibcicaaGreat
