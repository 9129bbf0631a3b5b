/- journal.read. -/
import Derived.Test.YtcaicgipibcicaaGreatQRdRg
set_option maxRecDepth 100000
set_option maxHeartbeats 16000000
set_option linter.unusedSimpArgs false
set_option linter.unusedVariables false
open Go renaming cell_of_row→wG,frozen_of_row→wZ,heap_alloc_new→wF,lt_of_block→wJ
open Go.Lib renaming hid→wB
open Go.World renaming rangeAt_setCells_same→wT
open Nat renaming le_refl→wC,le_trans→xc
namespace Go.Proofs.YtcaicgipibcicaaGreat
open Go.RowKit Go.Sort Go.Shelf
structure bU (w:World) (C:Nat) (c:ag) (sv:Value) (pos:Nat) (x:List Int) (tick:Int) (vs:List RV) (W:World):Prop where
 c:W.rangeAt C 0 c.cells
 ct:W.there C 0 5
 l:W.heap[C+1]?=some (.cells #[sv] 43 (0,0))
 p:W.heap[C+2]?=some (.cells #[.int .i64 (pos:Int)] 3 (0,0))
 x:W.heap[C+3]?=some (.cells (cellsOf ah x).toArray 139 (0,0))
 t:W.heap[C+4]?=some (.cells #[.int .i64 tick] 3 (0,0))
 rs:eS (C+9) sv vs W
 below:Below w.heap.size w W
theorem bU.keep {w:World} {C:Nat} {c:ag} {sv:Value} {pos:Nat} {x:List Int} {tick:Int} {vs:List RV} {W W':World} {X:Nat→Prop} (h:bU w C c sv pos x tick vs W) (hk:Keep X W W') (hx:∀ k,X k→C+5≤k∧k<C+9) (hC:w.heap.size=C):bU w C c sv pos x tick vs W':=
 ⟨fun j u hu=>hk.cell (h.c j u hu) (fun e=>by have:=hx _ e;have e':X C:=e;have:=hx _ e';omega),av h.ct hk (fun e=>by have:=hx _ e;omega),hk.old h.l (fun e=>by have:=hx _ e;omega),hk.old h.p (fun e=>by have:=hx _ e;omega),hk.old h.x (fun e=>by have:=hx _ e;omega),hk.old h.t (fun e=>by have:=hx _ e;omega),
  h.rs.keep hk (fun k e=>(hx k e).2),h.below.trans (hk.below h.below.size (fun i hi e=>by have:=hx _ e;omega))⟩
def RjAt (w:World) (C:Nat) (l0:List Int) (x:List Int) (pos:Nat) (W:World):Prop:=
 ∃ (st:RSt) (sv:Value) (vs:List RV),RAt l0 x st∧st.pos=pos∧vs.map (·.x)=st.recs∧vs.length≤pos∧ar st.tick∧(pos=0→W.heap[C]?=some (.cells #[.int .i64 0,.int .i64 0,.int .i64 0,.int .i64 0,.int .i64 0] 23 (0,0)))∧bU w C st.c sv pos x st.tick vs W
def uH (w:World) (C:Nat) (l0:List Int) (W:World):Prop:=
 ∃ (st:RSt) (c:ag) (sv:Value) (vs:List RV) (x:List Int),az l0=st∧(st.pos≠0→c=st.c)∧vs.map (·.x)=st.recs∧st.pos≤l0.length∧x.length=4∧(st.pos=0→st=cx)∧bU w C c sv st.pos x st.tick vs W
def qQ (w:World) (l0:List Int) (e:Ending) (w':World):Prop:=
 Below w.heap.size w w'∧∃ (st:RSt) (x0 x1 x2 x3:Int),az l0=st∧
  if st.pos=0 then e = .returned (.tuple #[.agg #[.int .i64 0,.int .i64 0,.int .i64 0,.int .i64 0,.int .i64 0],.slice none 0 0,.int .i64 0,.agg #[.int .u8 x0,.int .u8 x1,.int .u8 x2,.int .u8 x3],.int .i64 250])
  else ∃ (ao:Option Addr) (cap:Nat) (vs:List RV),e = .returned (.tuple #[.agg #[.int .i64 st.c.q,.int .i64 st.c.d,.int .i64 st.c.w,.int .i64 st.c.ttl,.int .i64 st.c.b],.slice ao vs.length cap,.int .i64 (st.pos:Int),.agg #[.int .u8 x0,.int .u8 x1,.int .u8 x2,.int .u8 x3],.int .i64 0])∧
   vs.map (·.x)=st.recs∧eS w.heap.size (.slice ao vs.length cap) vs w'∧st.pos≤l0.length
theorem o0 (w:World) (ao:Option Addr) (n c:Nat):∃ W,((((((w.alloc (.cells #[.int .i64 0,.int .i64 0,.int .i64 0,.int .i64 0,.int .i64 0] 23)).alloc (.cells #[.slice none 0 0] 43)).alloc (.cells #[.int .i64 0] 3)).alloc (.cells #[.int .u8 0,.int .u8 0,.int .u8 0,.int .u8 0] 139)).alloc (.cells #[.int .i64 0] 3)).alloc (.cells #[.slice ao n c] 59))=W∧
 W.heap[w.heap.size+5]?=some (.cells #[.slice ao n c] 59 (0,0))∧W.heap.size=w.heap.size+6∧W.heap[w.heap.size]?=some (.cells #[.int .i64 0,.int .i64 0,.int .i64 0,.int .i64 0,.int .i64 0] 23 (0,0))∧bU w w.heap.size gi (.slice none 0 0) 0 (be4 0) 0 [] W:=by
 have step:∀ (V:World) (o:Obj) (k:Nat),V.heap.size=k→(V.alloc o).heap[k]?=some o∧(V.alloc o).heap.size=k+1∧∀ (j:Nat) (p:Obj),V.heap[j]?=some p→(V.alloc o).heap[j]?=some p:=by
  intro V o k hk;refine ⟨by rw [←hk];exact wF V o,by rw [←hk];simp,fun j p hp=>(Keep.alloc (fun _=>False) V o).old hp id⟩
 obtain ⟨a1,s1,k1⟩:=step w (.cells #[.int .i64 0,.int .i64 0,.int .i64 0,.int .i64 0,.int .i64 0] 23) _ rfl;obtain ⟨a2,s2,k2⟩:=step (w.alloc (.cells #[.int .i64 0,.int .i64 0,.int .i64 0,.int .i64 0,.int .i64 0] 23)) (.cells #[.slice none 0 0] 43) _ s1;obtain ⟨a3,s3,k3⟩:=step ((w.alloc (.cells #[.int .i64 0,.int .i64 0,.int .i64 0,.int .i64 0,.int .i64 0] 23)).alloc (.cells #[.slice none 0 0] 43)) (.cells #[.int .i64 0] 3) _ s2;obtain ⟨a4,s4,k4⟩:=step (((w.alloc (.cells #[.int .i64 0,.int .i64 0,.int .i64 0,.int .i64 0,.int .i64 0] 23)).alloc (.cells #[.slice none 0 0] 43)).alloc (.cells #[.int .i64 0] 3)) (.cells #[.int .u8 0,.int .u8 0,.int .u8 0,.int .u8 0] 139) _ s3;obtain ⟨a5,s5,k5⟩:=step ((((w.alloc (.cells #[.int .i64 0,.int .i64 0,.int .i64 0,.int .i64 0,.int .i64 0] 23)).alloc (.cells #[.slice none 0 0] 43)).alloc (.cells #[.int .i64 0] 3)).alloc (.cells #[.int .u8 0,.int .u8 0,.int .u8 0,.int .u8 0] 139)) (.cells #[.int .i64 0] 3) _ s4;obtain ⟨a6,s6,k6⟩:=step (((((w.alloc (.cells #[.int .i64 0,.int .i64 0,.int .i64 0,.int .i64 0,.int .i64 0] 23)).alloc (.cells #[.slice none 0 0] 43)).alloc (.cells #[.int .i64 0] 3)).alloc (.cells #[.int .u8 0,.int .u8 0,.int .u8 0,.int .u8 0] 139)).alloc (.cells #[.int .i64 0] 3)) (.cells #[.slice ao n c] 59) _ s5;have hrow:=k6 _ _ (k5 _ _ (k4 _ _ (k3 _ _ (k2 _ _ a1))));refine ⟨_,rfl,a6,s6,hrow,fun j u hu=>?_,aP hrow (wC 5),k6 _ _ (k5 _ _ (k4 _ _ (k3 _ _ a2))),k6 _ _ (k5 _ _ (k4 _ _ a3)),k6 _ _ (k5 _ _ a4),k6 _ _ a5,eS.nil _ _,?_⟩
 · rw [Nat.zero_add]
   exact (wG _ _ _ _ _ (0,0) hrow).trans (by rw [←hu];simp [ag.cells,gi])
 exact ((((((Below.refl w.heap.size w).alloc (wC _) _).alloc (by rw [s1];omega) _).alloc (by rw [s2];omega) _).alloc (by rw [s3];omega) _).alloc (by rw [s4];omega) _).alloc (by rw [s5];omega) _
theorem ir {c:List Int} {x:ag} (h:je c=some (x,[])):aH cx c=if aA x=0 then some ⟨c.length+12,x,[],0⟩ else none:=by
 unfold aH;rw [if_pos (show cx.pos=0 from rfl),h]
theorem iL {c:List Int} (h:∀ x,je c≠some (x,[])):aH cx c=none:=by
 unfold aH;rw [if_pos (show cx.pos=0 from rfl)];cases hp:je c with
 | none=>rfl
 | some y=>
   obtain ⟨y,r⟩:=y;cases r with
   | nil=>exact absurd hp (h y)
   | cons a r=>rfl
theorem fp {st:RSt} {c:List Int} (h:st.pos≠0):aH st c=match gk c with
 | some x=>if st.tick<x.tick then some ⟨st.pos+(c.length+12),st.c,st.recs++[x],x.tick⟩ else none
 | none=>none:=by
 unfold aH;rw [if_neg h];cases gk c <;> rfl
theorem dz {P:Program} {f:FuncId} {args:Array Value} {w:World} {R:Ending→World→Prop} {l n:Nat} (h:Calls P f args w R):Fence.wide.fn f∧CallsIn (Fence.wide.inRound l) n P f args w R:=⟨trivial,CallsIn.inRound l (callsIn_wide.2 h)⟩
section
variable {w:World} {C:Nat} {c:ag} {sv:Value} {pos:Nat} {x:List Int} {tick:Int} {vs:List RV} {W:World}
theorem bG {W W':World} {C:Nat} {cs:List Value} {X:Nat→Prop} (h:W.rangeAt C 0 cs) (hk:Keep X W W') (hx:¬ X C):W'.rangeAt C 0 cs:=fun j u hu=>hk.cell (h j u hu) hx
theorem bU.setP (h:bU w C c sv pos x tick vs W) (hC:w.heap.size=C) (pos':Nat):bU w C c sv pos' x tick vs (W.setCell ⟨C+2,0,none⟩ (.int .i64 (pos':Int))):=by
 have hk:=aJ W (C+2) 0 (.int .i64 (pos':Int));exact ⟨bG h.c hk (by omega),av h.ct hk (by omega),hk.old h.l (by omega),ae h.p 0 _,hk.old h.x (by omega),hk.old h.t (by omega),h.rs.keep hk (fun k e=>by omega),h.below.trans (hk.below h.below.size (fun i hi e=>by omega))⟩
theorem bU.setT (h:bU w C c sv pos x tick vs W) (hC:w.heap.size=C) (t':Int):bU w C c sv pos x t' vs (W.setCell ⟨C+4,0,none⟩ (.int .i64 t')):=by
 have hk:=aJ W (C+4) 0 (.int .i64 t');exact ⟨bG h.c hk (by omega),av h.ct hk (by omega),hk.old h.l (by omega),hk.old h.p (by omega),hk.old h.x (by omega),ae h.t 0 _,h.rs.keep hk (fun k e=>by omega),h.below.trans (hk.below h.below.size (fun i hi e=>by omega))⟩
theorem bU.setL (h:bU w C c sv pos x tick vs W) (hC:w.heap.size=C) {sv':Value} {vs':List RV} {W':World} (hk0:Keep (fun k=>sv.ownBlock=some k) W W') (hr:eS (C+9) sv' vs' W'):bU w C c sv' pos x tick vs' (W'.setCell ⟨C+1,0,none⟩ sv'):=by
 have hk:=aJ W' (C+1) 0 sv';have hb:∀ k,sv.ownBlock=some k→C+9≤k:=fun k e=>h.rs.blk k e
 exact ⟨bG (bG h.c hk0 (fun e=>by have:=hb _ e;omega)) hk (by omega),av (av h.ct hk0 (fun e=>by have:=hb _ e;omega)) hk (by omega),ae (hk0.old h.l (fun e=>by have:=hb _ e;omega)) 0 _,hk.old (hk0.old h.p (fun e=>by have:=hb _ e;omega)) (by omega),hk.old (hk0.old h.x (fun e=>by have:=hb _ e;omega)) (by omega),hk.old (hk0.old h.t (fun e=>by have:=hb _ e;omega)) (by omega),hr.keep hk (fun k e=>by omega),(h.below.trans (hk0.below h.below.size (fun i hi e=>by have:=hb _ e;omega))).trans (hk.below (xc h.below.size hk0.size) (fun i hi e=>by omega))⟩
theorem bU.setX (h:bU w C c sv pos x tick vs W) (hC:w.heap.size=C) (hx:x.length=4) (x':List Int) (hx':x'.length=4):bU w C c sv pos x' tick vs (W.setCells (C+3) 0 (cellsOf ah x')):=by
 have hk:=Keep.setCells W (C+3) 0 (cellsOf ah x');refine ⟨bG h.c hk (by omega),av h.ct hk (by omega),hk.old h.l (by omega),hk.old h.p (by omega),?_,hk.old h.t (by omega),h.rs.keep hk (fun k e=>by omega),h.below.trans (hk.below h.below.size (fun i hi e=>by omega))⟩;obtain ⟨a0,a1,a2,a3,rfl⟩:=ib hx;obtain ⟨b0,b1,b2,b3,rfl⟩:=ib hx';have q:=(ae (ae (ae (ae h.x 0 (.int .u8 b0)) 1 (.int .u8 b1)) 2 (.int .u8 b2)) 3 (.int .u8 b3));simp only [List.setIfInBounds_toArray,List.set_cons_zero,List.set_cons_succ,cellsOf,ah,List.flatMap_cons,List.flatMap_nil,List.append_nil,List.cons_append,List.nil_append] at q;exact q
theorem bU.keep' (h:bU w C c sv pos x tick vs W) {g:Nat} {W':World} (hk:Keep (fun k=>k=g) W W') (hg:C+9≤g) (ho:∀ b,sv.ownBlock=some b→b≠g) (hC:w.heap.size=C) (hvs:vs=[]):bU w C c sv pos x tick vs W':=by
 subst hvs;exact ⟨bG h.c hk (by omega),av h.ct hk (by omega),hk.old h.l (by omega),hk.old h.p (by omega),hk.old h.x (by omega),hk.old h.t (by omega),⟨h.rs.own.keep hk (fun b e hX=>ho b e hX),h.rs.blk,(fun v hv=>by cases hv),(fun v hv=>by cases hv)⟩,h.below.trans (hk.below h.below.size (fun i hi e=>by omega))⟩
theorem bU.conf (h:bU w C c sv pos x tick vs W) (hC:w.heap.size=C) {g R:Nat} {W':World} {c':ag} (hp:aq W g R C 0 5 W') (hc:W'.rangeAt C 0 c'.cells) (hg:C+9≤g∧C+9≤R) (ho:∀ b,sv.ownBlock=some b→b≠g∧b≠R) (hvs:vs=[]):bU w C c' sv pos x tick vs W':=by
 have hk:=hp.keep;subst hvs;refine ⟨hc,hp.room _ _ h.ct,hk.old h.l (by omega),hk.old h.p (by omega),hk.old h.x (by omega),hk.old h.t (by omega),⟨h.rs.own.keep hk (fun b e hX=>?_),h.rs.blk,(fun v hv=>by cases hv),(fun v hv=>by cases hv)⟩,h.below.trans (hk.below h.below.size (fun i hi e=>by omega))⟩;have h1:=ho b e;have h2:=h.rs.blk b e;rcases hX with hX | hX | hX
 · exact h1.1 hX
 · exact h1.2 hX
 · omega
end
theorem o8 {w:World} {C:Nat} {c:ag} {sv:Value} {pos:Nat} {x:List Int} {tick:Int} {vs:List RV} {W:World} {D:Nat} {od:Obj} (h:bU w C c sv pos x tick vs W) (hD:W.heap[D]?=some od) (hDC:C+5≤D) (c':ag) (v':Value) (p':Int) (x':List Int) (hx:x.length=4) (hx':x'.length=4) :
 ∃ WF,(((W.setCells C 0 c'.cells).setCell ⟨C+1,0,none⟩ v').setCell ⟨C+2,0,none⟩ (.int .i64 p')).setCells (C+3) 0 (cellsOf ah x')=WF∧WF.rangeAt C 0 c'.cells∧WF.cell? ⟨C+1,0,none⟩=some v'∧WF.cell? ⟨C+2,0,none⟩=some (.int .i64 p')∧WF.rangeAt (C+3) 0 (cellsOf ah x')∧WF.heap[D]?=some od∧Keep (fun k=>C≤k∧k<C+4) W WF:=by
 have k1:=Keep.setCells W C 0 c'.cells;have r1:=wT W C 0 c'.cells (by exact h.ct);have l1:=k1.old h.l (by omega);have p1:=k1.old h.p (by omega)
 have t1:(W.setCells C 0 c'.cells).there (C+3) 0 (cellsOf ah x').length:=by
  refine av (aP h.x ?_) k1 (by omega);rw [aI,hx'];simp [aI,hx]
 have d1:=k1.old hD (by omega);generalize W.setCells C 0 c'.cells=WA at *;have k2:=aJ WA (C+1) 0 v';have l2:=ae l1 0 v';have r2:=bG r1 k2 (by omega);have p2:=k2.old p1 (by omega);have t2:=av t1 k2 (by omega);have d2:=k2.old d1 (by omega);generalize WA.setCell ⟨C+1,0,none⟩ v'=WB at *;have k3:=aJ WB (C+2) 0 (.int .i64 p');have p3:=ae p2 0 (.int .i64 p');have r3:=bG r2 k3 (by omega);have l3:=k3.old l2 (by omega);have t3:=av t2 k3 (by omega);have d3:=k3.old d2 (by omega);generalize WB.setCell ⟨C+2,0,none⟩ (.int .i64 p')=WE at *;have k4:=Keep.setCells WE (C+3) 0 (cellsOf ah x');refine ⟨_,rfl,bG r3 k4 (by omega),?_,?_,wT WE (C+3) 0 _ t3,k4.old d3 (by omega),?_⟩
 · rw [wG _ _ _ _ _ (0,0) (k4.old l3 (by omega))];rfl
 · rw [wG _ _ _ _ _ (0,0) (k4.old p3 (by omega))];rfl
 · exact ((k1.trans k2 (Z:=fun k=>C≤k∧k<C+4) (fun _ _ h=>by omega) (fun _ _ h=>by omega)).trans k3 (fun _ _ h=>h) (fun _ _ h=>by omega)).trans k4 (fun _ _ h=>h) (fun _ _ h=>by omega)
theorem o9 (W:World) (D:Nat) (o:Obj):Keep (fun k=>k=D) W (W.putObj D o):=d9 W D o
attribute [local go_sem] Oper.semAt_some
theorem uI (w:World) (ao:Option Addr) (n cap:Nat) (l0:List Int) (hn:l0.length=n) (hb:Byt l0) (hm:n≤1000000000) (hcap:n≤cap) (hr:RdC w ao (cellsOf ah l0)) (hlow:∀ a,ao=some a→a.block<w.heap.size) :
 Calls Tryz.prog 75 #[.slice ao n cap] w (qQ w l0):=by
 obtain ⟨wl,hwl,h5,hsz,hrw,hbx⟩:=o0 w ao n cap;have HRW:=wB hrw;have HWL:=wB hwl;have H5:=wB h5;have HSZ:=wB hsz;have HBX:=wB hbx;have HN:=wB hn;have HBY:=wB hb;have HM:=wB hm;have HCP:=wB hcap;have HR:=wB (hr.below hbx.below);have HLO:=wB hlow;clear hwl h5 hsz hrw hbx hn hb hm hcap hr hlow;refine (callsIn_wide (n:=5)).1 ?_;refine callsIn_of_wp_marks Tryz.func75 rfl trivial ?_ rfl;simp only [Tryz.ntmps75,List.size_toArray,List.length_cons,List.length_nil,Nat.reduceAdd,Nat.reduceSub,Array.replicate_succ,Array.replicate_zero,List.push_toArray,List.append_toArray,List.nil_append,List.cons_append]
 gi_wp2_with (first | (refine ⟨trivial,?_⟩;gi_at_call 118;refine (callsIn_wide.2 (kY _ _ _ _)).mono ?_;rintro e w' ⟨rfl,rfl⟩))
 rw [HWL.out];clear HWL;obtain ⟨C,hC⟩:∃ C,w.heap.size=C:=⟨_,rfl⟩;have HC:=wB hC;rw [hC] at H5 HSZ HBX HRW HLO ⊢;clear hC;simp only [Nat.add_assoc,Nat.reduceAdd]
 refine qT (C+5) C (C+6) HSZ.out rfl rfl l0 ao n cap HN.out HBY.out HM.out HCP.out HR.out HLO.out H5.out (by omega) (RjAt w C l0) (uH w C l0) (fun _ _ h=>h)
  (fun x pos W W' h hk=>by
    obtain ⟨st,sv,vs,h1,h2,h3,h4,h5,h55,h6⟩:=h;exact ⟨st,sv,vs,h1,h2,h3,h4,h5,fun e=>hk.old (h55 e) (by omega),h6.keep hk (fun k hk=>by omega) HC.out⟩)
  (fun W W' h hk=>by
    obtain ⟨st,c,sv,vs,x,h1,h2,h3,h4,h5,h6,h7⟩:=h;exact ⟨st,c,sv,vs,x,h1,h2,h3,h4,h5,h6,h7.keep hk (fun k hk=>by omega) HC.out⟩)
  ⟨cx,.slice none 0 0,[],RAt.first l0,rfl,rfl,wC _,fQ,fun _=>HRW.out,HBX.out⟩ (fun ao' m cc s BX=>{ tmps:=#[.slice ao n cap,undef,.pointer (some ⟨C,0,none⟩),.pointer (some ⟨C+1,0,none⟩),.pointer (some ⟨C+2,0,none⟩),.pointer (some ⟨C+3,0,none⟩),.int .i64 0,.pointer (some ⟨C+4,0,none⟩),.slice ao' m cc,.pointer (some ⟨BX,0,none⟩),undef,undef,undef,.slice ao n cap,.func (.func 154) #[] #[.pointer (some ⟨C+5,0,none⟩)],.slice ao' m cc,.agg (cellsOf ah (be4 s)).toArray,undef,undef,undef,undef,undef,undef,undef,undef,undef,undef,undef,undef,undef,undef,undef,undef,undef,undef,undef,undef,undef,undef,undef,undef,undef,undef,undef,undef,undef,undef,undef,undef,undef,undef,undef,undef,undef,undef,undef,undef,undef,undef,undef,undef,undef,undef,undef,undef,undef],defers:=[] }) ?assign ?body ?done ?rest
 case assign=>
  intro l W ao' m cc s K hK;have HKK:=wB hK;clear hK;obtain ⟨V,hV⟩:∃ V,(cellsOf ah (be4 s)).toArray=V:=⟨_,rfl⟩;rw [hV] at HKK ⊢;have HV:=wB hV;have HVS:=wB (show V.size=4 from by rw [←hV];simp [aI,dB]);have HVI:=wB (show (Tryz.prog.info? 139).map (·.size)=some V.size from by rw [HVS.out];exact fH)
  clear hV;refine wpIn_seq ?_;refine eP (by rintro ⟨_,_,h⟩;exact h) (by kernel_rfl) ?_;dsimp only at HKK;go_wp2_with fail
  refine eP (by rintro ⟨_,_,h⟩;exact h) (by kernel_rfl) ?_;go_wp2_with (first | ((with_reducible refine aj (o:=⟨none,.store 139 (.tmp 9) (.tmp 16),_,_,_,_⟩) ?_ 139 (.tmp 9) (.tmp 16) ?_ _ V ?_ ?_ (cellsOf ah (be4 s)) HV.out HVI.out ?_ (di ah eE (be4 s)) ?_);rfl;rfl;rfl;rfl;exact HVS.out.symm))
  exact HKK.out
 case body=>
  rintro l sa pos c s ao' cc W0 W BX ⟨st,sv,vs,hra,rfl,hvs,hvl,hti,hz0,hbx⟩ hnx hkw hBX hBX2 hrow hrd hcc;have hsp:=bI (HBY.out.drop st.pos) hnx;have HCB:=wB (show Byt c from by rw [hsp.2.1];exact ((HBY.out.drop _).drop 8).take _);have HCL:=wB (show c.length+12≤l0.length - st.pos from by have:=hsp.2.2.1;rwa [List.length_drop] at this);have HCM:=wB (show c.length≤1000000000 from by have:=HCL.out;have:=HM.out;have:=HN.out;omega);have HW:=wB (hbx.keep hkw (fun k hk=>by omega) HC.out);have HZ:=wB (fun e=>hkw.old (hz0 e) (by omega));have HRA:=wB hra;have HNX:=wB hnx;have HVS:=wB hvs;have HVL:=wB hvl;have HTI:=wB hti;have HKW:=wB hkw;have HBXS:=wB (And.intro hBX hBX2);have HROW:=wB hrow;have HRD:=wB hrd;have HCC:=wB hcc;have HBL0:=wB (fun b (e:sv.ownBlock=some b)=>show b<W0.heap.size from hbx.rs.own.lt b e);have hkwT:=wB (show W0.heap[C+4]?=some (.cells #[.int .i64 st.tick] 3 (0,0))∧W0.heap.size≤W.heap.size from ⟨hbx.t,hkw.size⟩);clear hsp hra hnx hvs hvl hti hz0 hbx hkw hBX hBX2 hrow hrd hcc;dsimp only;obtain ⟨cn,hcn⟩:∃ cn,c.length=cn:=⟨_,rfl⟩;have HCN:=wB hcn;rw [hcn] at HCL HCM HCC ⊢;clear hcn;have cP:W.cell? ⟨C+2,0,none⟩=some (.int .i64 (st.pos:Int)):=by rw [wG _ _ _ _ _ (0,0) HW.out.p];rfl
  by_cases hp0:st.pos=0
  · obtain rfl:=HRA.out.zero hp0
    obtain rfl:vs=[]:=by have:=HVL.out;cases vs with | nil=>rfl | cons v vs=>exact absurd this (by simp [cx])
    have cP0:W.cell? ⟨C+2,0,none⟩=some (.int .i64 0):=cP;clear cP
    gi_wp2_with (first | (refine eP (by rintro ⟨_,_,h⟩;exact h) (by kernel_rfl) ?_))
    go_wp2_with fail
    refine dz ((ez W ao' cn cc c HCN.out HRD.out HCB.out HCM.out).mono ?_);rintro e w1 ⟨R,G,rfl,hb1,hrd1,hR,hG,hRG,hGlt⟩;have HBL1:=wB hb1;have HRG:=wB (show W.heap.size≤R∧W.heap.size≤G∧R≠G∧R<w1.heap.size∧G<w1.heap.size from ⟨hR,hG,hRG,hrd1.lt,hGlt⟩);obtain ⟨g,hg⟩:∃ g,w1.heap.size=g:=⟨_,rfl⟩
    have HG2:=wB (show GtR (w1.alloc (.cells #[.pointer none,.pointer (some ⟨R,0,none⟩),.int .i64 0] 147)) g R G (some c) from by
     have hk:=Keep.alloc (fun _=>False) w1 (.cells #[.pointer none,.pointer (some ⟨R,0,none⟩),.int .i64 0] 147);have hlr:=hrd1.lt;refine ⟨0,some c,by rw [←hg];exact wF w1 _,hrd1.keep hk id id,⟨by omega,by omega,hRG⟩,by simp;omega,.inl ⟨c,rfl,rfl,rfl⟩⟩)
    have HK2:=wB (show Keep (fun _=>False) W (w1.alloc (.cells #[.pointer none,.pointer (some ⟨R,0,none⟩),.int .i64 0] 147)) from (Keep.of_below hb1 (wC _) (fun _=>False)).trans (Keep.alloc (fun _=>False) w1 _) (fun _ _ h=>h) (fun _ _ h=>h));have HGE:=wB (show W.heap.size≤g∧R<g from ⟨by rw [←hg];exact hb1.size,by rw [←hg];exact hrd1.lt⟩);clear hb1 hrd1 hR hG hRG hGlt cP0
    gi_wp2_with fail
    try rw [hg]
    clear hg;generalize w1.alloc (.cells #[.pointer none,.pointer (some ⟨R,0,none⟩),.int .i64 0] 147)=w2 at *;have HW2:=wB (HW.out.keep HK2.out (fun _ h=>h.elim) HC.out);have hCl:C+5≤W.heap.size:=by have:=wJ HW.out.t;omega
    have HC9:=wB (show C+9≤W.heap.size from by have h1:=HKW.out.size;have h2:=HBXS.out;have h3:=wJ HROW.out;omega);refine dz ((sS w2 g R G C (some c) HG2.out (HK2.out.old (HZ.out rfl) id) (by have:=HRG.out;have:=HGE.out;omega)).mono ?_);rintro e w3 ⟨rfl,x,s3,hx,hg3,hst3,hpt3,hrx⟩;have HG3:=wB hg3;have HST3:=wB hst3;have HW3:=wB (HW2.out.conf HC.out hpt3 hrx (by have:=HGE.out;have:=HRG.out;have:=HC9.out;refine ⟨?_,?_⟩ <;> omega) (fun b e=>by have:=HBL0.out b e;have:=HKW.out.size;have:=HGE.out;have:=HRG.out;omega) rfl)
    have HK3:=wB (show Keep (fun k=>k=C) W w3 from by
     refine ⟨?_,?_,?_,?_,?_⟩
     · exact hpt3.keep.os.trans HK2.out.os
     · exact hpt3.keep.tape.trans HK2.out.tape
     · exact hpt3.keep.output.trans HK2.out.output
     · exact xc HK2.out.size hpt3.keep.size
     · intro k hk hne
       exact (hpt3.keep.block k (Nat.lt_of_lt_of_le hk HK2.out.size) (fun e=>by have:=HGE.out;have:=HRG.out;rcases e with e | e | e;omega;omega;exact hne e)).trans (HK2.out.block k hk id))
    clear hx hg3 hst3 hpt3 hrx HG2 HW2
    gi_wp2_with fail
    refine dz ((rB w3 g R G s3 HG3.out).mono ?_);rintro e w4 ⟨er,rfl,hE,hg4,hk4⟩;have HE:=wB hE;have HW4:=wB (HW3.out.keep' hk4 (by have:=HGE.out;have:=HC9.out;omega) (fun b e=>by have:=HBL0.out b e;have:=HKW.out.size;have:=HGE.out;omega) HC.out rfl);have HK4:=wB (show Keep (fun k=>k=C) W w4 from ⟨hk4.os.trans HK3.out.os,hk4.tape.trans HK3.out.tape,hk4.output.trans HK3.out.output,xc HK3.out.size hk4.size,fun k hk hne=>(hk4.block k (Nat.lt_of_lt_of_le hk HK3.out.size) (fun e=>by have:=HGE.out;have e':k=g:=e;omega)).trans (HK3.out.block k hk hne)⟩);clear hE hg4 hk4 HW3 HK3
    have HXK:=wB (show ∀ k,k<W.heap.size→k=C→rdX C (C+5) (C+6) W0.heap.size k from fun k hk e=>by
     have h1:=wJ (hkwT.out.1);have h2:=hkwT.out.2;unfold rdX;omega)
    have HBAD:=wB (fun (w':World) (hk:Keep (fun _=>False) w4 w') (hno:aH cx c=none)=>show Keep (rdX C (C+5) (C+6) W0.heap.size) W w'∧uH w C l0 w' from
     ⟨(HK4.out.trans hk (fun _ _ h=>h) (fun _ _ h=>h.elim)).mono HXK.out,cx,x,sv,[],be4 sa,HRA.out.stop (.inr ⟨c,s,HNX.out,hno⟩),fun h=>absurd rfl h,rfl,Nat.zero_le _,dB _,fun _=>rfl,HW4.out.keep hk (fun _ h=>h.elim) HC.out⟩)
    by_cases her:er=0
    · subst her
      have HS3:=wB (HE.out.1 rfl)
      have HCF:=wB (show je c=some (x,[]) from by
       have h1:=HST3.out.1;have h2:=HST3.out.2;rw [HS3.out] at h1;simp only [Option.bind_some] at h1 h2;cases hp:je c with
       | none=>rw [hp] at h1;cases h1
       | some y=>
         obtain ⟨y,r⟩:=y;rw [hp] at h1;have h3:=h2 y r hp;simp at h1;rw [h3,←h1])
      clear HE HST3 HS3;have k0:w4.cell? ⟨C,0,none⟩=some (.int .i64 x.q):=HW4.out.c 0 _ rfl;have k1:w4.cell? ⟨C,1,none⟩=some (.int .i64 x.d):=HW4.out.c 1 _ rfl;have k2:w4.cell? ⟨C,2,none⟩=some (.int .i64 x.w):=HW4.out.c 2 _ rfl;have k3:w4.cell? ⟨C,3,none⟩=some (.int .i64 x.ttl):=HW4.out.c 3 _ rfl;have k4:w4.cell? ⟨C,4,none⟩=some (.int .i64 x.b):=HW4.out.c 4 _ rfl
      gi_wp2_with fail
      refine dz ((dN w4 x).mono ?_);rintro e w5 ⟨rfl,hb5⟩;have HK5:=wB (Keep.of_below hb5 (wC _) (fun _=>False));have HW5:=wB (HW4.out.keep HK5.out (fun _ h=>h.elim) HC.out);clear hb5 k0 k1 k2 k3 k4;by_cases hce:aA x=0
      · have b2:(aA x != 0)=false:=by simp [hce]
        have HST:=wB (show aH cx c=some ⟨cn+12,x,[],0⟩ from by
         rw [ir HCF.out,if_pos hce,HCN.out])
        have HNA:=wB (HRA.out.next HBY.out HNX.out HST.out);clear hce;have cP:w5.cell? ⟨C+2,0,none⟩=some (.int .i64 0):=by rw [wG _ _ _ _ _ (0,0) HW5.out.p];rfl
        have fP:=fun j=>wZ w5 (C+2) j _ _ HW5.out.p
        have hcm:=HCM.out;obtain ⟨z0,z1,z2,z3,hz⟩:∃ z0 z1 z2 z3,be4 s=[z0,z1,z2,z3]:=⟨_,_,_,_,rfl⟩
        have HRW5:=wB (show w5.heap[BX]?=some (.cells #[.int .u8 z0,.int .u8 z1,.int .u8 z2,.int .u8 z3] 139 (0,0)) from by
         have:=HK5.out.old (HK4.out.old HROW.out (by have:=HBXS.out;omega)) id;rw [hz] at this;exact this)
        obtain ⟨y0,y1,y2,y3,hy⟩:∃ y0 y1 y2 y3,be4 sa=[y0,y1,y2,y3]:=⟨_,_,_,_,rfl⟩
        have HX5:=wB (show w5.heap[C+3]?=some (.cells #[.int .u8 y0,.int .u8 y1,.int .u8 y2,.int .u8 y3] 139 (0,0)) from by
         have:=HW5.out.x;rw [hy] at this;exact this)
        have HZZ:=wB hz;have HYY:=wB hy;clear hz hy;have hBX1:C+8≤BX:=by have:=HBXS.out;omega
        have q0:w5.cell? ⟨BX,0,none⟩=some (.int .u8 z0):=by rw [wG _ _ _ _ _ (0,0) HRW5.out];rfl
        have q1:w5.cell? ⟨BX,1,none⟩=some (.int .u8 z1):=by rw [wG _ _ _ _ _ (0,0) HRW5.out];rfl
        have q2:w5.cell? ⟨BX,2,none⟩=some (.int .u8 z2):=by rw [wG _ _ _ _ _ (0,0) HRW5.out];rfl
        have q3:w5.cell? ⟨BX,3,none⟩=some (.int .u8 z3):=by rw [wG _ _ _ _ _ (0,0) HRW5.out];rfl
        have r0:w5.cell? ⟨C+3,0,none⟩=some (.int .u8 y0):=by rw [wG _ _ _ _ _ (0,0) HX5.out];rfl
        have r1:w5.cell? ⟨C+3,1,none⟩=some (.int .u8 y1):=by rw [wG _ _ _ _ _ (0,0) HX5.out];rfl
        have r2:w5.cell? ⟨C+3,2,none⟩=some (.int .u8 y2):=by rw [wG _ _ _ _ _ (0,0) HX5.out];rfl
        have r3:w5.cell? ⟨C+3,3,none⟩=some (.int .u8 y3):=by rw [wG _ _ _ _ _ (0,0) HX5.out];rfl
        have rf:=fun j=>wZ w5 (C+3) j _ _ HX5.out
        have HFIN:=wB (show Keep (rdX C (C+5) (C+6) W0.heap.size) W (((((w5.setCell ⟨C+2,0,none⟩ (.int .i64 ((cn:Int)+12))).setCell ⟨C+3,0,none⟩ (.int .u8 z0)).setCell ⟨C+3,1,none⟩ (.int .u8 z1)).setCell ⟨C+3,2,none⟩ (.int .u8 z2)).setCell ⟨C+3,3,none⟩ (.int .u8 z3))∧RjAt w C l0 (be4 s) (cx.pos+(cn+12)) (((((w5.setCell ⟨C+2,0,none⟩ (.int .i64 ((cn:Int)+12))).setCell ⟨C+3,0,none⟩ (.int .u8 z0)).setCell ⟨C+3,1,none⟩ (.int .u8 z1)).setCell ⟨C+3,2,none⟩ (.int .u8 z2)).setCell ⟨C+3,3,none⟩ (.int .u8 z3)) from by
         have hC0:=wJ hkwT.out.1;have hp:=HW5.out.setP HC.out (cn+12);have hx:=hp.setX HC.out (dB sa) (be4 s) (dB s);have e1:((cn+12:Nat):Int)=(cn:Int)+12:=by omega
         have hkx:=(aJ w5 (C+2) 0 (.int .i64 ((cn:Int)+12))).trans (Keep.setCells (w5.setCell ⟨C+2,0,none⟩ (.int .i64 ((cn:Int)+12))) (C+3) 0 (cellsOf ah (be4 s))) (Z:=fun k=>k=C+2∨k=C+3) (fun _ _ h=>.inl h) (fun _ _ h=>.inr h);rw [e1] at hx;rw [HZZ.out] at hx hkx;rw [HZZ.out];refine ⟨?_,⟨cn+12,x,[],0⟩,sv,[],?_,?_,rfl,Nat.zero_le _,fQ,fun e=>absurd e (by show ¬ cx.pos+(cn+12)=0;omega),?_⟩
         · exact ((HK4.out.trans HK5.out (Z:=fun k=>k=C) (fun _ _ h=>h) (fun _ _ h=>h.elim)).trans hkx (Z:=rdX C (C+5) (C+6) W0.heap.size) (fun k hk e=>HXK.out k hk e) (fun k hk e=>by unfold rdX;omega))
         · have:=HNA.out
           rw [HZZ.out] at this;exact this
         · show cn+12=cx.pos+(cn+12)
           rw [show cx.pos=0 from rfl];omega
         · rw [show cx.pos+(cn+12)=cn+12 by rw [show cx.pos=0 from rfl];omega]
           exact hx)
        gi_wp2_with fail
        exact HFIN.out
      · have b2:(aA x != 0)=true:=by simp [hce]
        have HEX:=wB (HBAD.out w5 HK5.out (by rw [ir HCF.out,if_neg hce]));clear hce
        gi_wp2_with fail
        exact ⟨HEX.out.1,rfl,HEX.out.2⟩
    · have b1:(er != 0)=true:=by simp [her]
      have HEX:=wB (HBAD.out w4 (Keep.refl _ _) (iL (fun y hp=>by
       have h1:=HST3.out.1;simp only [Option.bind_some,hp,Option.map_some] at h1;exact her (HE.out.2 h1))))
      clear her
      gi_wp2_with fail
      refine ⟨trivial,?_⟩
      gi_wp2_with fail
      exact ⟨HEX.out.1,rfl,HEX.out.2⟩
  · have b0:((st.pos:Int)==0)=false:=by simp;omega
    have hst9:st.pos≤1000000000:=by have:=HRA.out.le;have:=HM.out;have:=HN.out;omega
    have HP0:=wB hp0;clear hp0
    gi_wp2_with fail
    refine dz ((decode_any W ao' cn cc c HCN.out HRD.out HCB.out HCM.out).mono ?_);rintro e w1 ⟨hb1,v,er,rfl,hm⟩;have HM1:=wB hm;have HK1:=wB (Keep.of_below hb1 (wC _) (fun _=>False));clear hb1 hm cP;obtain ⟨W2,hW2⟩:∃ W2,w1.alloc (.cells #[.int .i64 v.x.tick,.slice v.wo v.wn v.wc,.slice v.ko v.kn v.kc,.int .i64 v.x.rows,.int .i64 v.x.cols,.slice v.eo v.en v.ec,.slice v.po v.pn v.pc,.slice v.yo v.yn v.yc,.slice v.zo v.zn v.zc] 34)=W2:=⟨_,rfl⟩;have HW2E:=wB hW2;obtain ⟨H,hH⟩:∃ H,w1.heap.size=H:=⟨_,rfl⟩;have HHE:=wB hH;have HKA:=wB (show Keep (fun _=>False) w1 W2 from by rw [←hW2];exact Keep.alloc _ _ _);have HK2:=wB (HK1.out.trans HKA.out (Z:=fun _=>False) (fun _ _ h=>h) (fun _ _ h=>h));have HHR:=wB (show W2.heap[H]?=some (.cells #[.int .i64 v.x.tick,.slice v.wo v.wn v.wc,.slice v.ko v.kn v.kc,.int .i64 v.x.rows,.int .i64 v.x.cols,.slice v.eo v.en v.ec,.slice v.po v.pn v.pc,.slice v.yo v.yn v.yc,.slice v.zo v.zn v.zc] 34 (0,0)) from by rw [←hW2,←hH];exact wF w1 _);have HB2:=wB (HW.out.keep HK2.out (fun _ h=>h.elim) HC.out);have HCH:=wB (show C+9≤H from by have h1:=HK1.out.size;have h2:=HKW.out.size;have h3:=HBXS.out;have h4:=wJ HROW.out;omega);clear hW2 hH
    have HEXIT:=wB (fun (hno:aH st c=none)=>show Keep (rdX C (C+5) (C+6) W0.heap.size) W W2∧uH w C l0 W2 from
     ⟨HK2.out.mono (fun _ _ h=>h.elim),st,st.c,sv,vs,be4 sa,HRA.out.stop (.inr ⟨c,s,HNX.out,hno⟩),fun _=>rfl,HVS.out,HRA.out.le,dB _,HRA.out.zero,HB2.out⟩)
    by_cases her:er=0
    · subst her
      have h0:W2.cell? ⟨H,0,none⟩=some (.int .i64 v.x.tick):=by rw [wG _ _ _ _ _ (0,0) HHR.out];rfl
      have cT:W2.cell? ⟨C+4,0,none⟩=some (.int .i64 st.tick):=by rw [wG _ _ _ _ _ (0,0) HB2.out.t];rfl
      have fT:=fun j=>wZ W2 (C+4) j _ _ HB2.out.t
      obtain ⟨x,hdx,hvx,hvin,hvz⟩:∃ x,gk c=some x∧v.x=x∧v.In w1∧v.Zone W.heap.size w1.heap.size:=by
       have:=HM1.out;cases hd:gk c with
       | none=>rw [hd] at this;exact absurd rfl this
       | some x=>rw [hd] at this;exact ⟨x,rfl,this.2⟩
      have HDX:=wB hdx;have HVX:=wB hvx;have HVI:=wB hvin;have HVZ:=wB hvz;clear hdx hvx hvin hvz HM1;by_cases hlt:st.tick<v.x.tick
      · have b2:decide (v.x.tick≤st.tick)=false:=decide_eq_false (by omega)
        have HST:=wB (show aH st c=some ⟨st.pos+(cn+12),st.c,st.recs++[v.x],v.x.tick⟩ from by
         rw [fp HP0.out,HDX.out];simp only;rw [←HVX.out,if_pos hlt,HCN.out])
        have HNA:=wB (HRA.out.next HBY.out HNX.out HST.out);clear hlt;obtain ⟨i5,hi,hz0,hz1,hz2⟩:=rU;have cL:W2.cell? ⟨C+1,0,none⟩=some sv:=by rw [wG _ _ _ _ _ (0,0) HB2.out.l];rfl
        obtain ⟨W3,hW3⟩:∃ W3,W2.setCell ⟨C+4,0,none⟩ (.int .i64 v.x.tick)=W3:=⟨_,rfl⟩;have HW3E:=wB hW3;have HK23:=wB (aJ W2 (C+4) 0 (.int .i64 v.x.tick))
        have HCE:=wB (fun (j:Nat) (u:Value) (hu:v.cells[j]?=some u)=>show (W2.setCell ⟨C+4,0,none⟩ (.int .i64 v.x.tick)).cell? ⟨H,0+j,none⟩=some u from by
         rw [Nat.zero_add];refine HK23.out.cell (p:=⟨H,j,none⟩) ((wG _ _ _ _ _ (0,0) HHR.out).trans ?_) (by have:=HCH.out;show ¬ H=C+4;omega);rw [←hu];simp [RV.cells])
        have HB3:=wB (show bU w C st.c sv st.pos (be4 sa) v.x.tick vs W3 from by rw [←hW3];exact HB2.out.setT HC.out v.x.tick);have HK3:=wB (show Keep (fun k=>k=C+4) W2 W3 from by rw [←hW3];exact HK23.out);have HAL3:=wB (Keep.alloc (fun _=>False) W3 (.cells #[.int .i64 v.x.tick,.slice v.wo v.wn v.wc,.slice v.ko v.kn v.kc,.int .i64 v.x.rows,.int .i64 v.x.cols,.slice v.eo v.en v.ec,.slice v.po v.pn v.pc,.slice v.yo v.yn v.yc,.slice v.zo v.zn v.zc] 34));have HOWN:=wB (HB3.out.rs.own.keep HAL3.out (fun _ _=>id));have HRSA:=wB (HB3.out.rs.keep HAL3.out (fun _ h=>h.elim));have HLEN:=wB (show vs.length≤1000000000 from xc HVL.out hst9);have HML:=wB (show vs.length+1≤maxLen from by have:=HLEN.out;unfold maxLen;omega);have HBYT:=wB (show (vs.length+1)*168≤140737488355328 from by have:=HLEN.out;omega);have HC9:=wB (show C+9≤W.heap.size from by have h1:=HKW.out.size;have h2:=HBXS.out;have h3:=wJ HROW.out;omega);clear hW3
        gi_wp2_with (first | ((with_reducible refine fY (o:=⟨none,.store 34 (.tmp 11) (.tmp 36),_,_,_,_⟩) ?_ 34 (.tmp 11) (.tmp 36) ?_ _ #[.int .i64 v.x.tick,.slice v.wo v.wn v.wc,.slice v.ko v.kn v.kc,.int .i64 v.x.rows,.int .i64 v.x.cols,.slice v.eo v.en v.ec,.slice v.po v.pn v.pc,.slice v.yo v.yn v.yc,.slice v.zo v.zn v.zc] ?_ ?_ v.cells ?_ ?_ ?_ (RV.cells_one v) ?_);rfl;rfl;rfl;rfl;rfl;exact da;rfl;rw [HW2E.out,HHE.out]) | ((with_reducible refine nF (o:=⟨some 49,_,_,_,_,_⟩) ?_ 34 (.tmp 11) ?_ H 0 ?_ v.cells #[.int .i64 v.x.tick,.slice v.wo v.wn v.wc,.slice v.ko v.kn v.kc,.int .i64 v.x.rows,.int .i64 v.x.cols,.slice v.eo v.en v.ec,.slice v.po v.pn v.pc,.slice v.yo v.yn v.yc,.slice v.zo v.zn v.zc] ?_ _ HCE.out Tryz.underlying34 ?_ ?_ ?_);rfl;rfl;rfl;rfl;rfl;exact da;rw [HW3E.out]) | (gi_at_builtin;refine ml rfl (.tmp 48) (.tmp 50) 43 43 rfl 34 i5 nd 9 168 Tryz.underlying43 hi hz0 hz1 hz2 rfl sv vs.length (cellsOf RV.cells vs) (by first | rfl | simp [Act.eval]) HOWN.out (.slice (some ⟨W3.heap.size,0,none⟩) 1 1) 1 v.cells (by first | rfl | simp [Act.eval]) (Src.lit Tryz.underlying43 9 _ rfl (RV.cells_one v) _ _ (by first | rfl | simp [RV.cells])) HML.out HBYT.out ?_))
        intro ao2 q2 w5 ho2 hk2 hb2;have HSV:=wB (fun b (e:sv.ownBlock=some b)=>HB3.out.rs.blk b e);have HKW5:=wB (HAL3.out.trans hk2 (Z:=fun k=>sv.ownBlock=some k) (fun _ _ h=>h.elim) (fun _ _ h=>h))
        have HRS:=wB (HRSA.out.push (W0:=W) (W1:=w1) (X:=fun k=>k=C+4) HVI.out HVZ.out HK1.out.size HC9.out (fun b e=>by have h1:=HBL0.out b e;have h2:=HKW.out.size;omega)
         ((HKA.out.trans HK3.out (Z:=fun k=>k=C+4) (fun _ _ h=>h.elim) (fun _ _ h=>h)).trans HAL3.out (fun _ _ h=>h) (fun _ _ h=>h.elim)) (fun k hk=>.inl (by omega)) ho2 hk2 (by
           rcases hb2 with h | ⟨g',h1,h2⟩
           · exact .inl h
           · exact .inr ⟨g',h1,by simpa using h2⟩))
        have HBF:=wB (HB3.out.setL HC.out HKW5.out HRS.out);clear ho2 hk2 hb2 h0 cT fT cL;have HK5:=wB (show Keep (fun k=>k=C+4∨sv.ownBlock=some k) W w5 from (HK2.out.trans HK3.out (Z:=fun k=>k=C+4∨sv.ownBlock=some k) (fun _ _ h=>h.elim) (fun _ _ h=>.inl h)).trans HKW5.out (fun _ _ h=>h) (fun _ _ h=>.inr h));have c5:w5.cell? ⟨C+1,0,none⟩=some sv:=HKW5.out.cell (by rw [wG _ _ _ _ _ (0,0) HB3.out.l];rfl) (fun e=>by have h9:C+9≤C+1:=HSV.out (C+1) e;omega);have l5:=HKW5.out.old HB3.out.l (fun e=>by have:=HSV.out _ e;omega);have f5:=fun j=>wZ w5 (C+1) j _ _ l5
        have P5:=HKW5.out.old HB3.out.p (fun e=>by have:=HSV.out _ e;omega);have p5:w5.cell? ⟨C+2,0,none⟩=some (.int .i64 (st.pos:Int)):=by rw [wG _ _ _ _ _ (0,0) P5];rfl
        have pf:=fun j=>wZ w5 (C+2) j _ _ P5
        have hcm:=HCM.out;obtain ⟨z0,z1,z2,z3,hz⟩:∃ z0 z1 z2 z3,be4 s=[z0,z1,z2,z3]:=⟨_,_,_,_,rfl⟩
        have HRW5:=wB (show w5.heap[BX]?=some (.cells #[.int .u8 z0,.int .u8 z1,.int .u8 z2,.int .u8 z3] 139 (0,0)) from by
         have:=HK5.out.old HROW.out (by
          have h1:=HBXS.out;rintro (e | e)
          · omega
          · have:=HBL0.out _ e
            omega)
         rw [hz] at this;exact this)
        obtain ⟨y0,y1,y2,y3,hy⟩:∃ y0 y1 y2 y3,be4 sa=[y0,y1,y2,y3]:=⟨_,_,_,_,rfl⟩
        have HX5:=wB (show w5.heap[C+3]?=some (.cells #[.int .u8 y0,.int .u8 y1,.int .u8 y2,.int .u8 y3] 139 (0,0)) from by
         have:=HKW5.out.old HB3.out.x (fun e=>by have:=HSV.out _ e;omega);rw [hy] at this;exact this)
        have HZZ:=wB hz;clear hz hy l5 P5;have hBX1:C+8≤BX:=by have:=HBXS.out;omega
        have q0:w5.cell? ⟨BX,0,none⟩=some (.int .u8 z0):=by rw [wG _ _ _ _ _ (0,0) HRW5.out];rfl
        have q1:w5.cell? ⟨BX,1,none⟩=some (.int .u8 z1):=by rw [wG _ _ _ _ _ (0,0) HRW5.out];rfl
        have q2':w5.cell? ⟨BX,2,none⟩=some (.int .u8 z2):=by rw [wG _ _ _ _ _ (0,0) HRW5.out];rfl
        have q3:w5.cell? ⟨BX,3,none⟩=some (.int .u8 z3):=by rw [wG _ _ _ _ _ (0,0) HRW5.out];rfl
        have r0:w5.cell? ⟨C+3,0,none⟩=some (.int .u8 y0):=by rw [wG _ _ _ _ _ (0,0) HX5.out];rfl
        have r1:w5.cell? ⟨C+3,1,none⟩=some (.int .u8 y1):=by rw [wG _ _ _ _ _ (0,0) HX5.out];rfl
        have r2:w5.cell? ⟨C+3,2,none⟩=some (.int .u8 y2):=by rw [wG _ _ _ _ _ (0,0) HX5.out];rfl
        have r3:w5.cell? ⟨C+3,3,none⟩=some (.int .u8 y3):=by rw [wG _ _ _ _ _ (0,0) HX5.out];rfl
        have rf:=fun j=>wZ w5 (C+3) j _ _ HX5.out
        have HFIN:=wB (show Keep (rdX C (C+5) (C+6) W0.heap.size) W ((((((w5.setCell ⟨C+1,0,none⟩ (.slice ao2 (vs.length+1) q2)).setCell ⟨C+2,0,none⟩ (.int .i64 ((st.pos:Int)+((cn:Int)+12)))).setCell ⟨C+3,0,none⟩ (.int .u8 z0)).setCell ⟨C+3,1,none⟩ (.int .u8 z1)).setCell ⟨C+3,2,none⟩ (.int .u8 z2)).setCell ⟨C+3,3,none⟩ (.int .u8 z3))∧
         RjAt w C l0 (be4 s) (st.pos+(cn+12)) ((((((w5.setCell ⟨C+1,0,none⟩ (.slice ao2 (vs.length+1) q2)).setCell ⟨C+2,0,none⟩ (.int .i64 ((st.pos:Int)+((cn:Int)+12)))).setCell ⟨C+3,0,none⟩ (.int .u8 z0)).setCell ⟨C+3,1,none⟩ (.int .u8 z1)).setCell ⟨C+3,2,none⟩ (.int .u8 z2)).setCell ⟨C+3,3,none⟩ (.int .u8 z3)) from by
         have hC0:=wJ hkwT.out.1;have hp:=HBF.out.setP HC.out (st.pos+(cn+12));have hx:=hp.setX HC.out (dB sa) (be4 s) (dB s);have e1:((st.pos+(cn+12):Nat):Int)=(st.pos:Int)+((cn:Int)+12):=by omega
         have hk1:=aJ w5 (C+1) 0 (.slice ao2 (vs.length+1) q2);have hkx:=((hk1.trans (aJ (w5.setCell ⟨C+1,0,none⟩ (.slice ao2 (vs.length+1) q2)) (C+2) 0 (.int .i64 ((st.pos:Int)+((cn:Int)+12)))) (Z:=fun k=>k=C+1∨k=C+2) (fun _ _ h=>.inl h) (fun _ _ h=>.inr h)).trans (Keep.setCells _ (C+3) 0 (cellsOf ah (be4 s))) (Z:=fun k=>k=C+1∨k=C+2∨k=C+3) (fun _ _ h=>h.imp id .inl) (fun _ _ h=>.inr (.inr h)));rw [e1] at hx;rw [HZZ.out] at hx hkx;rw [HZZ.out];refine ⟨?_,⟨st.pos+(cn+12),st.c,st.recs++[v.x],v.x.tick⟩,.slice ao2 (vs.length+1) q2,vs++[v],?_,rfl,?_,?_,HVI.out.ok.tick,fun e=>absurd e (by omega),?_⟩
         · refine HK5.out.trans hkx (Z:=rdX C (C+5) (C+6) W0.heap.size) (fun k hk e=>?_) (fun k hk e=>by unfold rdX;omega)
           rcases e with e | e
           · unfold rdX;omega
           · have h1:=HSV.out k e
             have h2:=HBL0.out k e;unfold rdX;omega
         · have:=HNA.out
           rw [HZZ.out] at this;exact this
         · show (vs++[v]).map (·.x)=st.recs++[v.x]
           rw [List.map_append,HVS.out];rfl
         · show (vs++[v]).length≤_
           rw [List.length_append];have:=HVL.out;simp;omega
         · exact hx)
        gi_wp2_with fail
        exact HFIN.out
      · have b2:decide (v.x.tick≤st.tick)=true:=decide_eq_true (by omega)
        have HEX:=wB (HEXIT.out (by
         rw [fp HP0.out,HDX.out];simp only;rw [←HVX.out,if_neg hlt]))
        clear hlt
        gi_wp2_with (first | ((with_reducible refine fY (o:=⟨none,.store 34 (.tmp 11) (.tmp 36),_,_,_,_⟩) ?_ 34 (.tmp 11) (.tmp 36) ?_ _ #[.int .i64 v.x.tick,.slice v.wo v.wn v.wc,.slice v.ko v.kn v.kc,.int .i64 v.x.rows,.int .i64 v.x.cols,.slice v.eo v.en v.ec,.slice v.po v.pn v.pc,.slice v.yo v.yn v.yc,.slice v.zo v.zn v.zc] ?_ ?_ v.cells ?_ ?_ ?_ (RV.cells_one v) ?_);rfl;rfl;rfl;rfl;rfl;exact da;rfl;rw [HW2E.out,HHE.out]))
        exact ⟨HEX.out.1,rfl,HEX.out.2⟩
    · have b1:(er != 0)=true:=by simp [her]
      have HEX:=wB (HEXIT.out (by
       rw [fp HP0.out];have:=HM1.out;cases hd:gk c with
       | none=>rfl
       | some x=>rw [hd] at this;exact absurd this.1 her))
      clear her
      gi_wp2_with (first | ((with_reducible refine fY (o:=⟨none,.store 34 (.tmp 11) (.tmp 36),_,_,_,_⟩) ?_ 34 (.tmp 11) (.tmp 36) ?_ _ #[.int .i64 v.x.tick,.slice v.wo v.wn v.wc,.slice v.ko v.kn v.kc,.int .i64 v.x.rows,.int .i64 v.x.cols,.slice v.eo v.en v.ec,.slice v.po v.pn v.pc,.slice v.yo v.yn v.yc,.slice v.zo v.zn v.zc] ?_ ?_ v.cells ?_ ?_ ?_ (RV.cells_one v) ?_);rfl;rfl;rfl;rfl;rfl;exact da;rfl;rw [HW2E.out,HHE.out]))
      exact ⟨HEX.out.1,rfl,HEX.out.2⟩
 case done=>
  rintro sa pos W ⟨st,sv,vs,hra,rfl,hvs,hvl,hti,hz0,hbx⟩ hnx;exact ⟨st,st.c,sv,vs,be4 sa,hra.stop (.inl hnx),fun _=>rfl,hvs,hra.le,dB _,hra.zero,hbx⟩
 case rest=>
  rintro W ⟨st,c,sv,vs,x,h1,h2,h3,h4,h5,h6,hbx⟩ hD;have H1:=wB h1;have H2:=wB h2;have H3:=wB h3;have H4:=wB h4;have H6:=wB h6;have HB:=wB hbx;have HDD:=wB hD;obtain ⟨y0,y1,y2,y3,rfl⟩:=ib h5;obtain ⟨ao3,cap3,rfl,hrd3,hnew3⟩:=lS hbx.rs.own hbx.rs.blk;clear hrd3 hnew3;clear h1 h2 h3 h4 h5 h6 hD;have x0:W.cell? ⟨C,0,none⟩=some (.int .i64 c.q):=hbx.c 0 _ rfl;have x1:W.cell? ⟨C,1,none⟩=some (.int .i64 c.d):=hbx.c 1 _ rfl;have x2:W.cell? ⟨C,2,none⟩=some (.int .i64 c.w):=hbx.c 2 _ rfl;have x3:W.cell? ⟨C,3,none⟩=some (.int .i64 c.ttl):=hbx.c 3 _ rfl;have x4:W.cell? ⟨C,4,none⟩=some (.int .i64 c.b):=hbx.c 4 _ rfl;have xf0:W.frozen? ⟨C,0,none⟩=false:=(hbx.ct 0 (by omega)).2;have xf1:W.frozen? ⟨C,1,none⟩=false:=(hbx.ct 1 (by omega)).2;have xf2:W.frozen? ⟨C,2,none⟩=false:=(hbx.ct 2 (by omega)).2;have xf3:W.frozen? ⟨C,3,none⟩=false:=(hbx.ct 3 (by omega)).2;have xf4:W.frozen? ⟨C,4,none⟩=false:=(hbx.ct 4 (by omega)).2;have l0':W.cell? ⟨C+1,0,none⟩=some (.slice ao3 vs.length cap3):=by rw [wG _ _ _ _ _ (0,0) hbx.l];rfl
  have lf:=fun j=>wZ W (C+1) j _ _ hbx.l
  have p0:W.cell? ⟨C+2,0,none⟩=some (.int .i64 (st.pos:Int)):=by rw [wG _ _ _ _ _ (0,0) hbx.p];rfl
  have pf:=fun j=>wZ W (C+2) j _ _ hbx.p
  have u0:W.cell? ⟨C+3,0,none⟩=some (.int .u8 y0):=by rw [wG _ _ _ _ _ (0,0) hbx.x];rfl
  have u1:W.cell? ⟨C+3,1,none⟩=some (.int .u8 y1):=by rw [wG _ _ _ _ _ (0,0) hbx.x];rfl
  have u2:W.cell? ⟨C+3,2,none⟩=some (.int .u8 y2):=by rw [wG _ _ _ _ _ (0,0) hbx.x];rfl
  have u3:W.cell? ⟨C+3,3,none⟩=some (.int .u8 y3):=by rw [wG _ _ _ _ _ (0,0) hbx.x];rfl
  have uf:=fun j=>wZ W (C+3) j _ _ hbx.x
  clear hbx;dsimp only;by_cases hp:st.pos=0
  · obtain rfl:st=cx:=H6.out hp
    have p0':W.cell? ⟨C+2,0,none⟩=some (.int .i64 0):=p0;clear p0;simp only [Exit.inBlock,Exit.then,↓reduceIte]
    gi_step
    refine wpIn_wide.2 ?_;go_wp2_with fail
    obtain ⟨WF,hWF,fC,fL,fP,fX,fD,fK⟩:=o8 HB.out HDD.out (by omega) gi (.slice none 0 0) 0 [0,0,0,0] rfl rfl
    change bodyPostM Fence.wide 5 Tryz.prog Tryz.f75 (qQ w l0) Exit.ret _ ((((W.setCells C 0 gi.cells).setCell ⟨C+1,0,none⟩ (.slice none 0 0)).setCell ⟨C+2,0,none⟩ (.int .i64 0)).setCells (C+3) 0 (cellsOf ah [0,0,0,0]))
    rw [hWF];refine ⟨by simp,.inl ⟨_,_,rfl,run_takeDeferred fD,?_⟩⟩;have kG:=o9 WF (C+6) (.deferred none)
    have HFIN:=wB (show Below w.heap.size w (WF.putObj (C+6) (.deferred none)) from by
     have hs:=HB.out.below.size;exact (HB.out.below.trans (fK.below (xc (wC _) hs) (fun i hi e=>by have:=HC.out;omega))).trans (kG.below (xc hs fK.size) (fun i hi e=>by have:=HC.out;omega)))
    have v0:(WF.putObj (C+6) (.deferred none)).cell? ⟨C,0,none⟩=some (.int .i64 0):=kG.cell (fC 0 _ rfl) (by show ¬ C=C+6;omega);have v1:(WF.putObj (C+6) (.deferred none)).cell? ⟨C,1,none⟩=some (.int .i64 0):=kG.cell (fC 1 _ rfl) (by show ¬ C=C+6;omega);have v2:(WF.putObj (C+6) (.deferred none)).cell? ⟨C,2,none⟩=some (.int .i64 0):=kG.cell (fC 2 _ rfl) (by show ¬ C=C+6;omega);have v3:(WF.putObj (C+6) (.deferred none)).cell? ⟨C,3,none⟩=some (.int .i64 0):=kG.cell (fC 3 _ rfl) (by show ¬ C=C+6;omega);have v4:(WF.putObj (C+6) (.deferred none)).cell? ⟨C,4,none⟩=some (.int .i64 0):=kG.cell (fC 4 _ rfl) (by show ¬ C=C+6;omega);have v5:(WF.putObj (C+6) (.deferred none)).cell? ⟨C+1,0,none⟩=some (.slice none 0 0):=kG.cell fL (by show ¬ C+1=C+6;omega);have v6:(WF.putObj (C+6) (.deferred none)).cell? ⟨C+2,0,none⟩=some (.int .i64 0):=kG.cell fP (by show ¬ C+2=C+6;omega);have t0:(WF.putObj (C+6) (.deferred none)).cell? ⟨C+3,0,none⟩=some (.int .u8 0):=kG.cell (fX 0 _ rfl) (by show ¬ C+3=C+6;omega);have t1:(WF.putObj (C+6) (.deferred none)).cell? ⟨C+3,1,none⟩=some (.int .u8 0):=kG.cell (fX 1 _ rfl) (by show ¬ C+3=C+6;omega);have t2:(WF.putObj (C+6) (.deferred none)).cell? ⟨C+3,2,none⟩=some (.int .u8 0):=kG.cell (fX 2 _ rfl) (by show ¬ C+3=C+6;omega);have t3:(WF.putObj (C+6) (.deferred none)).cell? ⟨C+3,3,none⟩=some (.int .u8 0):=kG.cell (fX 3 _ rfl) (by show ¬ C+3=C+6;omega);exact ⟨.tuple #[.agg #[.int .i64 0,.int .i64 0,.int .i64 0,.int .i64 0,.int .i64 0],.slice none 0 0,.int .i64 0,.agg #[.int .u8 0,.int .u8 0,.int .u8 0,.int .u8 0],.int .i64 250],by simp [results,Tryz.results75,go_sem,v0,v1,v2,v3,v4,v5,v6,t0,t1,t2,t3],HFIN.out,cx,0,0,0,0,H1.out,by rw [if_pos (show cx.pos=0 from rfl)]⟩
  · have b1:((st.pos:Int)==0)=false:=by simp;omega
    simp only [Exit.inBlock,Exit.then,↓reduceIte]
    gi_step
    refine wpIn_wide.2 ?_;go_upto_region 17 with fail
    go_region
    have HCE:=wB (H2.out hp);go_wp2_with fail
    obtain ⟨WF,hWF,fC,fL,fP,fX,fD,fK⟩:=o8 HB.out HDD.out (by omega) c (.slice ao3 vs.length cap3) (st.pos:Int) [y0,y1,y2,y3] rfl rfl
    change bodyPostM Fence.wide 5 Tryz.prog Tryz.f75 (qQ w l0) Exit.ret _ ((((W.setCells C 0 c.cells).setCell ⟨C+1,0,none⟩ (.slice ao3 vs.length cap3)).setCell ⟨C+2,0,none⟩ (.int .i64 (st.pos:Int))).setCells (C+3) 0 (cellsOf ah [y0,y1,y2,y3])).drew
    rw [hWF];have fD':WF.drew.heap[C+6]?=some (.deferred (some [])):=fD;refine ⟨by simp,.inl ⟨_,_,rfl,run_takeDeferred fD',?_⟩⟩;have kG:=(Keep.drew (fun _=>False) WF).trans (o9 WF.drew (C+6) (.deferred none)) (Z:=fun k=>k=C+6) (fun _ _ h=>h.elim) (fun _ _ h=>h)
    have HFIN:=wB (show Below w.heap.size w (WF.drew.putObj (C+6) (.deferred none)) from by
     have hs:=HB.out.below.size;exact (HB.out.below.trans (fK.below (xc (wC _) hs) (fun i hi e=>by have:=HC.out;omega))).trans (kG.below (xc hs fK.size) (fun i hi e=>by have:=HC.out;omega)))
    have HRSF:=wB (show eS C (.slice ao3 vs.length cap3) vs (WF.drew.putObj (C+6) (.deferred none)) from ((HB.out.rs.keep fK (fun k h=>by omega)).keep kG (fun k h=>by omega)).low (by omega));have v0:(WF.drew.putObj (C+6) (.deferred none)).cell? ⟨C,0,none⟩=some (.int .i64 c.q):=kG.cell (fC 0 _ rfl) (by show ¬ C=C+6;omega);have v1:(WF.drew.putObj (C+6) (.deferred none)).cell? ⟨C,1,none⟩=some (.int .i64 c.d):=kG.cell (fC 1 _ rfl) (by show ¬ C=C+6;omega);have v2:(WF.drew.putObj (C+6) (.deferred none)).cell? ⟨C,2,none⟩=some (.int .i64 c.w):=kG.cell (fC 2 _ rfl) (by show ¬ C=C+6;omega);have v3:(WF.drew.putObj (C+6) (.deferred none)).cell? ⟨C,3,none⟩=some (.int .i64 c.ttl):=kG.cell (fC 3 _ rfl) (by show ¬ C=C+6;omega);have v4:(WF.drew.putObj (C+6) (.deferred none)).cell? ⟨C,4,none⟩=some (.int .i64 c.b):=kG.cell (fC 4 _ rfl) (by show ¬ C=C+6;omega);have v5:(WF.drew.putObj (C+6) (.deferred none)).cell? ⟨C+1,0,none⟩=some (.slice ao3 vs.length cap3):=kG.cell fL (by show ¬ C+1=C+6;omega);have v6:(WF.drew.putObj (C+6) (.deferred none)).cell? ⟨C+2,0,none⟩=some (.int .i64 (st.pos:Int)):=kG.cell fP (by show ¬ C+2=C+6;omega);have t0:(WF.drew.putObj (C+6) (.deferred none)).cell? ⟨C+3,0,none⟩=some (.int .u8 y0):=kG.cell (fX 0 _ rfl) (by show ¬ C+3=C+6;omega);have t1:(WF.drew.putObj (C+6) (.deferred none)).cell? ⟨C+3,1,none⟩=some (.int .u8 y1):=kG.cell (fX 1 _ rfl) (by show ¬ C+3=C+6;omega);have t2:(WF.drew.putObj (C+6) (.deferred none)).cell? ⟨C+3,2,none⟩=some (.int .u8 y2):=kG.cell (fX 2 _ rfl) (by show ¬ C+3=C+6;omega);have t3:(WF.drew.putObj (C+6) (.deferred none)).cell? ⟨C+3,3,none⟩=some (.int .u8 y3):=kG.cell (fX 3 _ rfl) (by show ¬ C+3=C+6;omega)
    exact ⟨.tuple #[.agg #[.int .i64 c.q,.int .i64 c.d,.int .i64 c.w,.int .i64 c.ttl,.int .i64 c.b],.slice ao3 vs.length cap3,.int .i64 (st.pos:Int),.agg #[.int .u8 y0,.int .u8 y1,.int .u8 y2,.int .u8 y3],.int .i64 0],by simp [results,Tryz.results75,go_sem,v0,v1,v2,v3,v4,v5,v6,t0,t1,t2,t3],HFIN.out,st,y0,y1,y2,y3,H1.out,by
     rw [if_neg hp,←HCE.out];exact ⟨ao3,cap3,vs,rfl,H3.out,by rw [HC.out];exact HRSF.out,H4.out⟩⟩
end Go.Proofs.YtcaicgipibcicaaGreat
