/- Records in memory. -/
import Derived.Test.YtcaicgipibcicaaGreatQHeldTail
import Derived.Test.YtcaicgipibcicaaGreatQClaim
import Derived.Deep.WholeRow
set_option maxRecDepth 100000
set_option linter.unusedVariables false
open Go.Sem renaming run_bind→xK
open List renaming getElem?_eq_some_iff→wD
namespace Go.Proofs.YtcaicgipibcicaaGreat
open Go.RowKit Go.Sort
structure RV where
 x:aw
 wo:Option Addr
 wn:Nat
 wc:Nat
 ko:Option Addr
 kn:Nat
 kc:Nat
 eo:Option Addr
 en:Nat
 ec:Nat
 po:Option Addr
 pn:Nat
 pc:Nat
 yo:Option Addr
 yn:Nat
 yc:Nat
 zo:Option Addr
 zn:Nat
 zc:Nat
structure RV.In (w:World) (v:RV):Prop where
 wl:v.x.ws.length=v.wn
 wr:RdC w v.wo (cellsOf aa.cells v.x.ws)
 wb:v.wn≤1048576
 kl:v.x.ds.length=v.kn
 kr:RdC w v.ko (cellsOf ak.cells v.x.ds)
 kb:v.kn≤1048576
 el:v.x.es.length=v.en
 er:RdC w v.eo (cellsOf ab.cells v.x.es)
 eb:v.en≤1048576
 pl:v.x.ps.length=v.pn
 pr:RdC w v.po (cellsOf ai.cells v.x.ps)
 pb:v.pn≤1048576
 yl:v.x.ys.length=v.yn
 yr:RdC w v.yo (cellsOf bL v.x.ys)
 yb:v.yn≤1048576
 zl:v.x.zs.length=v.zn
 zr:RdC w v.zo (cellsOf bL v.x.zs)
 zb:v.zn≤1048576
 ok:v.x.Ok
theorem RV.In.keep {w w':World} {v:RV} (h:v.In w) (hb:Below w.heap.size w w'):v.In w':=
 ⟨h.wl,h.wr.below hb,h.wb,h.kl,h.kr.below hb,h.kb,h.el,h.er.below hb,h.eb,h.pl,h.pr.below hb,h.pb,h.yl,h.yr.below hb,h.yb,h.zl,h.zr.below hb,h.zb,h.ok⟩
theorem cells9 {w:World} {b:Nat} {a0 a1 a2 a3 a4 a5 a6 a7 a8:Value} {t:TypeId} (h:w.heap[b]?=some (.cells #[a0,a1,a2,a3,a4,a5,a6,a7,a8] t (0,0))) :
 w.cell? ⟨b,0,none⟩=some a0∧w.cell? ⟨b,1,none⟩=some a1∧w.cell? ⟨b,2,none⟩=some a2∧w.cell? ⟨b,3,none⟩=some a3∧w.cell? ⟨b,4,none⟩=some a4∧w.cell? ⟨b,5,none⟩=some a5∧w.cell? ⟨b,6,none⟩=some a6∧w.cell? ⟨b,7,none⟩=some a7∧w.cell? ⟨b,8,none⟩=some a8:=by
 refine ⟨?_,?_,?_,?_,?_,?_,?_,?_,?_⟩ <;> rw [cell_of_row w b _ _ t (0,0) h] <;> rfl
structure eY (w:World) (v:RV) (H0:Nat) (wr:World):Prop where
 g:wr.heap[H0]?=some (.cells #[.int .i64 v.x.tick,.slice v.wo v.wn v.wc,.slice v.ko v.kn v.kc,.int .i64 v.x.rows,.int .i64 v.x.cols,.slice v.eo v.en v.ec,.slice v.po v.pn v.pc,.slice v.yo v.yn v.yc,.slice v.zo v.zn v.zc] 34 (0,0))
 below:Below w.heap.size w wr
theorem eY.keep {w:World} {v:RV} {H0:Nat} {wr w':World} (h:eY w v H0 wr) (hb:Below wr.heap.size wr w'):eY w v H0 w':=
 ⟨(Keep.of_below hb (Nat.le_refl _) (fun _=>False)).old h.g id,Below.next h.below hb⟩
theorem eY.one {w:World} {v:RV} {H0:Nat} {wr:World} (h:eY w v H0 wr) (o:Obj):eY w v H0 (wr.alloc o):=h.keep ((Below.refl _ _).alloc (Nat.le_refl _) _)
theorem eY.begin (w:World) (v:RV):eY w v w.heap.size (w.alloc (.cells #[.int .i64 v.x.tick,.slice v.wo v.wn v.wc,.slice v.ko v.kn v.kc,.int .i64 v.x.rows,.int .i64 v.x.cols,.slice v.eo v.en v.ec,.slice v.po v.pn v.pc,.slice v.yo v.yn v.yc,.slice v.zo v.zn v.zc] 34)):=
 ⟨heap_alloc_new w _,(Below.refl w.heap.size w).alloc (Nat.le_refl _) _⟩
/-! what is said of a record,step by step -/
theorem recE_1 {x:aw} (h:eK x=false):bh x=1:=by simp [bh,h]
theorem recE_2 {x:aw} (h1:eK x=true) (h:eL x=false):bh x=1:=by simp [bh,h,h1]
theorem recE_3 {x:aw} (h1:eK x=true) (h2:eL x=true) (h:fk x=false):bh x=1:=by simp [bh,h,h1,h2]
theorem qx {x:aw} (h1:eK x=true) (h2:eL x=true) (h3:fk x=true) (h:eM x=false):bh x=170:=by simp [bh,h,h1,h2,h3]
theorem recE_5 {x:aw} (h1:eK x=true) (h2:eL x=true) (h3:fk x=true) (h4:eM x=true) (h:cO x.es x.ps=false):bh x=180:=by simp [bh,h,h1,h2,h3,h4]
theorem ui {x:aw} (h1:eK x=true) (h2:eL x=true) (h3:fk x=true) (h4:eM x=true) (h5:cO x.es x.ps=true) (h:bX x.rows x.cols x.ys x.zs=false):bh x=1:=by simp [bh,h,h1,h2,h3,h4,h5]
theorem recE_7 {x:aw} (h1:eK x=true) (h2:eL x=true) (h3:fk x=true) (h4:eM x=true) (h5:cO x.es x.ps=true) (h:bX x.rows x.cols x.ys x.zs=true):bh x=0:=by simp [bh,h,h1,h2,h3,h4,h5]
theorem qy {x:aw} {k:Nat} {y:aa} (hy:x.ws[k]?=some y) (h:¬ (km x.ws k<y.number∧0≤y.since∧y.since≤x.tick)):eL x=false:=
 cW (wD.1 hy).1 (by rw [eD hy];exact decide_eq_false h)
theorem qz {x:aw} {k:Nat} {y:ak} (hy:x.ds[k]?=some y) (h:¬ kp x.ds k<y.number):fk x=false:=
 cW (wD.1 hy).1 (by rw [gU hy];exact decide_eq_false h)
section
variable {P:Program}
theorem aZ (w:World) (b off:Nat) (ty:TypeId) (cs:List Value) (d:TypeDesc) (hc:∀ j u,cs[j]?=some u→w.cell? ⟨b,off+j,none⟩=some u)
 (hu:P.underlying ty=some d) (hd:(match d with | .struct _ | .array _ _=>true | _=>false)=true) (hi:(P.info? ty).map (·.size)=some cs.length) :
 (loadVar ty ⟨b,off,none⟩).run P w = .ok (.agg cs.toArray) w:=by
 have hl:(loadCells ⟨b,off,none⟩ cs.length).run P w = .ok cs.toArray w:=
  run_loadCells_list (P:=P) w ⟨b,off,none⟩ cs (fun j v hv=>by
   have hadd:(⟨b,off,none⟩:Addr).add j=⟨b,off+j,none⟩:=by unfold Addr.add;split <;> simp_all
   rw [hadd];exact hc j v hv)
 cases hq:P.info? ty with
 | none=>simp [hq] at hi
 | some i=>
   have hs:i.size=cs.length:=by simpa [hq] using hi
   have hagg:(isAgg ty).run P w = .ok true w:=by
    unfold isAgg;rw [xK,run_underlying hu w];cases d <;> simp_all
   simp [loadVar,xK,hagg,sizeOf,typeInfo,hq,hs,hl]
theorem jb {o:Oper} {a:Act} {w:World} {K:Act→World→Prop} {Q:Exit→Act→World→Prop} (ty:TypeId) (x:Operand) (ho:o.op = .load ty x)
 (b off:Nat) (hx:a.eval x = .pointer (some ⟨b,off,none⟩)) (cs:List Value) (d:TypeDesc) (hc:∀ j u,cs[j]?=some u→w.cell? ⟨b,off+j,none⟩=some u)
 (hu:P.underlying ty=some d) (hd:(match d with | .struct _ | .array _ _=>true | _=>false)=true) (hi:(P.info? ty).map (·.size)=some cs.length)
 (h:K (a.put o.dst (.agg cs.toArray)) w):o.wp P a w K Q:=by
 unfold Oper.wp execOp;simp only [ho,hx,Instr.loadAt,Instr.sureAddr,xK,Sem.run_pure,Result.andThen_ok,aZ w b off ty cs d hc hu hd hi];exact h
theorem ad {ops:Array Oper} {rest:List Oper} {o:Oper} {a:Act} {w:World} {Q:Exit→Act→World→Prop} (hgd:o.guard=none) (ty:TypeId) (x:Operand) (ho:o.op = .load ty x)
 (b off:Nat) (hx:a.eval x = .pointer (some ⟨b,off,none⟩)) (cs:List Value) (vs:Array Value) (hvs:cs.toArray=vs) (d:TypeDesc) (hc:∀ j u,cs[j]?=some u→w.cell? ⟨b,off+j,none⟩=some u)
 (hu:P.underlying ty=some d) (hd:(match d with | .struct _ | .array _ _=>true | _=>false)=true) (hi:(P.info? ty).map (·.size)=some cs.length)
 (h:wpList P ops Q rest (a.put o.dst (.agg vs)) w):wpList P ops Q (o::rest) a w:=
 wpList_plain hgd fun _ hK=>jb ty x ho b off hx cs d hc hu hd hi (hK _ _ (by rw [hvs];exact h))
theorem aj {ops:Array Oper} {rest:List Oper} {o:Oper} {a:Act} {w:World} {Q:Exit→Act→World→Prop} (hgd:o.guard=none) (ty:TypeId) (p x:Operand) (ho:o.op = .store ty p x) (c c':Array Value)
 (hp:a.eval p = .pointer (some ⟨w.heap.size,0,none⟩)) (hx:a.eval x = .agg c') (cs:List Value) (hc:cs.toArray=c') (hi:(P.info? ty).map (·.size)=some c'.size) (hs:c.size=c'.size) (h1:∀ u ∈ cs,u.oneCell'=true)
 (h:wpList P ops Q rest (a.put o.dst undef) (w.alloc (.cells c' ty))):wpList P ops Q (o::rest) a (w.alloc (.cells c ty)):=by
 refine wpList_plain hgd fun K hK=>?_
 have h1':c'.all (·.oneCell')=true:=by subst hc;rw [List.all_toArray,List.all_eq_true];exact h1
 unfold Oper.wp execOp;simp only [ho,hp,hx,xK,run_storeAt_new w ty c c' hi hs h1',Result.andThen_ok,Sem.run_pure];exact hK _ _ h
end
theorem rx {P:Program} {e:TypeId} {z:Value} {s b:Nat} (h:(P.info? e).map (fun i=>(i.zero,i.size,i.bytes))=some (some z,s,b)):(P.info? e).map (·.size)=some s:=by
 obtain ⟨i,hi,_,hs,_⟩:=dF h;simp [hi,hs]
theorem bd:(Tryz.prog.info? 79).map (·.size)=some 18:=rx mt
theorem ew:(Tryz.prog.info? 83).map (·.size)=some 14:=rx mu
theorem vO:(Tryz.prog.info? 114).map (·.size)=some 3:=rx jp
theorem ns:(Tryz.prog.info? 69).map (·.size)=some 2:=rx jq
def aB.cells (r:aB):List Value:=[.int .u8 r.i0,.int .u8 r.i1,.int .u8 r.i2,.int .u8 r.i3,.int .u8 r.i4,.int .u8 r.i5,.int .u8 r.i6,.int .u8 r.i7,.int .i16 r.fx,.int .i16 r.fy,.int .i16 r.tx,.int .i16 r.ty,.int .u8 r.seats,.int .u8 r.classes,.int .i64 r.base,.int .i64 r.ttl]
def iD.cells (d:iD):List Value:=[.int .u8 d.i0,.int .u8 d.i1,.int .u8 d.i2,.int .u8 d.i3,.int .u8 d.i4,.int .u8 d.i5,.int .u8 d.i6,.int .u8 d.i7,.int .i16 d.ax,.int .i16 d.ay,.int .u8 d.seats,.int .u8 d.cls,.int .i64 d.radius]
def ag.cells (c:ag):List Value:=[.int .i64 c.q,.int .i64 c.d,.int .i64 c.w,.int .i64 c.ttl,.int .i64 c.b]
theorem uj:(Tryz.prog.info? 77).map (·.size)=some 16:=by kernel_rfl
theorem uk:(Tryz.prog.info? 81).map (·.size)=some 13:=by kernel_rfl
theorem cg:(Tryz.prog.info? 23).map (·.size)=some 5:=by kernel_rfl
theorem kt:(Tryz.prog.info? 72).map (·.size)=some 8:=by kernel_rfl
theorem bf {w:World} {H:Nat} {cs:List Value} {vs:Array Value} {t:TypeId} (h:w.heap[H]?=some (.cells vs t (0,0))) (k:Nat) (he:cs=vs.toList.take k):∀ j u,cs[j]?=some u→w.cell? ⟨H,0+j,none⟩=some u:=by
 intro j u hu;rw [Nat.zero_add,cell_of_row w H j _ _ (0,0) h];subst he;rw [List.getElem?_take] at hu;split at hu
 · simpa using hu
 · cases hu
theorem mN {w:World} {H:Nat} {x:aa} {t:TypeId} (h:w.heap[H]?=some (.cells #[.int .u8 x.r.i0,.int .u8 x.r.i1,.int .u8 x.r.i2,.int .u8 x.r.i3,.int .u8 x.r.i4,.int .u8 x.r.i5,.int .u8 x.r.i6,.int .u8 x.r.i7,.int .i16 x.r.fx,.int .i16 x.r.fy,.int .i16 x.r.tx,.int .i16 x.r.ty,.int .u8 x.r.seats,.int .u8 x.r.classes,.int .i64 x.r.base,.int .i64 x.r.ttl,.int .i64 x.since,.int .i64 x.number] t (0,0))):∀ j u,x.r.cells[j]?=some u→w.cell? ⟨H,0+j,none⟩=some u:=bf h 16 rfl
theorem mO {w:World} {H:Nat} {x:ak} {t:TypeId} (h:w.heap[H]?=some (.cells #[.int .u8 x.d.i0,.int .u8 x.d.i1,.int .u8 x.d.i2,.int .u8 x.d.i3,.int .u8 x.d.i4,.int .u8 x.d.i5,.int .u8 x.d.i6,.int .u8 x.d.i7,.int .i16 x.d.ax,.int .i16 x.d.ay,.int .u8 x.d.seats,.int .u8 x.d.cls,.int .i64 x.d.radius,.int .i64 x.number] t (0,0))):∀ j u,x.d.cells[j]?=some u→w.cell? ⟨H,0+j,none⟩=some u:=bf h 13 rfl
theorem qA {w:World} {H:Nat} {x:aa} {t:TypeId} (h:w.heap[H]?=some (.cells #[.int .u8 x.r.i0,.int .u8 x.r.i1,.int .u8 x.r.i2,.int .u8 x.r.i3,.int .u8 x.r.i4,.int .u8 x.r.i5,.int .u8 x.r.i6,.int .u8 x.r.i7,.int .i16 x.r.fx,.int .i16 x.r.fy,.int .i16 x.r.tx,.int .i16 x.r.ty,.int .u8 x.r.seats,.int .u8 x.r.classes,.int .i64 x.r.base,.int .i64 x.r.ttl,.int .i64 x.since,.int .i64 x.number] t (0,0))):∀ j u,x.cells[j]?=some u→w.cell? ⟨H,0+j,none⟩=some u:=bf h 18 rfl
theorem cq {w:World} {H:Nat} {x:ag} {t:TypeId} (h:w.heap[H]?=some (.cells #[.int .i64 x.q,.int .i64 x.d,.int .i64 x.w,.int .i64 x.ttl,.int .i64 x.b] t (0,0))):∀ j u,x.cells[j]?=some u→w.cell? ⟨H,0+j,none⟩=some u:=bf h 5 rfl
theorem fm {w:World} {b o:Nat} {l:List aa} (hr:RdC w (some ⟨b,o,none⟩) (cellsOf aa.cells l)) {i:Nat} {x:aa} (hx:l[i]?=some x):∀ j u,x.cells[j]?=some u→w.cell? ⟨b,o+i*18+j,none⟩=some u:=
 fun j u hu=>bl aa.cells_length hr hx j u hu
theorem fo {w:World} {b o:Nat} {l:List ak} (hr:RdC w (some ⟨b,o,none⟩) (cellsOf ak.cells l)) {i:Nat} {x:ak} (hx:l[i]?=some x):∀ j u,x.cells[j]?=some u→w.cell? ⟨b,o+i*14+j,none⟩=some u:=
 fun j u hu=>bl ak.cells_length hr hx j u hu
end Go.Proofs.YtcaicgipibcicaaGreat
