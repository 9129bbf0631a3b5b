/- Chapter 26 in the reference: the lists of a record. Printed by wip/genrlists.py. -/
import Derived.Test.YtcaicgipibcicaaGreatQRecCk2
import Derived.Test.YtcaicgipibcicaaGreatQRGraph
import Derived.Maps.OwnSet
import Derived.WideKeyArr
set_option maxRecDepth 100000
set_option linter.unusedSimpArgs false
set_option linter.unusedVariables false
open List renaming mem_of_getElem?→wM,mem_of_mem_take→xN
open Nat renaming le_refl→wC
namespace Go.Proofs.YtcaicgipibcicaaGreat
open Go.RowKit Go.Sort
def aB.idc (x:aB):List Value:=[.int .u8 x.i0,.int .u8 x.i1,.int .u8 x.i2,.int .u8 x.i3,.int .u8 x.i4,.int .u8 x.i5,.int .u8 x.i6,.int .u8 x.i7]
def jC (x:aw):List (List Int):=x.ws.map fun w=>idR w.r
def kL (x:aw):List (List Int):=x.ds.map fun d=>idD d.d
theorem ul {ids:List (List Int)} {i k:Nat} {a b:List Int} (hi:ids[i]?=some a) (hk:ids[k]?=some b) (hlt:k<i) (h:b=a):newAt ids i=false:=by
 unfold newAt;rw [hi];exact cW hlt (by simp only [hk];exact decide_eq_false (fun hne=>hne h))
theorem um {ids:List (List Int)} {i:Nat} {a:List Int} (hi:ids[i]?=some a) (h:∀ (k:Nat) (b:List Int),k<i→ids[k]?=some b→b≠a):newAt ids i=true:=by
 unfold newAt;rw [hi];refine bY (fun k hk=>?_);cases hb:ids[k]? with
 | none=>rfl
 | some b=>exact decide_eq_true (h k b hk hb)
theorem vP {x:aw} {k:Nat} {y:aa} (h:x.ws[k]?=some y):(jC x)[k]?=some (idR y.r):=by simp [jC,h]
theorem vQ {x:aw} {k:Nat} {y:ak} (h:x.ds[k]?=some y):(kL x)[k]?=some (idD y.d):=by simp [kL,h]
theorem ry {c:ag} {x:aw} (h:¬ ((x.ws.length:Int)≤c.q∧(x.ds.length:Int)≤c.d)):bO c x=false:=by unfold bO;rw [decide_eq_false h];rfl
theorem rz {c:ag} {x:aw} (h:cV x.ws.length (kq c x.tick x.ws)=false):bO c x=false:=by unfold bO;rw [h];simp
theorem vR {c:ag} {x:aw} (h:cV x.ds.length (ks x.ds)=false):bO c x=false:=by unfold bO;rw [h];simp
theorem vS {c:ag} {x:aw} (h:eW (jC x)=false):bO c x=false:=by unfold bO;rw [show eW (x.ws.map fun w=>idR w.r)=false from h];simp
theorem vT {c:ag} {x:aw} (h:eW (kL x)=false):bO c x=false:=by unfold bO;rw [show eW (x.ds.map fun d=>idD d.d)=false from h];simp
theorem vU {c:ag} {x:aw} (h1:(x.ws.length:Int)≤c.q∧(x.ds.length:Int)≤c.d) (h2:cV x.ws.length (kq c x.tick x.ws)=true) (h3:cV x.ds.length (ks x.ds)=true) (h4:eW (jC x)=true) (h5:eW (kL x)=true):bO c x=true:=by
 unfold bO;rw [decide_eq_true h1,h2,h3,show eW (x.ws.map fun w=>idR w.r)=true from h4,show eW (x.ds.map fun d=>idD d.d)=true from h5];rfl
theorem un {c:ag} {tick:Int} {ws:List aa} {i:Nat} {x:aa} (h:ws[i]?=some x):kq c tick ws i=(decide (bt c x.r=0) && decide (tick≤x.since+x.r.ttl)):=by simp only [kq,h]
theorem uo {ds:List ak} {i:Nat} {x:ak} (h:ds[i]?=some x):ks ds i=decide (bc x.d=0):=by simp only [ks,h]
theorem oT {x:aw} {k:Nat} {y:aa} (h:bh x=0) (hy:x.ws[k]?=some y):0≤y.since∧y.since≤1099511627776∧1≤x.tick∧x.tick≤1099511627776:=by
 obtain ⟨h1,h2,_⟩:=bN h;have h3:=dU h2 (List.getElem?_eq_some_iff.1 hy).1;rw [eD hy] at h3;have h4:=of_decide_eq_true h3;have h5:1≤x.tick∧x.tick≤1099511627776∧x.ws.length≤64∧x.ds.length≤64:=of_decide_eq_true h1;omega
theorem jD {x:aw} (h:bh x=0):x.ws.length≤64∧x.ds.length≤64:=by
 obtain ⟨h1,_⟩:=bN h;have h5:1≤x.tick∧x.tick≤1099511627776∧x.ws.length≤64∧x.ds.length≤64:=of_decide_eq_true h1;omega
structure cu (w:World) (c:ag) (v:RV) (H0 H1:Nat) (wr:World):Prop where
 g:wr.heap[H0]?=some (.cells #[.int .i64 c.q,.int .i64 c.d,.int .i64 c.w,.int .i64 c.ttl,.int .i64 c.b] 23 (0,0))
 h:wr.heap[H1]?=some (.cells #[.int .i64 v.x.tick,.slice v.wo v.wn v.wc,.slice v.ko v.kn v.kc,.int .i64 v.x.rows,.int .i64 v.x.cols,.slice v.eo v.en v.ec,.slice v.po v.pn v.pc,.slice v.yo v.yn v.yc,.slice v.zo v.zn v.zc] 34 (0,0))
 below:Below w.heap.size w wr
theorem cu.keep {w:World} {c:ag} {v:RV} {H0 H1:Nat} {wr w':World} (h:cu w c v H0 H1 wr) (hb:Below wr.heap.size wr w'):cu w c v H0 H1 w':=
 ⟨(Keep.of_below hb (wC _) (fun _=>False)).old h.g id,(Keep.of_below hb (wC _) (fun _=>False)).old h.h id,Below.next h.below hb⟩
theorem cu.one {w:World} {c:ag} {v:RV} {H0 H1:Nat} {wr:World} (h:cu w c v H0 H1 wr) (o:Obj):cu w c v H0 H1 (wr.alloc o):=h.keep ((Below.refl _ _).alloc (wC _) _)
theorem cu.begin (w:World) (c:ag) (v:RV):cu w c v w.heap.size (w.heap.size+1) ((w.alloc (.cells #[.int .i64 c.q,.int .i64 c.d,.int .i64 c.w,.int .i64 c.ttl,.int .i64 c.b] 23)).alloc (.cells #[.int .i64 v.x.tick,.slice v.wo v.wn v.wc,.slice v.ko v.kn v.kc,.int .i64 v.x.rows,.int .i64 v.x.cols,.slice v.eo v.en v.ec,.slice v.po v.pn v.pc,.slice v.yo v.yn v.yc,.slice v.zo v.zn v.zc] 34)):=by
 refine ⟨(Keep.alloc (fun _=>False) _ _).old (heap_alloc_new w _) id,?_,((Below.refl w.heap.size w).alloc (wC _) _).alloc (by simp) _⟩;have:=heap_alloc_new (w.alloc (.cells #[.int .i64 c.q,.int .i64 c.d,.int .i64 c.w,.int .i64 c.ttl,.int .i64 c.b] 23)) (.cells #[.int .i64 v.x.tick,.slice v.wo v.wn v.wc,.slice v.ko v.kn v.kc,.int .i64 v.x.rows,.int .i64 v.x.cols,.slice v.eo v.en v.ec,.slice v.po v.pn v.pc,.slice v.yo v.yn v.yc,.slice v.zo v.zn v.zc] 34);rw [show (w.alloc (.cells #[.int .i64 c.q,.int .i64 c.d,.int .i64 c.w,.int .i64 c.ttl,.int .i64 c.b] 23)).heap.size=w.heap.size+1 by simp] at this;exact this
theorem qB {w:World} {H:Nat} {x:aa} {t:TypeId} (h:w.heap[H]?=some (.cells #[.int .u8 x.r.i0,.int .u8 x.r.i1,.int .u8 x.r.i2,.int .u8 x.r.i3,.int .u8 x.r.i4,.int .u8 x.r.i5,.int .u8 x.r.i6,.int .u8 x.r.i7,.int .i16 x.r.fx,.int .i16 x.r.fy,.int .i16 x.r.tx,.int .i16 x.r.ty,.int .u8 x.r.seats,.int .u8 x.r.classes,.int .i64 x.r.base,.int .i64 x.r.ttl,.int .i64 x.since,.int .i64 x.number] t (0,0))):w.cell? ⟨H,15,none⟩=some (.int .i64 x.r.ttl)∧w.cell? ⟨H,16,none⟩=some (.int .i64 x.since):=by
 refine ⟨?_,?_⟩ <;> rw [cell_of_row w H _ _ t (0,0) h] <;> rfl
theorem uq {w:World} {H:Nat} {x:aa} {t:TypeId} (h:w.heap[H]?=some (.cells #[.int .u8 x.r.i0,.int .u8 x.r.i1,.int .u8 x.r.i2,.int .u8 x.r.i3,.int .u8 x.r.i4,.int .u8 x.r.i5,.int .u8 x.r.i6,.int .u8 x.r.i7,.int .i16 x.r.fx,.int .i16 x.r.fy,.int .i16 x.r.tx,.int .i16 x.r.ty,.int .u8 x.r.seats,.int .u8 x.r.classes,.int .i64 x.r.base,.int .i64 x.r.ttl,.int .i64 x.since,.int .i64 x.number] t (0,0))):w.cell? ⟨H,0,none⟩=some (.int .u8 x.r.i0)∧w.cell? ⟨H,1,none⟩=some (.int .u8 x.r.i1)∧w.cell? ⟨H,2,none⟩=some (.int .u8 x.r.i2)∧w.cell? ⟨H,3,none⟩=some (.int .u8 x.r.i3)∧w.cell? ⟨H,4,none⟩=some (.int .u8 x.r.i4)∧w.cell? ⟨H,5,none⟩=some (.int .u8 x.r.i5)∧w.cell? ⟨H,6,none⟩=some (.int .u8 x.r.i6)∧w.cell? ⟨H,7,none⟩=some (.int .u8 x.r.i7)  := by
 refine ⟨?_,?_,?_,?_,?_,?_,?_,?_⟩ <;> rw [cell_of_row w H _ _ t (0,0) h] <;> rfl
theorem idArr:WideMaps.ArrKey Tryz.prog 72 5 8:=⟨Tryz.underlying72,by kernel_rfl,by kernel_rfl,by kernel_rfl⟩
theorem idLaw:WideMaps.KeyLaw Tryz.prog 72:=idArr.law
theorem gV:Maps.Keyed Tryz.prog 72:=Maps.Keyed.of_law idLaw
def idV (l:List Int):Value:=.agg (l.map (Value.int .u8)).toArray
noncomputable def bP (l:List Int):Lit:=(keyOf Tryz.prog 72 (idV l)).getD .nil
theorem ku {n:Int} (h:bp n):(Lit.int .u8 n).wf=true:=by
 unfold bp at h;simp [Lit.wf,IntKind.min,IntKind.max,IntKind.signed,IntKind.bits];omega
theorem lI {x0 x1 x2 x3 x4 x5 x6 x7:Int} (h0:bp x0) (h1:bp x1) (h2:bp x2) (h3:bp x3) (h4:bp x4) (h5:bp x5) (h6:bp x6) (h7:bp x7) :
 keyOf Tryz.prog 72 (.agg #[.int .u8 x0,.int .u8 x1,.int .u8 x2,.int .u8 x3,.int .u8 x4,.int .u8 x5,.int .u8 x6,.int .u8 x7])=some (bP [x0,x1,x2,x3,x4,x5,x6,x7]):=by
 suffices h:∃ l,keyOf Tryz.prog 72 (.agg #[.int .u8 x0,.int .u8 x1,.int .u8 x2,.int .u8 x3,.int .u8 x4,.int .u8 x5,.int .u8 x6,.int .u8 x7])=some l by
  obtain ⟨l,hl⟩:=h;rw [hl];unfold bP idV;rw [show (Value.agg (List.map (Value.int .u8) [x0,x1,x2,x3,x4,x5,x6,x7]).toArray) = .agg #[.int .u8 x0,.int .u8 x1,.int .u8 x2,.int .u8 x3,.int .u8 x4,.int .u8 x5,.int .u8 x6,.int .u8 x7] from rfl,hl];rfl
 obtain ⟨m,hm⟩:∃ m,Tryz.prog.types.size=m+1:=⟨Tryz.prog.types.size - 1,by
  have:0<Tryz.prog.types.size:=of_decide_eq_true (by kernel_rfl);omega⟩
 have hc:Tryz.prog.cellsOf 5=1:=by kernel_rfl
 have hk:Tryz.prog.cellsOf 72=8:=by kernel_rfl
 have hkt:Tryz.prog.keyType 72=true:=idArr.keyType ⟨m,hm⟩;have hu:Tryz.prog.underlying 5=some (.int .u8):=Tryz.underlying5;unfold keyOf;rw [Tryz.underlying72];simp only [hkt,Value.formed,Tryz.underlying72,Value.cells,hk,hm];simp [Program.keyLits,Tryz.underlying72,hk,hc,hu,List.range_succ,ku h0,ku h1,ku h2,ku h3,ku h4,ku h5,ku h6,ku h7]
theorem rA {a b:List Int} (ha:∃ l,keyOf Tryz.prog 72 (idV a)=some l) (hb:∃ l,keyOf Tryz.prog 72 (idV b)=some l):bP a=bP b↔a=b:=by
 refine ⟨fun h=>?_,fun h=>by rw [h]⟩;obtain ⟨l,hl⟩:=ha;obtain ⟨l',hl'⟩:=hb;unfold bP at h;rw [hl,hl'] at h;simp at h;subst h;have hv:=idLaw.inj hl hl';unfold idV at hv;simp at hv;exact (List.map_inj_right (fun x y h=>by simpa using h)).1 hv
theorem kP {a:List Int} (ha:∃ l,keyOf Tryz.prog 72 (idV a)=some l):WideAt.IsKeyLit (bP a):=by
 obtain ⟨l,hl⟩:=ha;unfold bP;rw [hl];exact gV.key hl
noncomputable def fE (ids:List (List Int)):DataW Unit:=Maps.setOf (.agg []) (ids.map bP)
theorem jE {ids:List (List Int)} {k:Nat} {a:List Int} (h:ids[k]?=some a):fE (ids.take (k+1))=(fE (ids.take k)).put (bP a) (.agg []):=by
 unfold fE;rw [fi h,Maps.setOf_snoc]
def nt (ids:List (List Int)):Prop:=∀ a ∈ ids,∃ l,keyOf Tryz.prog 72 (idV a)=some l
theorem ur {ids:List (List Int)} (hK:nt ids):∀ k,k≤ids.length→(Maps.size (fE (ids.take k))=k∧∀ j,j<k→newAt ids j=true)∨(Maps.size (fE (ids.take k))<k∧eW ids=false):=by
 intro k
 induction k with
 | zero=>exact fun _=>.inl ⟨rfl,fun j h=>absurd h (Nat.not_lt_zero j)⟩
 | succ k ih=>
   intro hk;obtain ⟨a,ha⟩:∃ a,ids[k]?=some a:=⟨ids[k]'(by omega),List.getElem?_eq_getElem _⟩
   have hkey:∀ x ∈ (ids.take k).map bP,WideAt.IsKeyLit x:=by
    intro x hx;obtain ⟨y,hy,rfl⟩:=List.mem_map.1 hx;exact kP (hK y (xN hy))
   have ht:Maps.Tidy (fE (ids.take k)):=Maps.tidy_setOf _ _ hkey;have hh:Maps.has (fE (ids.take k)) (bP a)=((ids.take k).map bP).any (fun x=>x.sameKey (bP a)):=Maps.has_setOf _ _ _ hkey;rw [jE ha,Maps.size_put ht];rcases ih (by omega) with ⟨h1,h2⟩ | ⟨h1,h2⟩
   · cases hq:Maps.has (fE (ids.take k)) (bP a) with
     | true=>
       refine .inr ⟨by simp;omega,?_⟩;rw [hq] at hh;obtain ⟨x,hx,hs⟩:=List.any_eq_true.1 hh.symm;obtain ⟨y,hy,rfl⟩:=List.mem_map.1 hx;obtain ⟨i,hi⟩:=List.mem_iff_getElem?.1 hy;rw [List.getElem?_take] at hi;split at hi
       · rename_i hlt
         refine cW (show k<ids.length by omega) (ul ha hi hlt ?_);exact (rA (hK y (xN hy)) (hK a (wM ha))).1 (WideAt.sameKey_eq hs)
       · cases hi
     | false=>
       refine .inl ⟨by simp;omega,dP h2 (um ha (fun i b hi hb he=>?_))⟩;rw [hq] at hh;subst he;have:=List.any_eq_false.1 hh.symm (bP b) (List.mem_map.2 ⟨b,List.mem_iff_getElem?.2 ⟨i,by rw [List.getElem?_take,if_pos hi];exact hb⟩,rfl⟩);rw [WideAt.sameKey_self (kP (hK b (wM hb)))] at this;exact this rfl
   · exact .inr ⟨by split <;> omega,h2⟩
theorem oU {ids:List (List Int)} (hK:nt ids) {n:Nat} (hn:ids.length=n):(Maps.size (fE ids)=n∧eW ids=true)∨(Maps.size (fE ids)≠n∧eW ids=false):=by
 subst hn;have h:=ur hK ids.length (wC _);rw [List.take_length] at h;rcases h with ⟨h1,h2⟩ | ⟨h1,h2⟩
 · exact .inl ⟨h1,bY h2⟩
 · exact .inr ⟨by omega,h2⟩
theorem ey {X:Nat→Prop} {w w':World} {b n:Nat} {D:DataW Unit} (h:w.ownsMap Tryz.prog 72 unitElem b n D) (hk:Keep X w w') (hx:¬ X b):w'.ownsMap Tryz.prog 72 unitElem b n D:=by
 obtain ⟨es,clock,hb,F,hs,hD⟩:=h;exact ⟨es,clock,hk.old hb hx,F,hs,hD⟩
structure d8 (w:World) (c:ag) (v:RV) (H0 H1 M1 M2 n1 n2:Nat) (D1 D2:DataW Unit) (wr:World):Prop where
 cr:cu w c v H0 H1 wr
 m1:wr.ownsMap Tryz.prog 72 unitElem M1 n1 D1
 m2:wr.ownsMap Tryz.prog 72 unitElem M2 n2 D2
 lt0:H0<M1
 lt1:H1<M1
 lt2:M1<M2
 ge:w.heap.size≤M1
theorem d8.keep {w:World} {c:ag} {v:RV} {H0 H1 M1 M2 n1 n2:Nat} {D1 D2:DataW Unit} {wr w':World} (h:d8 w c v H0 H1 M1 M2 n1 n2 D1 D2 wr) (hb:Below wr.heap.size wr w'):d8 w c v H0 H1 M1 M2 n1 n2 D1 D2 w':=
 ⟨h.cr.keep hb,ey h.m1 (Keep.of_below hb (wC _) (fun _=>False)) id,ey h.m2 (Keep.of_below hb (wC _) (fun _=>False)) id,h.lt0,h.lt1,h.lt2,h.ge⟩
theorem d8.one {w:World} {c:ag} {v:RV} {H0 H1 M1 M2 n1 n2:Nat} {D1 D2:DataW Unit} {wr:World} (h:d8 w c v H0 H1 M1 M2 n1 n2 D1 D2 wr) (o:Obj):d8 w c v H0 H1 M1 M2 n1 n2 D1 D2 (wr.alloc o):=h.keep ((Below.refl _ _).alloc (wC _) _)
theorem cu.keepX {w:World} {c:ag} {v:RV} {H0 H1:Nat} {wr w':World} {X:Nat→Prop} (h:cu w c v H0 H1 wr) (hk:Keep X wr w') (h0:¬ X H0) (h1:¬ X H1) (hb:∀ i,i<w.heap.size→¬ X i):cu w c v H0 H1 w':=
 ⟨hk.old h.g h0,hk.old h.h h1,h.below.trans (hk.below h.below.size hb)⟩
theorem d8.put1 {w:World} {c:ag} {v:RV} {H0 H1 M1 M2 n1 n2 m:Nat} {D1 D2 E:DataW Unit} {wr w':World} (h:d8 w c v H0 H1 M1 M2 n1 n2 D1 D2 wr) (hm:w'.ownsMap Tryz.prog 72 unitElem M1 m E) (hg:wr.grownBy w' (some M1)):d8 w c v H0 H1 M1 M2 m n2 E D2 w':=by
 have hk:=Keep.of_grown hg;have q0:=h.lt0;have q1:=h.lt1;have q2:=h.lt2;have q3:=h.ge;exact ⟨h.cr.keepX hk (fun e=>by cases e;omega) (fun e=>by cases e;omega) (fun i hi e=>by cases e;omega),hm,ey h.m2 hk (fun e=>by cases e;omega),q0,q1,q2,q3⟩
theorem d8.put2 {w:World} {c:ag} {v:RV} {H0 H1 M1 M2 n1 n2 m:Nat} {D1 D2 E:DataW Unit} {wr w':World} (h:d8 w c v H0 H1 M1 M2 n1 n2 D1 D2 wr) (hm:w'.ownsMap Tryz.prog 72 unitElem M2 m E) (hg:wr.grownBy w' (some M2)):d8 w c v H0 H1 M1 M2 n1 m D1 E w':=by
 have hk:=Keep.of_grown hg;have q0:=h.lt0;have q1:=h.lt1;have q2:=h.lt2;have q3:=h.ge;exact ⟨h.cr.keepX hk (fun e=>by cases e;omega) (fun e=>by cases e;omega) (fun i hi e=>by cases e;omega),ey h.m1 hk (fun e=>by cases e;omega),hm,q0,q1,q2,q3⟩
theorem d8.begin {w:World} {c:ag} {v:RV} {H0 H1:Nat} {W:World} (h:cu w c v H0 H1 W):d8 w c v H0 H1 W.heap.size (W.heap.size+1) 0 0 (fE []) (fE []) ((W.alloc (.map #[] 0)).alloc (.map #[] 0)):=by
 refine ⟨(h.one _).one _,(World.ownsMap_made _ _ _ _).alloc _,?_,lt_of_block h.g,lt_of_block h.h,Nat.lt_succ_self _,h.below.size⟩;have:=World.ownsMap_made (W.alloc (.map #[] 0)) Tryz.prog 72 (unitElem (H:=Unit));rw [show (W.alloc (.map #[] 0)).heap.size=W.heap.size+1 by simp] at this;exact this
end Go.Proofs.YtcaicgipibcicaaGreat
