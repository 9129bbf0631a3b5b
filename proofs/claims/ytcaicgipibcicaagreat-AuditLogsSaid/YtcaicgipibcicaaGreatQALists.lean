/- Sets of ids: the key that an id is; how large a set is. -/
import Derived.Test.YtcaicgipibcicaaGreatQRLists
import Derived.Maps.OwnSet
import Derived.WideKeyArr
set_option maxRecDepth 100000
set_option maxHeartbeats 16000000
set_option linter.unusedSimpArgs false
set_option linter.unusedVariables false
open Go.Lib renaming hid→yA
open List renaming getElem?_eq_getElem→yC,getElem?_eq_some_iff→yD,length_map→zy,mem_of_getElem?→yP,take_of_length_le→zh
open Nat renaming le_refl→yB
namespace Go.Proofs.YtcaicgipibcicaaGreat
open Go.RowKit Go.Sort
theorem idArr:WideMaps.ArrKey Tryz.prog 72 5 8:=⟨Tryz.underlying72,by kernel_rfl,by kernel_rfl,by kernel_rfl⟩
theorem idLaw:WideMaps.KeyLaw Tryz.prog 72:=idArr.law
theorem iR:Maps.Keyed Tryz.prog 72:=Maps.Keyed.of_law idLaw
def idV (l:List Int):Value:=.agg (l.map (Value.int .u8)).toArray
noncomputable def cI (l:List Int):Lit:=(keyOf Tryz.prog 72 (idV l)).getD .nil
theorem lA {n:Int} (h:bT n):(Lit.int .u8 n).wf=true:=by
 unfold bT at h;simp [Lit.wf,IntKind.min,IntKind.max,IntKind.signed,IntKind.bits];omega
theorem mB {x0 x1 x2 x3 x4 x5 x6 x7:Int} (h0:bT x0) (h1:bT x1) (h2:bT x2) (h3:bT x3) (h4:bT x4) (h5:bT x5) (h6:bT x6) (h7:bT x7) :
 keyOf Tryz.prog 72 (.agg #[.int .u8 x0,.int .u8 x1,.int .u8 x2,.int .u8 x3,.int .u8 x4,.int .u8 x5,.int .u8 x6,.int .u8 x7])=some (cI [x0,x1,x2,x3,x4,x5,x6,x7]):=by
 suffices h:∃ l,keyOf Tryz.prog 72 (.agg #[.int .u8 x0,.int .u8 x1,.int .u8 x2,.int .u8 x3,.int .u8 x4,.int .u8 x5,.int .u8 x6,.int .u8 x7])=some l by
  obtain ⟨l,hl⟩:=h;rw [hl];unfold cI idV;rw [show (Value.agg (List.map (Value.int .u8) [x0,x1,x2,x3,x4,x5,x6,x7]).toArray) = .agg #[.int .u8 x0,.int .u8 x1,.int .u8 x2,.int .u8 x3,.int .u8 x4,.int .u8 x5,.int .u8 x6,.int .u8 x7] from rfl,hl];rfl
 obtain ⟨m,hm⟩:∃ m,Tryz.prog.types.size=m+1:=⟨Tryz.prog.types.size - 1,by
  have:0<Tryz.prog.types.size:=of_decide_eq_true (by kernel_rfl);omega⟩
 have hc:Tryz.prog.cellsOf 5=1:=by kernel_rfl
 have hk:Tryz.prog.cellsOf 72=8:=by kernel_rfl
 have hkt:Tryz.prog.keyType 72=true:=idArr.keyType ⟨m,hm⟩;have hu:Tryz.prog.underlying 5=some (.int .u8):=Tryz.underlying5;unfold keyOf;rw [Tryz.underlying72];simp only [hkt,Value.formed,Tryz.underlying72,Value.cells,hk,hm];simp [Program.keyLits,Tryz.underlying72,hk,hc,hu,List.range_succ,lA h0,lA h1,lA h2,lA h3,lA h4,lA h5,lA h6,lA h7]
theorem ta {a b:List Int} (ha:∃ l,keyOf Tryz.prog 72 (idV a)=some l) (hb:∃ l,keyOf Tryz.prog 72 (idV b)=some l):cI a=cI b↔a=b:=by
 refine ⟨fun h=>?_,fun h=>by rw [h]⟩;obtain ⟨l,hl⟩:=ha;obtain ⟨l',hl'⟩:=hb;unfold cI at h;rw [hl,hl'] at h;simp at h;subst h;have hv:=idLaw.inj hl hl';unfold idV at hv;simp at hv;exact (List.map_inj_right (fun x y h=>by simpa using h)).1 hv
theorem mq {a:List Int} (ha:∃ l,keyOf Tryz.prog 72 (idV a)=some l):WideAt.IsKeyLit (cI a):=by
 obtain ⟨l,hl⟩:=ha;unfold cI;rw [hl];exact iR.key hl
noncomputable def gv (ids:List (List Int)):DataW Unit:=Maps.setOf (.agg []) (ids.map cI)
theorem kS {ids:List (List Int)} {k:Nat} {a:List Int} (h:ids[k]?=some a):gv (ids.take (k+1))=(gv (ids.take k)).put (cI a) (.agg []):=by
 unfold gv;rw [dA h,Maps.setOf_snoc]
def oR (ids:List (List Int)):Prop:=∀ a ∈ ids,∃ l,keyOf Tryz.prog 72 (idV a)=some l
theorem vi {ids:List (List Int)} (hK:oR ids):∀ k,k≤ids.length→(Maps.size (gv (ids.take k))=k∧∀ j,j<k→newAt ids j=true)∨(Maps.size (gv (ids.take k))<k∧fe ids=false):=by
 intro k
 induction k with
 | zero=>exact fun _=>.inl ⟨rfl,fun j h=>absurd h (Nat.not_lt_zero j)⟩
 | succ k ih=>
   intro hk;obtain ⟨a,ha⟩:∃ a,ids[k]?=some a:=⟨ids[k]'(by omega),yC _⟩
   have hkey:∀ x ∈ (ids.take k).map cI,WideAt.IsKeyLit x:=by
    intro x hx;obtain ⟨y,hy,rfl⟩:=List.mem_map.1 hx;exact mq (hK y (List.mem_of_mem_take hy))
   have ht:Maps.Tidy (gv (ids.take k)):=Maps.tidy_setOf _ _ hkey;have hh:Maps.has (gv (ids.take k)) (cI a)=((ids.take k).map cI).any (fun x=>x.sameKey (cI a)):=Maps.has_setOf _ _ _ hkey;rw [kS ha,Maps.size_put ht];rcases ih (by omega) with ⟨h1,h2⟩ | ⟨h1,h2⟩
   · cases hq:Maps.has (gv (ids.take k)) (cI a) with
     | true=>
       refine .inr ⟨by simp;omega,?_⟩;rw [hq] at hh;obtain ⟨x,hx,hs⟩:=List.any_eq_true.1 hh.symm;obtain ⟨y,hy,rfl⟩:=List.mem_map.1 hx;obtain ⟨i,hi⟩:=List.mem_iff_getElem?.1 hy;rw [List.getElem?_take] at hi;split at hi
       · rename_i hlt
         refine bE (show k<ids.length by omega) (nc ha hi hlt ?_);exact (ta (hK y (List.mem_of_mem_take hy)) (hK a (yP ha))).1 (WideAt.sameKey_eq hs)
       · cases hi
     | false=>
       refine .inl ⟨by simp;omega,aX h2 (nf ha (fun i b hi hb he=>?_))⟩;rw [hq] at hh;subst he;have:=List.any_eq_false.1 hh.symm (cI b) (List.mem_map.2 ⟨b,List.mem_iff_getElem?.2 ⟨i,by rw [List.getElem?_take,if_pos hi];exact hb⟩,rfl⟩);rw [WideAt.sameKey_self (mq (hK b (yP hb)))] at this;exact this rfl
   · exact .inr ⟨by split <;> omega,h2⟩
theorem pP {ids:List (List Int)} (hK:oR ids) {n:Nat} (hn:ids.length=n):(Maps.size (gv ids)=n∧fe ids=true)∨(Maps.size (gv ids)≠n∧fe ids=false):=by
 subst hn;have h:=vi hK ids.length (yB _);rw [List.take_length] at h;rcases h with ⟨h1,h2⟩ | ⟨h1,h2⟩
 · exact .inl ⟨h1,aU h2⟩
 · exact .inr ⟨by omega,h2⟩
theorem fi {X:Nat→Prop} {w w':World} {b n:Nat} {D:DataW Unit} (h:w.ownsMap Tryz.prog 72 unitElem b n D) (hk:Keep X w w') (hx:¬ X b):w'.ownsMap Tryz.prog 72 unitElem b n D:=by
 obtain ⟨es,clock,hb,F,hs,hD⟩:=h;exact ⟨es,clock,hk.old hb hx,F,hs,hD⟩
structure eK (w:World) (c:ae) (v:RV) (H0 H1 M1 M2 n1 n2:Nat) (D1 D2:DataW Unit) (wr:World):Prop where
 cr:cm w c v H0 H1 wr
 m1:wr.ownsMap Tryz.prog 72 unitElem M1 n1 D1
 m2:wr.ownsMap Tryz.prog 72 unitElem M2 n2 D2
 lt0:H0<M1
 lt1:H1<M1
 lt2:M1<M2
 ge:w.heap.size≤M1
theorem eK.keep {w:World} {c:ae} {v:RV} {H0 H1 M1 M2 n1 n2:Nat} {D1 D2:DataW Unit} {wr w':World} (h:eK w c v H0 H1 M1 M2 n1 n2 D1 D2 wr) (hb:Below wr.heap.size wr w'):eK w c v H0 H1 M1 M2 n1 n2 D1 D2 w':=
 ⟨h.cr.keep hb,fi h.m1 (Keep.of_below hb (yB _) (fun _=>False)) id,fi h.m2 (Keep.of_below hb (yB _) (fun _=>False)) id,h.lt0,h.lt1,h.lt2,h.ge⟩
theorem eK.one {w:World} {c:ae} {v:RV} {H0 H1 M1 M2 n1 n2:Nat} {D1 D2:DataW Unit} {wr:World} (h:eK w c v H0 H1 M1 M2 n1 n2 D1 D2 wr) (o:Obj):eK w c v H0 H1 M1 M2 n1 n2 D1 D2 (wr.alloc o):=h.keep ((Below.refl _ _).alloc (yB _) _)
theorem cm.keepX {w:World} {c:ae} {v:RV} {H0 H1:Nat} {wr w':World} {X:Nat→Prop} (h:cm w c v H0 H1 wr) (hk:Keep X wr w') (h0:¬ X H0) (h1:¬ X H1) (hb:∀ i,i<w.heap.size→¬ X i):cm w c v H0 H1 w':=
 ⟨hk.old h.g h0,hk.old h.h h1,h.below.trans (hk.below h.below.size hb)⟩
theorem eK.put1 {w:World} {c:ae} {v:RV} {H0 H1 M1 M2 n1 n2 m:Nat} {D1 D2 E:DataW Unit} {wr w':World} (h:eK w c v H0 H1 M1 M2 n1 n2 D1 D2 wr) (hm:w'.ownsMap Tryz.prog 72 unitElem M1 m E) (hg:wr.grownBy w' (some M1)):eK w c v H0 H1 M1 M2 m n2 E D2 w':=by
 have hk:=Keep.of_grown hg;have q0:=h.lt0;have q1:=h.lt1;have q2:=h.lt2;have q3:=h.ge;exact ⟨h.cr.keepX hk (fun e=>by cases e;omega) (fun e=>by cases e;omega) (fun i hi e=>by cases e;omega),hm,fi h.m2 hk (fun e=>by cases e;omega),q0,q1,q2,q3⟩
theorem eK.put2 {w:World} {c:ae} {v:RV} {H0 H1 M1 M2 n1 n2 m:Nat} {D1 D2 E:DataW Unit} {wr w':World} (h:eK w c v H0 H1 M1 M2 n1 n2 D1 D2 wr) (hm:w'.ownsMap Tryz.prog 72 unitElem M2 m E) (hg:wr.grownBy w' (some M2)):eK w c v H0 H1 M1 M2 n1 m D1 E w':=by
 have hk:=Keep.of_grown hg;have q0:=h.lt0;have q1:=h.lt1;have q2:=h.lt2;have q3:=h.ge;exact ⟨h.cr.keepX hk (fun e=>by cases e;omega) (fun e=>by cases e;omega) (fun i hi e=>by cases e;omega),fi h.m1 hk (fun e=>by cases e;omega),hm,q0,q1,q2,q3⟩
theorem eK.begin {w:World} {c:ae} {v:RV} {H0 H1:Nat} {W:World} (h:cm w c v H0 H1 W):eK w c v H0 H1 W.heap.size (W.heap.size+1) 0 0 (gv []) (gv []) ((W.alloc (.map #[] 0)).alloc (.map #[] 0)):=by
 refine ⟨(h.one _).one _,(World.ownsMap_made _ _ _ _).alloc _,?_,lt_of_block h.g,lt_of_block h.h,Nat.lt_succ_self _,h.below.size⟩;have:=World.ownsMap_made (W.alloc (.map #[] 0)) Tryz.prog 72 (unitElem (H:=Unit));rw [show (W.alloc (.map #[] 0)).heap.size=W.heap.size+1 by simp] at this;exact this
def il (c:ae) (x:aF):Int:=if bZ c x then 0 else 1
theorem em {c:ae} {x:aF} (h:bZ c x=false):il c x=1:=by unfold il;rw [h];rfl
theorem ry {c:ae} {x:aF} (h:bZ c x=true):il c x=0:=by unfold il;rw [h];rfl
theorem tb {r:az} (h:r.Ok):keyOf Tryz.prog 72 (.agg #[.int .u8 r.i0,.int .u8 r.i1,.int .u8 r.i2,.int .u8 r.i3,.int .u8 r.i4,.int .u8 r.i5,.int .u8 r.i6,.int .u8 r.i7])=some (cI (idR r)):=by
 obtain ⟨h0,h1,h2,h3,h4,h5,h6,h7⟩:=h.id;exact mB h0 h1 h2 h3 h4 h5 h6 h7
theorem td {r:gQ} (h:r.Ok):keyOf Tryz.prog 72 (.agg #[.int .u8 r.i0,.int .u8 r.i1,.int .u8 r.i2,.int .u8 r.i3,.int .u8 r.i4,.int .u8 r.i5,.int .u8 r.i6,.int .u8 r.i7])=some (cI (idD r)):=by
 obtain ⟨h0,h1,h2,h3,h4,h5,h6,h7⟩:=h.id;exact mB h0 h1 h2 h3 h4 h5 h6 h7
theorem keysW {x:aF} (h:x.Ok):oR (ik x):=by
 intro a ha;obtain ⟨y,hy,rfl⟩:=List.mem_map.1 ha;exact ⟨_,tb (h.ws y hy).r⟩
theorem keysD {x:aF} (h:x.Ok):oR (iC x):=by
 intro a ha;obtain ⟨y,hy,rfl⟩:=List.mem_map.1 ha;exact ⟨_,td (h.ds y hy).d⟩
theorem vj {w:World} {H:Nat} {x:ak} {t:TypeId} (h:w.heap[H]?=some (.cells #[.int .u8 x.d.i0,.int .u8 x.d.i1,.int .u8 x.d.i2,.int .u8 x.d.i3,.int .u8 x.d.i4,.int .u8 x.d.i5,.int .u8 x.d.i6,.int .u8 x.d.i7,.int .i16 x.d.ax,.int .i16 x.d.ay,.int .u8 x.d.seats,.int .u8 x.d.cls,.int .i64 x.d.radius,.int .i64 x.number] t (0,0))):w.cell? ⟨H,0,none⟩=some (.int .u8 x.d.i0)∧w.cell? ⟨H,1,none⟩=some (.int .u8 x.d.i1)∧w.cell? ⟨H,2,none⟩=some (.int .u8 x.d.i2)∧w.cell? ⟨H,3,none⟩=some (.int .u8 x.d.i3)∧w.cell? ⟨H,4,none⟩=some (.int .u8 x.d.i4)∧w.cell? ⟨H,5,none⟩=some (.int .u8 x.d.i5)∧w.cell? ⟨H,6,none⟩=some (.int .u8 x.d.i6)∧w.cell? ⟨H,7,none⟩=some (.int .u8 x.d.i7)  := by
 refine ⟨?_,?_,?_,?_,?_,?_,?_,?_⟩ <;> rw [cell_of_row w H _ _ t (0,0) h] <;> rfl
theorem rz (w:World) (c:ae) (v:RV) (hin:v.In w) (hrec:bw v.x=0):Calls Tryz.prog 47 #[.agg #[.int .i64 c.q,.int .i64 c.d,.int .i64 c.w,.int .i64 c.ttl,.int .i64 c.b],.agg #[.int .i64 v.x.tick,.slice v.wo v.wn v.wc,.slice v.ko v.kn v.kc,.int .i64 v.x.rows,.int .i64 v.x.cols,.slice v.eo v.en v.ec,.slice v.po v.pn v.pc,.slice v.yo v.yn v.yc,.slice v.zo v.zn v.zc]] w fun e w'=>e = .returned (.int .i64 (il c v.x))∧Below w.heap.size w w':=by
 have HIN:=yA hin;obtain ⟨sz1,sz2⟩:=ja hrec;rw [hin.wl] at sz1;rw [hin.kl] at sz2;have HREC:=yA hrec;clear hin hrec;have HW:=yA (cm.begin w c v);have hmm:=@run_makeMap Tryz.prog;by_cases a1:c.q<v.wn
 · have HF:=yA (em (mt (c:=c) (x:=v.x) (by rw [HIN.out.wl];omega)))
   go_enter Tryz.func47,Tryz.ntmps47
   go_wp2_with fail
   go_ret
   exact ⟨by rw [HF.out];rfl,HW.out.below⟩
 by_cases a2:c.d<v.kn
 · have HF:=yA (em (mt (c:=c) (x:=v.x) (by rw [HIN.out.kl];omega)))
   go_enter Tryz.func47,Tryz.ntmps47
   go_wp2_with fail
   go_ret
   exact ⟨by rw [HF.out];rfl,HW.out.below⟩
 have HS1:=yA (show (v.x.ws.length:Int)≤c.q∧(v.x.ds.length:Int)≤c.d by rw [HIN.out.wl,HIN.out.kl];omega);go_enter Tryz.func47,Tryz.ntmps47
 go_upto_region 3 with fail
 generalize (w.alloc (.cells #[.int .i64 c.q,.int .i64 c.d,.int .i64 c.w,.int .i64 c.ttl,.int .i64 c.b] 23)).alloc (.cells #[.int .i64 v.x.tick,.slice v.wo v.wn v.wc,.slice v.ko v.kn v.kc,.int .i64 v.x.rows,.int .i64 v.x.cols,.slice v.eo v.en v.ec,.slice v.po v.pn v.pc,.slice v.yo v.yn v.yc,.slice v.zo v.zn v.zc] 34)=W at *;generalize w.heap.size+1=H1 at *;have HHE:=yA (show ∃ H0,w.heap.size=H0 from ⟨_,rfl⟩);obtain ⟨H0,hH0⟩:=HHE.out;rw [hH0] at HW;rw [hH0];have HH:=yA hH0;clear hH0 HHE;obtain ⟨g0,g1,g2,g3,g4,g5,g6,g7,g8⟩:=cells9 HW.out.h;have HM:=yA (eK.begin HW.out);go_upto_region 4 with fail
 generalize (W.alloc (.map #[] 0)).alloc (.map #[] 0)=WM at *;generalize W.heap.size+1=M2 at *;generalize W.heap.size=M1 at *;clear HW g0 g1 g2 g3 g4 g5 g6 g7 g8;obtain ⟨g0,g1,g2,g3,g4,g5,g6,g7,g8⟩:=cells9 HM.out.cr.h;go_wp2_with fail
 go_loopw [30] (fun i wr=>Hid (∃ k:Nat,i = .int .i64 k∧k≤v.wn∧(∀ j,j<k→iv c v.x.tick v.x.ws j=true)∧eK w c v H0 H1 M1 M2 k 0 (gv ((ik v.x).take k)) (gv []) wr)) (fun i _=>v.wn - (intOf i).toNat)
 case atStart=>exact yA ⟨0,rfl,Nat.zero_le _,bB,HM.out⟩
 case round=>
  clear HM g0 g1 g2 g3 g4 g5 g6 g7 g8;obtain ⟨k,rfl,hk,hall,hrel1⟩:=hrel.out;clear hrel;have HR1:=yA hrel1;have HALL:=yA hall;clear hrel1 hall;obtain ⟨g0,g1,g2,g3,g4,g5,g6,g7,g8⟩:=cells9 HR1.out.cr.h;by_cases hlt:k<v.wn
  · obtain ⟨x,hx⟩:∃ x,v.x.ws[k]?=some x:=⟨v.x.ws[k]'(by rw [HIN.out.wl];exact hlt),yC _⟩
    obtain ⟨b,o,hbo,_⟩:=HIN.out.wr.place (by rw [cellsOf_length _ 18 ad.cells_length,HIN.out.wl];omega);have hrd:=HIN.out.wr.keep (Keep.of_below HR1.out.cr.below (yB _) (fun _=>False)) (fun _ _ _=>id);rw [hbo] at hrd;rw [hbo];have HCE:=yA (bS hrd hx);have HX:=yA hx;have HXO:=yA (HIN.out.ok.ws x (yP hx));have HBD:=yA (lW HREC.out hx);have HEQ:=yA (qE (c:=c) (tick:=v.x.tick) hx);have HBOX:=yA (heap_alloc_new wr (.cells #[.int .u8 x.r.i0,.int .u8 x.r.i1,.int .u8 x.r.i2,.int .u8 x.r.i3,.int .u8 x.r.i4,.int .u8 x.r.i5,.int .u8 x.r.i6,.int .u8 x.r.i7,.int .i16 x.r.fx,.int .i16 x.r.fy,.int .i16 x.r.tx,.int .i16 x.r.ty,.int .u8 x.r.seats,.int .u8 x.r.classes,.int .i64 x.r.base,.int .i64 x.r.ttl,.int .i64 x.since,.int .i64 x.number] 79));have HR2:=yA (HR1.out.one (.cells #[.int .u8 x.r.i0,.int .u8 x.r.i1,.int .u8 x.r.i2,.int .u8 x.r.i3,.int .u8 x.r.i4,.int .u8 x.r.i5,.int .u8 x.r.i6,.int .u8 x.r.i7,.int .i16 x.r.fx,.int .i16 x.r.fy,.int .i16 x.r.tx,.int .i16 x.r.ty,.int .u8 x.r.seats,.int .u8 x.r.classes,.int .i64 x.r.base,.int .i64 x.r.ttl,.int .i64 x.since,.int .i64 x.number] 79));have HBO:=yA hbo;clear hx hrd hbo;go_wp2_with (first | ((with_reducible refine aa (o:=⟨some 33,_,_,_,_,_⟩) ?_ 79 (.tmp 32) ?_ b (o+k*18) ?_ x.cells #[.int .u8 x.r.i0,.int .u8 x.r.i1,.int .u8 x.r.i2,.int .u8 x.r.i3,.int .u8 x.r.i4,.int .u8 x.r.i5,.int .u8 x.r.i6,.int .u8 x.r.i7,.int .i16 x.r.fx,.int .i16 x.r.fy,.int .i16 x.r.tx,.int .i16 x.r.ty,.int .u8 x.r.seats,.int .u8 x.r.classes,.int .i64 x.r.base,.int .i64 x.r.ttl,.int .i64 x.since,.int .i64 x.number] ?_ _ HCE.out Tryz.underlying79 ?_ ?_ ?_);rfl;rfl;rfl;rfl;rfl;exact aK) | ((with_reducible refine ah (o:=⟨none,.store 79 (.tmp 8) (.tmp 33),_,_,_,_⟩) ?_ 79 (.tmp 8) (.tmp 33) ?_ _ #[.int .u8 x.r.i0,.int .u8 x.r.i1,.int .u8 x.r.i2,.int .u8 x.r.i3,.int .u8 x.r.i4,.int .u8 x.r.i5,.int .u8 x.r.i6,.int .u8 x.r.i7,.int .i16 x.r.fx,.int .i16 x.r.fy,.int .i16 x.r.tx,.int .i16 x.r.ty,.int .u8 x.r.seats,.int .u8 x.r.classes,.int .i64 x.r.base,.int .i64 x.r.ttl,.int .i64 x.since,.int .i64 x.number] ?_ ?_ x.cells ?_ ?_ ?_ x.cells_one ?_);rfl;rfl;rfl;rfl;rfl;exact aK;rfl) | ((with_reducible refine aa (o:=⟨some 34,_,_,_,_,_⟩) ?_ 23 (.tmp 2) ?_ H0 (0) ?_ c.cells #[.int .i64 c.q,.int .i64 c.d,.int .i64 c.w,.int .i64 c.ttl,.int .i64 c.b] ?_ _ (bA HR2.out.cr.g) Tryz.underlying23 ?_ ?_ ?_);rfl;rfl;rfl;rfl;rfl;exact aE) | ((with_reducible refine aa (o:=⟨some 36,_,_,_,_,_⟩) ?_ 77 (.tmp 35) ?_ wr.heap.size (0) ?_ x.r.cells #[.int .u8 x.r.i0,.int .u8 x.r.i1,.int .u8 x.r.i2,.int .u8 x.r.i3,.int .u8 x.r.i4,.int .u8 x.r.i5,.int .u8 x.r.i6,.int .u8 x.r.i7,.int .i16 x.r.fx,.int .i16 x.r.fy,.int .i16 x.r.tx,.int .i16 x.r.ty,.int .u8 x.r.seats,.int .u8 x.r.classes,.int .i64 x.r.base,.int .i64 x.r.ttl] ?_ _ (iV HBOX.out) Tryz.underlying77 ?_ ?_ ?_);rfl;rfl;rfl;rfl;rfl;exact pd))
    refine (check_any (wr.alloc (.cells #[.int .u8 x.r.i0,.int .u8 x.r.i1,.int .u8 x.r.i2,.int .u8 x.r.i3,.int .u8 x.r.i4,.int .u8 x.r.i5,.int .u8 x.r.i6,.int .u8 x.r.i7,.int .i16 x.r.fx,.int .i16 x.r.fy,.int .i16 x.r.tx,.int .i16 x.r.ty,.int .u8 x.r.seats,.int .u8 x.r.classes,.int .i64 x.r.base,.int .i64 x.r.ttl,.int .i64 x.since,.int .i64 x.number] 79)) c x.r).mono ?_;rintro e w1 ⟨rfl,hb1⟩;have HR3:=yA (HR2.out.keep hb1);have HBX:=yA ((Keep.of_below hb1 (yB _) (fun _=>False)).old HBOX.out id);clear hb1 HR2 HBOX HR1 HCE g0 g1 g2 g3 g4 g5 g6 g7 g8;generalize wr.heap.size=H2 at *;obtain ⟨E,hE⟩:∃ E,bn c x.r=E:=⟨_,rfl⟩;rw [hE];have HEE:=yA hE;clear hE;obtain ⟨g0,g1,g2,g3,g4,g5,g6,g7,g8⟩:=cells9 HR3.out.cr.h;obtain ⟨k15,k16⟩:=ng HBX.out;by_cases h0:E=0
    · have HCB:=yA (fj (HEE.out.trans h0))
      obtain ⟨m1,m2,m3,m4⟩:=HBD.out;obtain ⟨n1,n2,n3,n4,n5,n6,n7⟩:=HCB.out;have e1:(E != 0)=false:=by simp [h0]
      have e2:(E==0)=true:=by simp [h0]
      by_cases h1:x.since+x.r.ttl<v.x.tick
      · have HF:=yA (em (mu (c:=c) (bE (yD.1 HX.out).1 (by rw [HEQ.out,decide_eq_false (show ¬ v.x.tick≤x.since+x.r.ttl by omega)];simp))))
        clear h0;go_wp2_with fail
        go_ret
        exact ⟨by rw [HF.out];rfl,HR3.out.cr.below⟩
      · have HA:=yA (aX HALL.out (show iv c v.x.tick v.x.ws k=true by rw [HEQ.out,HEE.out,h0,decide_eq_true (show v.x.tick≤x.since+x.r.ttl by omega)];rfl))
        have HSN:=yA (kS (i8 HX.out));obtain ⟨x0,x1,x2,x3,x4,x5,x6,x7⟩:=qG HBX.out;clear h0 HEQ HALL;go_wp2_with (first | ((with_reducible refine wpList_mapUpdate_own _ (o:=⟨none,.mapUpdate 159 (.tmp 50) (.tmp 53) (.tmp 54),_,_,_,_⟩) ?_ (.tmp 50) (.tmp 53) (.tmp 54) 159 ?_ 72 160 iR Tryz.underlying159 unitElem M1 k (gv ((ik v.x).take k)) ?_ HR3.out.m1 ?_ (.agg #[.int .u8 x.r.i0,.int .u8 x.r.i1,.int .u8 x.r.i2,.int .u8 x.r.i3,.int .u8 x.r.i4,.int .u8 x.r.i5,.int .u8 x.r.i6,.int .u8 x.r.i7]) (.agg #[]) (cI (idR x.r)) ?_ ?_ (tb HXO.out.r) (.agg []) [] unitElem_mk ?_);rfl;rfl;rfl;(unfold maxLen;omega);rfl;rfl;intro w2 hown2 hgrow2))
        have HR4:=yA (HR3.out.put1 hown2 hgrow2);rw [←HSN.out] at HR4;clear hown2 hgrow2;go_wp2_with fail
        go_roundw
        case rel=>exact yA ⟨k+1,by go_num,by omega,HA.out,HR4.out⟩
        case measure=>simp [intOf];omega
    · have HF:=yA (em (mu (c:=c) (bE (yD.1 HX.out).1 (by rw [HEQ.out,HEE.out,decide_eq_false h0];rfl))))
      have e1:(E != 0)=true:=by simp [h0]
      have e2:(E==0)=false:=by simp [h0]
      clear h0;go_wp2_with fail
      go_ret
      exact ⟨by rw [HF.out];rfl,HR3.out.cr.below⟩
  · obtain rfl:v.wn=k:=by omega
    have HS2:=yA (show c6 v.x.ws.length (iv c v.x.tick v.x.ws)=true from aU (fun j hj=>HALL.out j (by rw [HIN.out.wl] at hj;exact hj)));have HSW:=yA (show (ik v.x).take v.wn=ik v.x from zh (by rw [ik,zy,HIN.out.wl];exact yB _));rw [HSW.out] at HR1;clear HALL hlt hk
    as_aux_lemma=>
     go_wp2_with fail
     go_loopw [59] (fun i wr=>Hid (∃ k:Nat,i = .int .i64 k∧k≤v.kn∧(∀ j,j<k→iw v.x.ds j=true)∧eK w c v H0 H1 M1 M2 v.wn k (gv (ik v.x)) (gv ((iC v.x).take k)) wr)) (fun i _=>v.kn - (intOf i).toNat)
     case atStart=>exact yA ⟨0,rfl,Nat.zero_le _,bB,HR1.out⟩
     case round=>
      clear HR1 g0 g1 g2 g3 g4 g5 g6 g7 g8;obtain ⟨k,rfl,hk,hall,hrel1⟩:=hrel.out;clear hrel;have HR1:=yA hrel1;have HALL:=yA hall;clear hrel1 hall;obtain ⟨g0,g1,g2,g3,g4,g5,g6,g7,g8⟩:=cells9 HR1.out.cr.h;by_cases hlt:k<v.kn
      · obtain ⟨x,hx⟩:∃ x,v.x.ds[k]?=some x:=⟨v.x.ds[k]'(by rw [HIN.out.kl];exact hlt),yC _⟩
        obtain ⟨b,o,hbo,_⟩:=HIN.out.kr.place (by rw [cellsOf_length _ 14 ak.cells_length,HIN.out.kl];omega);have hrd:=HIN.out.kr.keep (Keep.of_below HR1.out.cr.below (yB _) (fun _=>False)) (fun _ _ _=>id);rw [hbo] at hrd;rw [hbo];have HCE:=yA (dz hrd hx);have HX:=yA hx;have HXO:=yA (HIN.out.ok.ds x (yP hx));have HEQ:=yA (qF hx);have HBOX:=yA (heap_alloc_new wr (.cells #[.int .u8 x.d.i0,.int .u8 x.d.i1,.int .u8 x.d.i2,.int .u8 x.d.i3,.int .u8 x.d.i4,.int .u8 x.d.i5,.int .u8 x.d.i6,.int .u8 x.d.i7,.int .i16 x.d.ax,.int .i16 x.d.ay,.int .u8 x.d.seats,.int .u8 x.d.cls,.int .i64 x.d.radius,.int .i64 x.number] 83));have HR2:=yA (HR1.out.one (.cells #[.int .u8 x.d.i0,.int .u8 x.d.i1,.int .u8 x.d.i2,.int .u8 x.d.i3,.int .u8 x.d.i4,.int .u8 x.d.i5,.int .u8 x.d.i6,.int .u8 x.d.i7,.int .i16 x.d.ax,.int .i16 x.d.ay,.int .u8 x.d.seats,.int .u8 x.d.cls,.int .i64 x.d.radius,.int .i64 x.number] 83));clear hx hrd hbo;go_wp2_with (first | ((with_reducible refine aa (o:=⟨some 62,_,_,_,_,_⟩) ?_ 83 (.tmp 61) ?_ b (o+k*14) ?_ x.cells #[.int .u8 x.d.i0,.int .u8 x.d.i1,.int .u8 x.d.i2,.int .u8 x.d.i3,.int .u8 x.d.i4,.int .u8 x.d.i5,.int .u8 x.d.i6,.int .u8 x.d.i7,.int .i16 x.d.ax,.int .i16 x.d.ay,.int .u8 x.d.seats,.int .u8 x.d.cls,.int .i64 x.d.radius,.int .i64 x.number] ?_ _ HCE.out Tryz.underlying83 ?_ ?_ ?_);rfl;rfl;rfl;rfl;rfl;exact dF) | ((with_reducible refine ah (o:=⟨none,.store 83 (.tmp 10) (.tmp 62),_,_,_,_⟩) ?_ 83 (.tmp 10) (.tmp 62) ?_ _ #[.int .u8 x.d.i0,.int .u8 x.d.i1,.int .u8 x.d.i2,.int .u8 x.d.i3,.int .u8 x.d.i4,.int .u8 x.d.i5,.int .u8 x.d.i6,.int .u8 x.d.i7,.int .i16 x.d.ax,.int .i16 x.d.ay,.int .u8 x.d.seats,.int .u8 x.d.cls,.int .i64 x.d.radius,.int .i64 x.number] ?_ ?_ x.cells ?_ ?_ ?_ x.cells_one ?_);rfl;rfl;rfl;rfl;rfl;exact dF;rfl) | ((with_reducible refine aa (o:=⟨some 64,_,_,_,_,_⟩) ?_ 81 (.tmp 63) ?_ wr.heap.size (0) ?_ x.d.cells #[.int .u8 x.d.i0,.int .u8 x.d.i1,.int .u8 x.d.i2,.int .u8 x.d.i3,.int .u8 x.d.i4,.int .u8 x.d.i5,.int .u8 x.d.i6,.int .u8 x.d.i7,.int .i16 x.d.ax,.int .i16 x.d.ay,.int .u8 x.d.seats,.int .u8 x.d.cls,.int .i64 x.d.radius] ?_ _ (om HBOX.out) Tryz.underlying81 ?_ ?_ ?_);rfl;rfl;rfl;rfl;rfl;exact pg))
        refine (mQ (wr.alloc (.cells #[.int .u8 x.d.i0,.int .u8 x.d.i1,.int .u8 x.d.i2,.int .u8 x.d.i3,.int .u8 x.d.i4,.int .u8 x.d.i5,.int .u8 x.d.i6,.int .u8 x.d.i7,.int .i16 x.d.ax,.int .i16 x.d.ay,.int .u8 x.d.seats,.int .u8 x.d.cls,.int .i64 x.d.radius,.int .i64 x.number] 83)) x.d).mono ?_;rintro e w1 ⟨rfl,hb1⟩;have HR3:=yA (HR2.out.keep hb1);have HBX:=yA ((Keep.of_below hb1 (yB _) (fun _=>False)).old HBOX.out id);clear hb1 HR2 HBOX HR1 HCE g0 g1 g2 g3 g4 g5 g6 g7 g8;generalize wr.heap.size=H2 at *;obtain ⟨E,hE⟩:∃ E,aR x.d=E:=⟨_,rfl⟩;rw [hE];have HEE:=yA hE;clear hE;by_cases h0:E=0
        · have e1:(E != 0)=false:=by simp [h0]
          have e2:(E==0)=true:=by simp [h0]
          have HA:=yA (aX HALL.out (show iw v.x.ds k=true by rw [HEQ.out,HEE.out,h0];rfl));have HSN:=yA (kS (i9 HX.out));obtain ⟨x0,x1,x2,x3,x4,x5,x6,x7⟩:=vj HBX.out;clear h0 HEQ HALL;go_wp2_with (first | ((with_reducible refine wpList_mapUpdate_own _ (o:=⟨none,.mapUpdate 159 (.tmp 67) (.tmp 70) (.tmp 71),_,_,_,_⟩) ?_ (.tmp 67) (.tmp 70) (.tmp 71) 159 ?_ 72 160 iR Tryz.underlying159 unitElem M2 k (gv ((iC v.x).take k)) ?_ HR3.out.m2 ?_ (.agg #[.int .u8 x.d.i0,.int .u8 x.d.i1,.int .u8 x.d.i2,.int .u8 x.d.i3,.int .u8 x.d.i4,.int .u8 x.d.i5,.int .u8 x.d.i6,.int .u8 x.d.i7]) (.agg #[]) (cI (idD x.d)) ?_ ?_ (td HXO.out.d) (.agg []) [] unitElem_mk ?_);rfl;rfl;rfl;(unfold maxLen;omega);rfl;rfl;intro w2 hown2 hgrow2))
          have HR4:=yA (HR3.out.put2 hown2 hgrow2);rw [←HSN.out] at HR4;clear hown2 hgrow2;go_wp2_with fail
          go_roundw
          case rel=>exact yA ⟨k+1,by go_num,by omega,HA.out,HR4.out⟩
          case measure=>simp [intOf];omega
        · have HF:=yA (em (tq (c:=c) (bE (yD.1 HX.out).1 (by rw [HEQ.out,HEE.out];exact decide_eq_false h0))))
          have e1:(E != 0)=true:=by simp [h0]
          have e2:(E==0)=false:=by simp [h0]
          clear h0;go_wp2_with fail
          go_ret
          exact ⟨by rw [HF.out];rfl,HR3.out.cr.below⟩
      · obtain rfl:v.kn=k:=by omega
        have HS3:=yA (show c6 v.x.ds.length (iw v.x.ds)=true from aU (fun j hj=>HALL.out j (by rw [HIN.out.kl] at hj;exact hj)));have HSW:=yA (show (iC v.x).take v.kn=iC v.x from zh (by rw [iC,zy,HIN.out.kl];exact yB _));rw [HSW.out] at HR1;have hl1:=fun ty=>HR1.out.m1.len Tryz.underlying159 ty
        have hl2:=fun ty=>HR1.out.m2.len Tryz.underlying159 ty
        have HO1:=yA (pP (keysW HIN.out.ok) (n:=v.wn) (by rw [ik,zy,HIN.out.wl]));have HO2:=yA (pP (keysD HIN.out.ok) (n:=v.kn) (by rw [iC,zy,HIN.out.kl]));clear HALL hlt hk;generalize Maps.size (gv (ik v.x))=s1 at *;generalize Maps.size (gv (iC v.x))=s2 at *
        as_aux_lemma=>
         rcases HO1.out with ⟨q1,o1⟩ | ⟨q1,o1⟩
         · have e1:((s1:Int) != (v.wn:Int))=false:=by simp [q1]
           rcases HO2.out with ⟨q2,o2⟩ | ⟨q2,o2⟩
           · have HF:=yA (ry (tw HS1.out HS2.out HS3.out o1 o2))
             have e2:((s2:Int) != (v.kn:Int))=false:=by simp [q2]
             clear q1 q2;go_wp2_with fail
             go_ret
             exact ⟨by rw [HF.out];rfl,HR1.out.cr.below⟩
           · have HF:=yA (em (tu (c:=c) o2))
             have e2:((s2:Int) != (v.kn:Int))=true:=by simp;omega
             clear q1 q2;go_wp2_with fail
             go_ret
             exact ⟨by rw [HF.out];rfl,HR1.out.cr.below⟩
         · have HF:=yA (em (tr (c:=c) o1))
           have e1:((s1:Int) != (v.wn:Int))=true:=by simp;omega
           clear q1;go_wp2_with fail
           all_goals
            go_ret
            exact ⟨by rw [HF.out];rfl,HR1.out.cr.below⟩
end Go.Proofs.YtcaicgipibcicaaGreat
