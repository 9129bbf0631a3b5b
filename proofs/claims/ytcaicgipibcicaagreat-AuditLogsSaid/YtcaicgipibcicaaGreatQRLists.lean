/- Chapter 26 in the reference: the lists of a record. Printed by wip/genrlists.py. -/
import Derived.Test.YtcaicgipibcicaaGreatQRecCk2
import Derived.Test.YtcaicgipibcicaaGreatQRGraph
set_option maxRecDepth 100000
set_option maxHeartbeats 16000000
set_option linter.unusedSimpArgs false
set_option linter.unusedVariables false
open Go renaming heap_alloc_new→yE
open Go.Lib renaming hid→yA
open List renaming getElem?_eq_getElem→yC,getElem?_eq_some_iff→yD,mem_of_getElem?→yP
open Nat renaming le_refl→yB,lt_succ_iff_lt_or_eq→yW,zero_le→yQ
namespace Go.Proofs.YtcaicgipibcicaaGreat
open Go.RowKit Go.Sort
def az.idc (x:az):List Value:=[.int .u8 x.i0,.int .u8 x.i1,.int .u8 x.i2,.int .u8 x.i3,.int .u8 x.i4,.int .u8 x.i5,.int .u8 x.i6,.int .u8 x.i7]
theorem pp {x y:az}:lQ x.i0 y.i0 x.i1 y.i1 x.i2 y.i2 x.i3 y.i3 x.i4 y.i4 x.i5 y.i5 x.i6 y.i6 x.i7 y.i7=true↔idR x=idR y:=by simp [oo,idR]
theorem wA {x y:gQ}:lQ x.i0 y.i0 x.i1 y.i1 x.i2 y.i2 x.i3 y.i3 x.i4 y.i4 x.i5 y.i5 x.i6 y.i6 x.i7 y.i7=true↔idD x=idD y:=by simp [oo,idD]
def ik (x:aF):List (List Int):=x.ws.map fun w=>idR w.r
def iC (x:aF):List (List Int):=x.ds.map fun d=>idD d.d
theorem nc {ids:List (List Int)} {i k:Nat} {a b:List Int} (hi:ids[i]?=some a) (hk:ids[k]?=some b) (hlt:k<i) (h:b=a):newAt ids i=false:=by
 unfold newAt;rw [hi];exact bE hlt (by simp only [hk];exact decide_eq_false (fun hne=>hne h))
theorem nf {ids:List (List Int)} {i:Nat} {a:List Int} (hi:ids[i]?=some a) (h:∀ (k:Nat) (b:List Int),k<i→ids[k]?=some b→b≠a):newAt ids i=true:=by
 unfold newAt;rw [hi];refine aU (fun k hk=>?_);cases hb:ids[k]? with
 | none=>rfl
 | some b=>exact decide_eq_true (h k b hk hb)
theorem i8 {x:aF} {k:Nat} {y:ad} (h:x.ws[k]?=some y):(ik x)[k]?=some (idR y.r):=by simp [ik,h]
theorem i9 {x:aF} {k:Nat} {y:ak} (h:x.ds[k]?=some y):(iC x)[k]?=some (idD y.d):=by simp [iC,h]
theorem mt {c:ae} {x:aF} (h:¬ ((x.ws.length:Int)≤c.q∧(x.ds.length:Int)≤c.d)):bZ c x=false:=by unfold bZ;rw [decide_eq_false h];rfl
theorem mu {c:ae} {x:aF} (h:c6 x.ws.length (iv c x.tick x.ws)=false):bZ c x=false:=by unfold bZ;rw [h];simp
theorem tq {c:ae} {x:aF} (h:c6 x.ds.length (iw x.ds)=false):bZ c x=false:=by unfold bZ;rw [h];simp
theorem tr {c:ae} {x:aF} (h:fe (ik x)=false):bZ c x=false:=by unfold bZ;rw [show fe (x.ws.map fun w=>idR w.r)=false from h];simp
theorem tu {c:ae} {x:aF} (h:fe (iC x)=false):bZ c x=false:=by unfold bZ;rw [show fe (x.ds.map fun d=>idD d.d)=false from h];simp
theorem tw {c:ae} {x:aF} (h1:(x.ws.length:Int)≤c.q∧(x.ds.length:Int)≤c.d) (h2:c6 x.ws.length (iv c x.tick x.ws)=true) (h3:c6 x.ds.length (iw x.ds)=true) (h4:fe (ik x)=true) (h5:fe (iC x)=true):bZ c x=true:=by
 unfold bZ;rw [decide_eq_true h1,h2,h3,show fe (x.ws.map fun w=>idR w.r)=true from h4,show fe (x.ds.map fun d=>idD d.d)=true from h5];rfl
theorem qE {c:ae} {tick:Int} {ws:List ad} {i:Nat} {x:ad} (h:ws[i]?=some x):iv c tick ws i=(decide (bn c x.r=0) && decide (tick≤x.since+x.r.ttl)):=by simp only [iv,h]
theorem qF {ds:List ak} {i:Nat} {x:ak} (h:ds[i]?=some x):iw ds i=decide (aR x.d=0):=by simp only [iw,h]
theorem lW {x:aF} {k:Nat} {y:ad} (h:bw x=0) (hy:x.ws[k]?=some y):0≤y.since∧y.since≤1099511627776∧1≤x.tick∧x.tick≤1099511627776:=by
 obtain ⟨h1,h2,_⟩:=cK h;have h3:=dR h2 (yD.1 hy).1;rw [dO hy] at h3;have h4:=of_decide_eq_true h3;have h5:1≤x.tick∧x.tick≤1099511627776∧x.ws.length≤64∧x.ds.length≤64:=of_decide_eq_true h1;omega
theorem ja {x:aF} (h:bw x=0):x.ws.length≤64∧x.ds.length≤64:=by
 obtain ⟨h1,_⟩:=cK h;have h5:1≤x.tick∧x.tick≤1099511627776∧x.ws.length≤64∧x.ds.length≤64:=of_decide_eq_true h1;omega
structure cm (w:World) (c:ae) (v:RV) (H0 H1:Nat) (wr:World):Prop where
 g:wr.heap[H0]?=some (.cells #[.int .i64 c.q,.int .i64 c.d,.int .i64 c.w,.int .i64 c.ttl,.int .i64 c.b] 23 (0,0))
 h:wr.heap[H1]?=some (.cells #[.int .i64 v.x.tick,.slice v.wo v.wn v.wc,.slice v.ko v.kn v.kc,.int .i64 v.x.rows,.int .i64 v.x.cols,.slice v.eo v.en v.ec,.slice v.po v.pn v.pc,.slice v.yo v.yn v.yc,.slice v.zo v.zn v.zc] 34 (0,0))
 below:Below w.heap.size w wr
theorem cm.keep {w:World} {c:ae} {v:RV} {H0 H1:Nat} {wr w':World} (h:cm w c v H0 H1 wr) (hb:Below wr.heap.size wr w'):cm w c v H0 H1 w':=
 ⟨(Keep.of_below hb (yB _) (fun _=>False)).old h.g id,(Keep.of_below hb (yB _) (fun _=>False)).old h.h id,Below.next h.below hb⟩
theorem cm.one {w:World} {c:ae} {v:RV} {H0 H1:Nat} {wr:World} (h:cm w c v H0 H1 wr) (o:Obj):cm w c v H0 H1 (wr.alloc o):=h.keep ((Below.refl _ _).alloc (yB _) _)
theorem cm.drewN {w:World} {c:ae} {v:RV} {H0 H1:Nat} {wr:World} (h:cm w c v H0 H1 wr) (n:Nat):cm w c v H0 H1 (wr.drewN n):=⟨h.g,h.h,below_drewN h.below n⟩
theorem cm.begin (w:World) (c:ae) (v:RV):cm w c v w.heap.size (w.heap.size+1) ((w.alloc (.cells #[.int .i64 c.q,.int .i64 c.d,.int .i64 c.w,.int .i64 c.ttl,.int .i64 c.b] 23)).alloc (.cells #[.int .i64 v.x.tick,.slice v.wo v.wn v.wc,.slice v.ko v.kn v.kc,.int .i64 v.x.rows,.int .i64 v.x.cols,.slice v.eo v.en v.ec,.slice v.po v.pn v.pc,.slice v.yo v.yn v.yc,.slice v.zo v.zn v.zc] 34)):=by
 refine ⟨(Keep.alloc (fun _=>False) _ _).old (yE w _) id,?_,((Below.refl w.heap.size w).alloc (yB _) _).alloc (by simp) _⟩;have:=yE (w.alloc (.cells #[.int .i64 c.q,.int .i64 c.d,.int .i64 c.w,.int .i64 c.ttl,.int .i64 c.b] 23)) (.cells #[.int .i64 v.x.tick,.slice v.wo v.wn v.wc,.slice v.ko v.kn v.kc,.int .i64 v.x.rows,.int .i64 v.x.cols,.slice v.eo v.en v.ec,.slice v.po v.pn v.pc,.slice v.yo v.yn v.yc,.slice v.zo v.zn v.zc] 34);rw [show (w.alloc (.cells #[.int .i64 c.q,.int .i64 c.d,.int .i64 c.w,.int .i64 c.ttl,.int .i64 c.b] 23)).heap.size=w.heap.size+1 by simp] at this;exact this
theorem ng {w:World} {H:Nat} {x:ad} {t:TypeId} (h:w.heap[H]?=some (.cells #[.int .u8 x.r.i0,.int .u8 x.r.i1,.int .u8 x.r.i2,.int .u8 x.r.i3,.int .u8 x.r.i4,.int .u8 x.r.i5,.int .u8 x.r.i6,.int .u8 x.r.i7,.int .i16 x.r.fx,.int .i16 x.r.fy,.int .i16 x.r.tx,.int .i16 x.r.ty,.int .u8 x.r.seats,.int .u8 x.r.classes,.int .i64 x.r.base,.int .i64 x.r.ttl,.int .i64 x.since,.int .i64 x.number] t (0,0))):w.cell? ⟨H,15,none⟩=some (.int .i64 x.r.ttl)∧w.cell? ⟨H,16,none⟩=some (.int .i64 x.since):=by
 refine ⟨?_,?_⟩ <;> rw [cell_of_row w H _ _ t (0,0) h] <;> rfl
theorem qG {w:World} {H:Nat} {x:ad} {t:TypeId} (h:w.heap[H]?=some (.cells #[.int .u8 x.r.i0,.int .u8 x.r.i1,.int .u8 x.r.i2,.int .u8 x.r.i3,.int .u8 x.r.i4,.int .u8 x.r.i5,.int .u8 x.r.i6,.int .u8 x.r.i7,.int .i16 x.r.fx,.int .i16 x.r.fy,.int .i16 x.r.tx,.int .i16 x.r.ty,.int .u8 x.r.seats,.int .u8 x.r.classes,.int .i64 x.r.base,.int .i64 x.r.ttl,.int .i64 x.since,.int .i64 x.number] t (0,0))):w.cell? ⟨H,0,none⟩=some (.int .u8 x.r.i0)∧w.cell? ⟨H,1,none⟩=some (.int .u8 x.r.i1)∧w.cell? ⟨H,2,none⟩=some (.int .u8 x.r.i2)∧w.cell? ⟨H,3,none⟩=some (.int .u8 x.r.i3)∧w.cell? ⟨H,4,none⟩=some (.int .u8 x.r.i4)∧w.cell? ⟨H,5,none⟩=some (.int .u8 x.r.i5)∧w.cell? ⟨H,6,none⟩=some (.int .u8 x.r.i6)∧w.cell? ⟨H,7,none⟩=some (.int .u8 x.r.i7)  := by
 refine ⟨?_,?_,?_,?_,?_,?_,?_,?_⟩ <;> rw [cell_of_row w H _ _ t (0,0) h] <;> rfl
theorem lX {w:World} {b o:Nat} {x:ad} (h:∀ j u,x.cells[j]?=some u→w.cell? ⟨b,o+j,none⟩=some u):w.cell? ⟨b,o,none⟩=some (.int .u8 x.r.i0)∧w.cell? ⟨b,o+1,none⟩=some (.int .u8 x.r.i1)∧w.cell? ⟨b,o+2,none⟩=some (.int .u8 x.r.i2)∧w.cell? ⟨b,o+3,none⟩=some (.int .u8 x.r.i3)∧w.cell? ⟨b,o+4,none⟩=some (.int .u8 x.r.i4)∧w.cell? ⟨b,o+5,none⟩=some (.int .u8 x.r.i5)∧w.cell? ⟨b,o+6,none⟩=some (.int .u8 x.r.i6)∧w.cell? ⟨b,o+7,none⟩=some (.int .u8 x.r.i7):=
 ⟨h 0 _ rfl,h 1 _ rfl,h 2 _ rfl,h 3 _ rfl,h 4 _ rfl,h 5 _ rfl,h 6 _ rfl,h 7 _ rfl⟩
theorem lY {w:World} {b o:Nat} {x:ak} (h:∀ j u,x.cells[j]?=some u→w.cell? ⟨b,o+j,none⟩=some u):w.cell? ⟨b,o,none⟩=some (.int .u8 x.d.i0)∧w.cell? ⟨b,o+1,none⟩=some (.int .u8 x.d.i1)∧w.cell? ⟨b,o+2,none⟩=some (.int .u8 x.d.i2)∧w.cell? ⟨b,o+3,none⟩=some (.int .u8 x.d.i3)∧w.cell? ⟨b,o+4,none⟩=some (.int .u8 x.d.i4)∧w.cell? ⟨b,o+5,none⟩=some (.int .u8 x.d.i5)∧w.cell? ⟨b,o+6,none⟩=some (.int .u8 x.d.i6)∧w.cell? ⟨b,o+7,none⟩=some (.int .u8 x.d.i7):=
 ⟨h 0 _ rfl,h 1 _ rfl,h 2 _ rfl,h 3 _ rfl,h 4 _ rfl,h 5 _ rfl,h 6 _ rfl,h 7 _ rfl⟩
theorem sq (w:World) (c:ae) (v:RV) (hin:v.In w) (hrec:bw v.x=0):Calls Tryz.prog 55 #[.agg #[.int .i64 c.q,.int .i64 c.d,.int .i64 c.w,.int .i64 c.ttl,.int .i64 c.b],.agg #[.int .i64 v.x.tick,.slice v.wo v.wn v.wc,.slice v.ko v.kn v.kc,.int .i64 v.x.rows,.int .i64 v.x.cols,.slice v.eo v.en v.ec,.slice v.po v.pn v.pc,.slice v.yo v.yn v.yc,.slice v.zo v.zn v.zc]] w fun e w'=>e = .returned (.bool (bZ c v.x))∧Below w.heap.size w w':=by
 have HIN:=yA hin;obtain ⟨sz1,sz2⟩:=ja hrec;rw [hin.wl] at sz1;rw [hin.kl] at sz2;have HREC:=yA hrec;clear hin hrec;have HW:=yA (cm.begin w c v);have heq:=vK;by_cases a1:c.q<v.wn
 · have HF:=yA (mt (c:=c) (x:=v.x) (by rw [HIN.out.wl];omega))
   go_enter Tryz.func55,Tryz.ntmps55
   go_wp2_with fail
   go_ret
   exact ⟨by rw [HF.out];rfl,HW.out.below⟩
 by_cases a2:c.d<v.kn
 · have HF:=yA (mt (c:=c) (x:=v.x) (by rw [HIN.out.kl];omega))
   go_enter Tryz.func55,Tryz.ntmps55
   go_wp2_with fail
   go_ret
   exact ⟨by rw [HF.out];rfl,HW.out.below⟩
 have HS1:=yA (show (v.x.ws.length:Int)≤c.q∧(v.x.ds.length:Int)≤c.d by rw [HIN.out.wl,HIN.out.kl];omega);go_enter Tryz.func55,Tryz.ntmps55
 go_wp2_with fail
 generalize (w.alloc (.cells #[.int .i64 c.q,.int .i64 c.d,.int .i64 c.w,.int .i64 c.ttl,.int .i64 c.b] 23)).alloc (.cells #[.int .i64 v.x.tick,.slice v.wo v.wn v.wc,.slice v.ko v.kn v.kc,.int .i64 v.x.rows,.int .i64 v.x.cols,.slice v.eo v.en v.ec,.slice v.po v.pn v.pc,.slice v.yo v.yn v.yc,.slice v.zo v.zn v.zc] 34)=W at *;generalize w.heap.size+1=H1 at *;have HHE:=yA (show ∃ H0,w.heap.size=H0 from ⟨_,rfl⟩);obtain ⟨H0,hH0⟩:=HHE.out;rw [hH0] at HW;rw [hH0];have HH:=yA hH0;clear hH0 HHE;go_loopw [5] (fun i wr=>Hid (∃ k:Nat,i = .int .i64 k∧k≤v.wn∧(∀ j,j<k→iv c v.x.tick v.x.ws j=true)∧(∀ j,j<k→newAt (ik v.x) j=true)∧cm w c v H0 H1 wr)) (fun i _=>v.wn - (intOf i).toNat)
 case atStart=>exact yA ⟨0,rfl,yQ _,bB,bB,HW.out⟩
 case round=>
  obtain ⟨k,rfl,hk,hall,hnew,hrel1⟩:=hrel.out;clear hrel;have HR1:=yA hrel1;have HALL:=yA hall;have HNEW:=yA hnew;clear hrel1 hall hnew;obtain ⟨g0,g1,g2,g3,g4,g5,g6,g7,g8⟩:=cells9 HR1.out.h;by_cases hlt:k<v.wn
  · obtain ⟨x,hx⟩:∃ x,v.x.ws[k]?=some x:=⟨v.x.ws[k]'(by rw [HIN.out.wl];exact hlt),yC _⟩
    obtain ⟨b,o,hbo,_⟩:=HIN.out.wr.place (by rw [cellsOf_length _ 18 ad.cells_length,HIN.out.wl];omega);have hrd:=HIN.out.wr.keep (Keep.of_below HR1.out.below (yB _) (fun _=>False)) (fun _ _ _=>id);rw [hbo] at hrd;rw [hbo] at g1;have HCE:=yA (bS hrd hx);have HX:=yA hx;have HXO:=yA (HIN.out.ok.ws x (yP hx));have HBD:=yA (lW HREC.out hx);have HEQ:=yA (qE (c:=c) (tick:=v.x.tick) hx);have HBOX:=yA (yE wr (.cells #[.int .u8 x.r.i0,.int .u8 x.r.i1,.int .u8 x.r.i2,.int .u8 x.r.i3,.int .u8 x.r.i4,.int .u8 x.r.i5,.int .u8 x.r.i6,.int .u8 x.r.i7,.int .i16 x.r.fx,.int .i16 x.r.fy,.int .i16 x.r.tx,.int .i16 x.r.ty,.int .u8 x.r.seats,.int .u8 x.r.classes,.int .i64 x.r.base,.int .i64 x.r.ttl,.int .i64 x.since,.int .i64 x.number] 79));have HR2:=yA (HR1.out.one (.cells #[.int .u8 x.r.i0,.int .u8 x.r.i1,.int .u8 x.r.i2,.int .u8 x.r.i3,.int .u8 x.r.i4,.int .u8 x.r.i5,.int .u8 x.r.i6,.int .u8 x.r.i7,.int .i16 x.r.fx,.int .i16 x.r.fy,.int .i16 x.r.tx,.int .i16 x.r.ty,.int .u8 x.r.seats,.int .u8 x.r.classes,.int .i64 x.r.base,.int .i64 x.r.ttl,.int .i64 x.since,.int .i64 x.number] 79));have HBO:=yA hbo;clear hx hrd hbo;go_wp2_with (first | ((with_reducible refine aa (o:=⟨some 35,_,_,_,_,_⟩) ?_ 79 (.tmp 34) ?_ b (o+k*18) ?_ x.cells #[.int .u8 x.r.i0,.int .u8 x.r.i1,.int .u8 x.r.i2,.int .u8 x.r.i3,.int .u8 x.r.i4,.int .u8 x.r.i5,.int .u8 x.r.i6,.int .u8 x.r.i7,.int .i16 x.r.fx,.int .i16 x.r.fy,.int .i16 x.r.tx,.int .i16 x.r.ty,.int .u8 x.r.seats,.int .u8 x.r.classes,.int .i64 x.r.base,.int .i64 x.r.ttl,.int .i64 x.since,.int .i64 x.number] ?_ _ HCE.out Tryz.underlying79 ?_ ?_ ?_);rfl;rfl;rfl;rfl;rfl;exact aK) | ((with_reducible refine ah (o:=⟨none,.store 79 (.tmp 6) (.tmp 35),_,_,_,_⟩) ?_ 79 (.tmp 6) (.tmp 35) ?_ _ #[.int .u8 x.r.i0,.int .u8 x.r.i1,.int .u8 x.r.i2,.int .u8 x.r.i3,.int .u8 x.r.i4,.int .u8 x.r.i5,.int .u8 x.r.i6,.int .u8 x.r.i7,.int .i16 x.r.fx,.int .i16 x.r.fy,.int .i16 x.r.tx,.int .i16 x.r.ty,.int .u8 x.r.seats,.int .u8 x.r.classes,.int .i64 x.r.base,.int .i64 x.r.ttl,.int .i64 x.since,.int .i64 x.number] ?_ ?_ x.cells ?_ ?_ ?_ x.cells_one ?_);rfl;rfl;rfl;rfl;rfl;exact aK;rfl) | ((with_reducible refine aa (o:=⟨some 36,_,_,_,_,_⟩) ?_ 23 (.tmp 2) ?_ H0 (0) ?_ c.cells #[.int .i64 c.q,.int .i64 c.d,.int .i64 c.w,.int .i64 c.ttl,.int .i64 c.b] ?_ _ (bA HR2.out.g) Tryz.underlying23 ?_ ?_ ?_);rfl;rfl;rfl;rfl;rfl;exact aE) | ((with_reducible refine aa (o:=⟨some 38,_,_,_,_,_⟩) ?_ 77 (.tmp 37) ?_ wr.heap.size (0) ?_ x.r.cells #[.int .u8 x.r.i0,.int .u8 x.r.i1,.int .u8 x.r.i2,.int .u8 x.r.i3,.int .u8 x.r.i4,.int .u8 x.r.i5,.int .u8 x.r.i6,.int .u8 x.r.i7,.int .i16 x.r.fx,.int .i16 x.r.fy,.int .i16 x.r.tx,.int .i16 x.r.ty,.int .u8 x.r.seats,.int .u8 x.r.classes,.int .i64 x.r.base,.int .i64 x.r.ttl] ?_ _ (iV HBOX.out) Tryz.underlying77 ?_ ?_ ?_);rfl;rfl;rfl;rfl;rfl;exact pd))
    refine (m5 (wr.alloc (.cells #[.int .u8 x.r.i0,.int .u8 x.r.i1,.int .u8 x.r.i2,.int .u8 x.r.i3,.int .u8 x.r.i4,.int .u8 x.r.i5,.int .u8 x.r.i6,.int .u8 x.r.i7,.int .i16 x.r.fx,.int .i16 x.r.fy,.int .i16 x.r.tx,.int .i16 x.r.ty,.int .u8 x.r.seats,.int .u8 x.r.classes,.int .i64 x.r.base,.int .i64 x.r.ttl,.int .i64 x.since,.int .i64 x.number] 79)) c x.r HXO.out.r).mono ?_;rintro e w1 ⟨rfl,hb1⟩;have HR3:=yA (HR2.out.keep hb1);have HBX:=yA ((Keep.of_below hb1 (yB _) (fun _=>False)).old HBOX.out id);clear hb1 HR2 HBOX HR1 HCE g0 g1 g2 g3 g4 g5 g6 g7 g8;generalize wr.heap.size=H2 at *;obtain ⟨E,hE⟩:∃ E,bn c x.r=E:=⟨_,rfl⟩;rw [hE];have HEE:=yA hE;clear hE;obtain ⟨g0,g1,g2,g3,g4,g5,g6,g7,g8⟩:=cells9 HR3.out.h;obtain ⟨k15,k16⟩:=ng HBX.out;by_cases h0:E=0
    · have HCB:=yA (fj (HEE.out.trans h0))
      obtain ⟨m1,m2,m3,m4⟩:=HBD.out;obtain ⟨n1,n2,n3,n4,n5,n6,n7⟩:=HCB.out;have e1:(E != 0)=false:=by simp [h0]
      have e2:(E==0)=true:=by simp [h0]
      by_cases h1:x.since+x.r.ttl<v.x.tick
      · have HF:=yA (mu (c:=c) (bE (yD.1 HX.out).1 (by rw [HEQ.out,decide_eq_false (show ¬ v.x.tick≤x.since+x.r.ttl by omega)];simp)))
        clear h0;go_wp2_with fail
        go_ret
        exact ⟨by rw [HF.out];rfl,HR3.out.below⟩
      · have HA:=yA (aX HALL.out (show iv c v.x.tick v.x.ws k=true by rw [HEQ.out,HEE.out,h0,decide_eq_true (show v.x.tick≤x.since+x.r.ttl by omega)];rfl))
        clear h0 HEQ HALL;go_wp2_with fail
        clear n1 n2 n3 n4 n5 n6 n7 m1 m2 m3 m4 h1 e1 e2 k15 k16 g0 g1 g2 g3 g4 g5 g6 g7 g8
        as_aux_lemma=>
         go_loopw [7] (fun i wr=>Hid (∃ j:Nat,i = .int .i64 j∧j≤k∧(∀ (q:Nat) (b:List Int),q<j→(ik v.x)[q]?=some b→b≠idR x.r)∧cm w c v H0 H1 wr∧wr.heap[H2]?=some (.cells #[.int .u8 x.r.i0,.int .u8 x.r.i1,.int .u8 x.r.i2,.int .u8 x.r.i3,.int .u8 x.r.i4,.int .u8 x.r.i5,.int .u8 x.r.i6,.int .u8 x.r.i7,.int .i16 x.r.fx,.int .i16 x.r.fy,.int .i16 x.r.tx,.int .i16 x.r.ty,.int .u8 x.r.seats,.int .u8 x.r.classes,.int .i64 x.r.base,.int .i64 x.r.ttl,.int .i64 x.since,.int .i64 x.number] 79 (0,0)))) (fun i _=>k - (intOf i).toNat)
         case atStart=>exact yA ⟨0,rfl,yQ _,fun q b h=>absurd h (Nat.not_lt_zero q),HR3.out,HBX.out⟩
         case round=>
          clear HR3 HBX;obtain ⟨j,rfl,hj,hdiff,hrel1,hbox⟩:=hrel.out;clear hrel;have HR4:=yA hrel1;have HBX:=yA hbox;have HDF:=yA hdiff;clear hrel1 hdiff hbox;by_cases hjk:j<k
          · obtain ⟨y,hy⟩:∃ y,v.x.ws[j]?=some y:=⟨v.x.ws[j]'(by rw [HIN.out.wl];omega),yC _⟩
            obtain ⟨g0,g1,g2,g3,g4,g5,g6,g7,g8⟩:=cells9 HR4.out.h;have hrd:=HIN.out.wr.keep (Keep.of_below HR4.out.below (yB _) (fun _=>False)) (fun _ _ _=>id);rw [HBO.out] at hrd g1;obtain ⟨y0,y1,y2,y3,y4,y5,y6,y7⟩:=lX (bS hrd hy);obtain ⟨x0,x1,x2,x3,x4,x5,x6,x7⟩:=qG HBX.out;have HY:=yA hy;clear hy hrd;have hj64:j<64:=by omega
            cases hq:lQ y.r.i0 x.r.i0 y.r.i1 x.r.i1 y.r.i2 x.r.i2 y.r.i3 x.r.i3 y.r.i4 x.r.i4 y.r.i5 x.r.i5 y.r.i6 x.r.i6 y.r.i7 x.r.i7 with
            | true=>
              have HF:=yA (tr (c:=c) (x:=v.x) (bE (yD.1 (i8 HX.out)).1 (nc (i8 HX.out) (i8 HY.out) hjk (pp.1 hq))));go_wp2_with fail
              go_quiet (fail)
              go_wp2_with fail
              go_ret
              exact ⟨by rw [HF.out];rfl,below_drewN HR4.out.below _⟩
            | false=>
              have HN:=yA (show ∀ (q:Nat) (b:List Int),q<j+1→(ik v.x)[q]?=some b→b≠idR x.r from fun q b hqj hb=>by
               rcases yW.1 hqj with hqj | rfl
               · exact HDF.out q b hqj hb
               · rw [i8 HY.out] at hb;cases hb;intro he;rw [pp.2 he] at hq;cases hq)
              go_wp2_with fail
              go_quiet (fail)
              go_wp2_with fail
              go_roundw
              case rel=>exact yA ⟨j+1,by go_num,by omega,HN.out,HR4.out.drewN _,HBX.out⟩
              case measure=>simp [intOf];omega
          · obtain rfl:k=j:=by omega
            have HNX:=yA (aX HNEW.out (nf (i8 HX.out) HDF.out));go_wp2_with fail
            go_roundw
            case rel=>exact yA ⟨k+1,by go_num,by omega,HA.out,HNX.out,HR4.out⟩
            case measure=>simp [intOf];omega
    · have HF:=yA (mu (c:=c) (bE (yD.1 HX.out).1 (by rw [HEQ.out,HEE.out,decide_eq_false h0];rfl)))
      have e1:(E != 0)=true:=by simp [h0]
      have e2:(E==0)=false:=by simp [h0]
      clear h0;go_wp2_with fail
      go_ret
      exact ⟨by rw [HF.out];rfl,HR3.out.below⟩
  · obtain rfl:v.wn=k:=by omega
    have HS2:=yA (show c6 v.x.ws.length (iv c v.x.tick v.x.ws)=true from aU (fun j hj=>HALL.out j (by rw [HIN.out.wl] at hj;exact hj)));have HS4:=yA (show fe (ik v.x)=true from aU (fun j hj=>HNEW.out j (by rw [ik,List.length_map,HIN.out.wl] at hj;exact hj)));clear HALL hlt hk HNEW
    as_aux_lemma=>
     go_wp2_with fail
     go_loopw [8] (fun i wr=>Hid (∃ k:Nat,i = .int .i64 k∧k≤v.kn∧(∀ j,j<k→iw v.x.ds j=true)∧(∀ j,j<k→newAt (iC v.x) j=true)∧cm w c v H0 H1 wr)) (fun i _=>v.kn - (intOf i).toNat)
     case atStart=>exact yA ⟨0,rfl,yQ _,bB,bB,HR1.out⟩
     case round=>
      clear HR1 g0 g1 g2 g3 g4 g5 g6 g7 g8;obtain ⟨k,rfl,hk,hall,hnew,hrel1⟩:=hrel.out;clear hrel;have HR1:=yA hrel1;have HALL:=yA hall;have HNEW:=yA hnew;clear hrel1 hall hnew;obtain ⟨g0,g1,g2,g3,g4,g5,g6,g7,g8⟩:=cells9 HR1.out.h;by_cases hlt:k<v.kn
      · obtain ⟨x,hx⟩:∃ x,v.x.ds[k]?=some x:=⟨v.x.ds[k]'(by rw [HIN.out.kl];exact hlt),yC _⟩
        obtain ⟨b,o,hbo,_⟩:=HIN.out.kr.place (by rw [cellsOf_length _ 14 ak.cells_length,HIN.out.kl];omega);have hrd:=HIN.out.kr.keep (Keep.of_below HR1.out.below (yB _) (fun _=>False)) (fun _ _ _=>id);rw [hbo] at hrd;rw [hbo] at g2;have HCE:=yA (kD hrd hx);have HX:=yA hx;have HXO:=yA (HIN.out.ok.ds x (yP hx));have HEQ:=yA (qF hx);have HBO:=yA hbo;clear hx hrd hbo;go_wp2_with (first | ((with_reducible refine aa (o:=⟨some 80,_,_,_,_,_⟩) ?_ 81 (.tmp 79) ?_ b (o+k*14) ?_ x.d.cells #[.int .u8 x.d.i0,.int .u8 x.d.i1,.int .u8 x.d.i2,.int .u8 x.d.i3,.int .u8 x.d.i4,.int .u8 x.d.i5,.int .u8 x.d.i6,.int .u8 x.d.i7,.int .i16 x.d.ax,.int .i16 x.d.ay,.int .u8 x.d.seats,.int .u8 x.d.cls,.int .i64 x.d.radius] ?_ _ HCE.out Tryz.underlying81 ?_ ?_ ?_);rfl;rfl;rfl;rfl;rfl;exact pg))
        refine (lV wr x.d HXO.out.d).mono ?_;rintro e w1 ⟨rfl,hb1⟩;have HR3:=yA (HR1.out.keep hb1);clear hb1 HR1 HCE g0 g1 g2 g3 g4 g5 g6 g7 g8;obtain ⟨E,hE⟩:∃ E,aR x.d=E:=⟨_,rfl⟩;rw [hE];have HEE:=yA hE;clear hE;by_cases h0:E=0
        · have e1:(E != 0)=false:=by simp [h0]
          have e2:(E==0)=true:=by simp [h0]
          have HA:=yA (aX HALL.out (show iw v.x.ds k=true by rw [HEQ.out,HEE.out,h0];rfl));clear h0 HEQ HALL;go_wp2_with fail
          clear e1 e2
          as_aux_lemma=>
           go_loopw [9] (fun i wr=>Hid (∃ j:Nat,i = .int .i64 j∧j≤k∧(∀ (q:Nat) (b:List Int),q<j→(iC v.x)[q]?=some b→b≠idD x.d)∧cm w c v H0 H1 wr)) (fun i _=>k - (intOf i).toNat)
           case atStart=>exact yA ⟨0,rfl,yQ _,fun q b h=>absurd h (Nat.not_lt_zero q),HR3.out⟩
           case round=>
            clear HR3;obtain ⟨j,rfl,hj,hdiff,hrel1⟩:=hrel.out;clear hrel;have HR4:=yA hrel1;have HDF:=yA hdiff;clear hrel1 hdiff;by_cases hjk:j<k
            · obtain ⟨y,hy⟩:∃ y,v.x.ds[j]?=some y:=⟨v.x.ds[j]'(by rw [HIN.out.kl];omega),yC _⟩
              obtain ⟨g0,g1,g2,g3,g4,g5,g6,g7,g8⟩:=cells9 HR4.out.h;have hrd:=HIN.out.kr.keep (Keep.of_below HR4.out.below (yB _) (fun _=>False)) (fun _ _ _=>id);rw [HBO.out] at hrd g2;obtain ⟨y0,y1,y2,y3,y4,y5,y6,y7⟩:=lY (dz hrd hy);obtain ⟨x0,x1,x2,x3,x4,x5,x6,x7⟩:=lY (dz hrd HX.out);have HY:=yA hy;clear hy hrd;have hj64:j<64:=by omega
              cases hq:lQ y.d.i0 x.d.i0 y.d.i1 x.d.i1 y.d.i2 x.d.i2 y.d.i3 x.d.i3 y.d.i4 x.d.i4 y.d.i5 x.d.i5 y.d.i6 x.d.i6 y.d.i7 x.d.i7 with
              | true=>
                have HF:=yA (tu (c:=c) (x:=v.x) (bE (yD.1 (i9 HX.out)).1 (nc (i9 HX.out) (i9 HY.out) hjk (wA.1 hq))));go_wp2_with fail
                go_quiet (fail)
                go_wp2_with fail
                go_ret
                exact ⟨by rw [HF.out];rfl,below_drewN HR4.out.below _⟩
              | false=>
                have HN:=yA (show ∀ (q:Nat) (b:List Int),q<j+1→(iC v.x)[q]?=some b→b≠idD x.d from fun q b hqj hb=>by
                 rcases yW.1 hqj with hqj | rfl
                 · exact HDF.out q b hqj hb
                 · rw [i9 HY.out] at hb;cases hb;intro he;rw [wA.2 he] at hq;cases hq)
                go_wp2_with fail
                go_quiet (fail)
                go_wp2_with fail
                go_roundw
                case rel=>exact yA ⟨j+1,by go_num,by omega,HN.out,HR4.out.drewN _⟩
                case measure=>simp [intOf];omega
            · obtain rfl:k=j:=by omega
              have HNX:=yA (aX HNEW.out (nf (i9 HX.out) HDF.out));go_wp2_with fail
              go_roundw
              case rel=>exact yA ⟨k+1,by go_num,by omega,HA.out,HNX.out,HR4.out⟩
              case measure=>simp [intOf];omega
        · have HF:=yA (tq (c:=c) (bE (yD.1 HX.out).1 (by rw [HEQ.out,HEE.out];exact decide_eq_false h0)))
          have e1:(E != 0)=true:=by simp [h0]
          have e2:(E==0)=false:=by simp [h0]
          clear h0;go_wp2_with fail
          go_ret
          exact ⟨by rw [HF.out];rfl,HR3.out.below⟩
      · obtain rfl:v.kn=k:=by omega
        have HS3:=yA (show c6 v.x.ds.length (iw v.x.ds)=true from aU (fun j hj=>HALL.out j (by rw [HIN.out.kl] at hj;exact hj)));have HS5:=yA (show fe (iC v.x)=true from aU (fun j hj=>HNEW.out j (by rw [iC,List.length_map,HIN.out.kl] at hj;exact hj)));have HF:=yA (tw HS1.out HS2.out HS3.out HS4.out HS5.out);go_wp2_with fail
        go_ret
        exact ⟨by rw [HF.out];rfl,HR1.out.below⟩
end Go.Proofs.YtcaicgipibcicaaGreat
