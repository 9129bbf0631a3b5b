/- The lists of a record, in the program. Printed by wip/genalists.py. -/
import Derived.Test.YtcaicgipibcicaaGreatQMapK
set_option maxRecDepth 100000
set_option maxHeartbeats 16000000
set_option linter.unusedSimpArgs false
set_option linter.unusedVariables false
open Go.Lib renaming hid→wB
open List renaming getElem?_eq_getElem→wE,getElem?_eq_some_iff→wD,length_map→xu,mem_of_getElem?→wM,take_of_length_le→xl
open Nat renaming le_refl→wC
namespace Go.Proofs.YtcaicgipibcicaaGreat
open Go.RowKit Go.Sort
def gl (c:ag) (x:aw):Int:=if bO c x then 0 else 1
theorem dL {c:ag} {x:aw} (h:bO c x=false):gl c x=1:=by unfold gl;rw [h];rfl
theorem pS {c:ag} {x:aw} (h:bO c x=true):gl c x=0:=by unfold gl;rw [h];rfl
theorem rp {r:aB} (h:r.Ok):keyOf Tryz.prog 72 (.agg #[.int .u8 r.i0,.int .u8 r.i1,.int .u8 r.i2,.int .u8 r.i3,.int .u8 r.i4,.int .u8 r.i5,.int .u8 r.i6,.int .u8 r.i7])=some (bP (idR r)):=by
 obtain ⟨h0,h1,h2,h3,h4,h5,h6,h7⟩:=h.id;exact lI h0 h1 h2 h3 h4 h5 h6 h7
theorem rq {r:iD} (h:r.Ok):keyOf Tryz.prog 72 (.agg #[.int .u8 r.i0,.int .u8 r.i1,.int .u8 r.i2,.int .u8 r.i3,.int .u8 r.i4,.int .u8 r.i5,.int .u8 r.i6,.int .u8 r.i7])=some (bP (idD r)):=by
 obtain ⟨h0,h1,h2,h3,h4,h5,h6,h7⟩:=h.id;exact lI h0 h1 h2 h3 h4 h5 h6 h7
theorem keysW {x:aw} (h:x.Ok):nt (jC x):=by
 intro a ha;obtain ⟨y,hy,rfl⟩:=List.mem_map.1 ha;exact ⟨_,rp (h.ws y hy).r⟩
theorem keysD {x:aw} (h:x.Ok):nt (kL x):=by
 intro a ha;obtain ⟨y,hy,rfl⟩:=List.mem_map.1 ha;exact ⟨_,rq (h.ds y hy).d⟩
theorem tw {w:World} {H:Nat} {x:ak} {t:TypeId} (h:w.heap[H]?=some (.cells #[.int .u8 x.d.i0,.int .u8 x.d.i1,.int .u8 x.d.i2,.int .u8 x.d.i3,.int .u8 x.d.i4,.int .u8 x.d.i5,.int .u8 x.d.i6,.int .u8 x.d.i7,.int .i16 x.d.ax,.int .i16 x.d.ay,.int .u8 x.d.seats,.int .u8 x.d.cls,.int .i64 x.d.radius,.int .i64 x.number] t (0,0))):w.cell? ⟨H,0,none⟩=some (.int .u8 x.d.i0)∧w.cell? ⟨H,1,none⟩=some (.int .u8 x.d.i1)∧w.cell? ⟨H,2,none⟩=some (.int .u8 x.d.i2)∧w.cell? ⟨H,3,none⟩=some (.int .u8 x.d.i3)∧w.cell? ⟨H,4,none⟩=some (.int .u8 x.d.i4)∧w.cell? ⟨H,5,none⟩=some (.int .u8 x.d.i5)∧w.cell? ⟨H,6,none⟩=some (.int .u8 x.d.i6)∧w.cell? ⟨H,7,none⟩=some (.int .u8 x.d.i7)  := by
 refine ⟨?_,?_,?_,?_,?_,?_,?_,?_⟩ <;> rw [cell_of_row w H _ _ t (0,0) h] <;> rfl
theorem pT (w:World) (c:ag) (v:RV) (hin:v.In w) (hrec:bh v.x=0):Calls Tryz.prog 47 #[.agg #[.int .i64 c.q,.int .i64 c.d,.int .i64 c.w,.int .i64 c.ttl,.int .i64 c.b],.agg #[.int .i64 v.x.tick,.slice v.wo v.wn v.wc,.slice v.ko v.kn v.kc,.int .i64 v.x.rows,.int .i64 v.x.cols,.slice v.eo v.en v.ec,.slice v.po v.pn v.pc,.slice v.yo v.yn v.yc,.slice v.zo v.zn v.zc]] w fun e w'=>e = .returned (.int .i64 (gl c v.x))∧Below w.heap.size w w':=by
 have HIN:=wB hin;obtain ⟨sz1,sz2⟩:=jD hrec;rw [hin.wl] at sz1;rw [hin.kl] at sz2;have HREC:=wB hrec;clear hin hrec;have HW:=wB (cu.begin w c v);have hmm:=@run_makeMap Tryz.prog;by_cases a1:c.q<v.wn
 · have HF:=wB (dL (ry (c:=c) (x:=v.x) (by rw [HIN.out.wl];omega)))
   go_enter Tryz.func47,Tryz.ntmps47
   go_wp2_with fail
   go_ret
   exact ⟨by rw [HF.out];rfl,HW.out.below⟩
 by_cases a2:c.d<v.kn
 · have HF:=wB (dL (ry (c:=c) (x:=v.x) (by rw [HIN.out.kl];omega)))
   go_enter Tryz.func47,Tryz.ntmps47
   go_wp2_with fail
   go_ret
   exact ⟨by rw [HF.out];rfl,HW.out.below⟩
 have HS1:=wB (show (v.x.ws.length:Int)≤c.q∧(v.x.ds.length:Int)≤c.d by rw [HIN.out.wl,HIN.out.kl];omega);go_enter Tryz.func47,Tryz.ntmps47
 go_upto_region 3 with fail
 generalize (w.alloc (.cells #[.int .i64 c.q,.int .i64 c.d,.int .i64 c.w,.int .i64 c.ttl,.int .i64 c.b] 23)).alloc (.cells #[.int .i64 v.x.tick,.slice v.wo v.wn v.wc,.slice v.ko v.kn v.kc,.int .i64 v.x.rows,.int .i64 v.x.cols,.slice v.eo v.en v.ec,.slice v.po v.pn v.pc,.slice v.yo v.yn v.yc,.slice v.zo v.zn v.zc] 34)=W at *;generalize w.heap.size+1=H1 at *;have HHE:=wB (show ∃ H0,w.heap.size=H0 from ⟨_,rfl⟩);obtain ⟨H0,hH0⟩:=HHE.out;rw [hH0] at HW;rw [hH0];have HH:=wB hH0;clear hH0 HHE;obtain ⟨g0,g1,g2,g3,g4,g5,g6,g7,g8⟩:=cells9 HW.out.h;have HM:=wB (d8.begin HW.out);go_upto_region 4 with fail
 generalize (W.alloc (.map #[] 0)).alloc (.map #[] 0)=WM at *;generalize W.heap.size+1=M2 at *;generalize W.heap.size=M1 at *;clear HW g0 g1 g2 g3 g4 g5 g6 g7 g8;obtain ⟨g0,g1,g2,g3,g4,g5,g6,g7,g8⟩:=cells9 HM.out.cr.h;go_wp2_with fail
 go_loopw [30] (fun i wr=>Hid (∃ k:Nat,i = .int .i64 k∧k≤v.wn∧(∀ j,j<k→kq c v.x.tick v.x.ws j=true)∧d8 w c v H0 H1 M1 M2 k 0 (fE ((jC v.x).take k)) (fE []) wr)) (fun i _=>v.wn - (intOf i).toNat)
 case atStart=>exact wB ⟨0,rfl,Nat.zero_le _,eC,HM.out⟩
 case round=>
  clear HM g0 g1 g2 g3 g4 g5 g6 g7 g8;obtain ⟨k,rfl,hk,hall,hrel1⟩:=hrel.out;clear hrel;have HR1:=wB hrel1;have HALL:=wB hall;clear hrel1 hall;obtain ⟨g0,g1,g2,g3,g4,g5,g6,g7,g8⟩:=cells9 HR1.out.cr.h;by_cases hlt:k<v.wn
  · obtain ⟨x,hx⟩:∃ x,v.x.ws[k]?=some x:=⟨v.x.ws[k]'(by rw [HIN.out.wl];exact hlt),wE _⟩
    obtain ⟨b,o,hbo,_⟩:=HIN.out.wr.place (by rw [cellsOf_length _ 18 aa.cells_length,HIN.out.wl];omega);have hrd:=HIN.out.wr.keep (Keep.of_below HR1.out.cr.below (wC _) (fun _=>False)) (fun _ _ _=>id);rw [hbo] at hrd;rw [hbo];have HCE:=wB (fm hrd hx);have HX:=wB hx;have HXO:=wB (HIN.out.ok.ws x (wM hx));have HBD:=wB (oT HREC.out hx);have HEQ:=wB (un (c:=c) (tick:=v.x.tick) hx);have HBOX:=wB (heap_alloc_new wr (.cells #[.int .u8 x.r.i0,.int .u8 x.r.i1,.int .u8 x.r.i2,.int .u8 x.r.i3,.int .u8 x.r.i4,.int .u8 x.r.i5,.int .u8 x.r.i6,.int .u8 x.r.i7,.int .i16 x.r.fx,.int .i16 x.r.fy,.int .i16 x.r.tx,.int .i16 x.r.ty,.int .u8 x.r.seats,.int .u8 x.r.classes,.int .i64 x.r.base,.int .i64 x.r.ttl,.int .i64 x.since,.int .i64 x.number] 79));have HR2:=wB (HR1.out.one (.cells #[.int .u8 x.r.i0,.int .u8 x.r.i1,.int .u8 x.r.i2,.int .u8 x.r.i3,.int .u8 x.r.i4,.int .u8 x.r.i5,.int .u8 x.r.i6,.int .u8 x.r.i7,.int .i16 x.r.fx,.int .i16 x.r.fy,.int .i16 x.r.tx,.int .i16 x.r.ty,.int .u8 x.r.seats,.int .u8 x.r.classes,.int .i64 x.r.base,.int .i64 x.r.ttl,.int .i64 x.since,.int .i64 x.number] 79));have HBO:=wB hbo;clear hx hrd hbo;go_wp2_with (first | ((with_reducible refine ad (o:=⟨some 33,_,_,_,_,_⟩) ?_ 79 (.tmp 32) ?_ b (o+k*18) ?_ x.cells #[.int .u8 x.r.i0,.int .u8 x.r.i1,.int .u8 x.r.i2,.int .u8 x.r.i3,.int .u8 x.r.i4,.int .u8 x.r.i5,.int .u8 x.r.i6,.int .u8 x.r.i7,.int .i16 x.r.fx,.int .i16 x.r.fy,.int .i16 x.r.tx,.int .i16 x.r.ty,.int .u8 x.r.seats,.int .u8 x.r.classes,.int .i64 x.r.base,.int .i64 x.r.ttl,.int .i64 x.since,.int .i64 x.number] ?_ _ HCE.out Tryz.underlying79 ?_ ?_ ?_);rfl;rfl;rfl;rfl;rfl;exact bd) | ((with_reducible refine aj (o:=⟨none,.store 79 (.tmp 8) (.tmp 33),_,_,_,_⟩) ?_ 79 (.tmp 8) (.tmp 33) ?_ _ #[.int .u8 x.r.i0,.int .u8 x.r.i1,.int .u8 x.r.i2,.int .u8 x.r.i3,.int .u8 x.r.i4,.int .u8 x.r.i5,.int .u8 x.r.i6,.int .u8 x.r.i7,.int .i16 x.r.fx,.int .i16 x.r.fy,.int .i16 x.r.tx,.int .i16 x.r.ty,.int .u8 x.r.seats,.int .u8 x.r.classes,.int .i64 x.r.base,.int .i64 x.r.ttl,.int .i64 x.since,.int .i64 x.number] ?_ ?_ x.cells ?_ ?_ ?_ x.cells_one ?_);rfl;rfl;rfl;rfl;rfl;exact bd;rfl) | ((with_reducible refine ad (o:=⟨some 34,_,_,_,_,_⟩) ?_ 23 (.tmp 2) ?_ H0 (0) ?_ c.cells #[.int .i64 c.q,.int .i64 c.d,.int .i64 c.w,.int .i64 c.ttl,.int .i64 c.b] ?_ _ (cq HR2.out.cr.g) Tryz.underlying23 ?_ ?_ ?_);rfl;rfl;rfl;rfl;rfl;exact cg) | ((with_reducible refine ad (o:=⟨some 36,_,_,_,_,_⟩) ?_ 77 (.tmp 35) ?_ wr.heap.size (0) ?_ x.r.cells #[.int .u8 x.r.i0,.int .u8 x.r.i1,.int .u8 x.r.i2,.int .u8 x.r.i3,.int .u8 x.r.i4,.int .u8 x.r.i5,.int .u8 x.r.i6,.int .u8 x.r.i7,.int .i16 x.r.fx,.int .i16 x.r.fy,.int .i16 x.r.tx,.int .i16 x.r.ty,.int .u8 x.r.seats,.int .u8 x.r.classes,.int .i64 x.r.base,.int .i64 x.r.ttl] ?_ _ (mN HBOX.out) Tryz.underlying77 ?_ ?_ ?_);rfl;rfl;rfl;rfl;rfl;exact uj))
    refine (check_any (wr.alloc (.cells #[.int .u8 x.r.i0,.int .u8 x.r.i1,.int .u8 x.r.i2,.int .u8 x.r.i3,.int .u8 x.r.i4,.int .u8 x.r.i5,.int .u8 x.r.i6,.int .u8 x.r.i7,.int .i16 x.r.fx,.int .i16 x.r.fy,.int .i16 x.r.tx,.int .i16 x.r.ty,.int .u8 x.r.seats,.int .u8 x.r.classes,.int .i64 x.r.base,.int .i64 x.r.ttl,.int .i64 x.since,.int .i64 x.number] 79)) c x.r).mono ?_;rintro e w1 ⟨rfl,hb1⟩;have HR3:=wB (HR2.out.keep hb1);have HBX:=wB ((Keep.of_below hb1 (wC _) (fun _=>False)).old HBOX.out id);clear hb1 HR2 HBOX HR1 HCE g0 g1 g2 g3 g4 g5 g6 g7 g8;generalize wr.heap.size=H2 at *;obtain ⟨E,hE⟩:∃ E,bt c x.r=E:=⟨_,rfl⟩;rw [hE];have HEE:=wB hE;clear hE;obtain ⟨g0,g1,g2,g3,g4,g5,g6,g7,g8⟩:=cells9 HR3.out.cr.h;obtain ⟨k15,k16⟩:=qB HBX.out;by_cases h0:E=0
    · have HCB:=wB (jo (HEE.out.trans h0))
      obtain ⟨m1,m2,m3,m4⟩:=HBD.out;obtain ⟨n1,n2,n3,n4,n5,n6,n7⟩:=HCB.out;have e1:(E != 0)=false:=by simp [h0]
      have e2:(E==0)=true:=by simp [h0]
      by_cases h1:x.since+x.r.ttl<v.x.tick
      · have HF:=wB (dL (rz (c:=c) (cW (wD.1 HX.out).1 (by rw [HEQ.out,decide_eq_false (show ¬ v.x.tick≤x.since+x.r.ttl by omega)];simp))))
        clear h0;go_wp2_with fail
        go_ret
        exact ⟨by rw [HF.out];rfl,HR3.out.cr.below⟩
      · have HA:=wB (dP HALL.out (show kq c v.x.tick v.x.ws k=true by rw [HEQ.out,HEE.out,h0,decide_eq_true (show v.x.tick≤x.since+x.r.ttl by omega)];rfl))
        have HSN:=wB (jE (vP HX.out));obtain ⟨x0,x1,x2,x3,x4,x5,x6,x7⟩:=uq HBX.out;clear h0 HEQ HALL;go_wp2_with (first | ((with_reducible refine wpList_mapUpdate_own _ (o:=⟨none,.mapUpdate 159 (.tmp 50) (.tmp 53) (.tmp 54),_,_,_,_⟩) ?_ (.tmp 50) (.tmp 53) (.tmp 54) 159 ?_ 72 160 gV Tryz.underlying159 unitElem M1 k (fE ((jC v.x).take k)) ?_ HR3.out.m1 ?_ (.agg #[.int .u8 x.r.i0,.int .u8 x.r.i1,.int .u8 x.r.i2,.int .u8 x.r.i3,.int .u8 x.r.i4,.int .u8 x.r.i5,.int .u8 x.r.i6,.int .u8 x.r.i7]) (.agg #[]) (bP (idR x.r)) ?_ ?_ (rp HXO.out.r) (.agg []) [] unitElem_mk ?_);rfl;rfl;rfl;(unfold maxLen;omega);rfl;rfl;intro w2 hown2 hgrow2))
        have HR4:=wB (HR3.out.put1 hown2 hgrow2);rw [←HSN.out] at HR4;clear hown2 hgrow2;go_wp2_with fail
        go_roundw
        case rel=>exact wB ⟨k+1,by go_num,by omega,HA.out,HR4.out⟩
        case measure=>simp [intOf];omega
    · have HF:=wB (dL (rz (c:=c) (cW (wD.1 HX.out).1 (by rw [HEQ.out,HEE.out,decide_eq_false h0];rfl))))
      have e1:(E != 0)=true:=by simp [h0]
      have e2:(E==0)=false:=by simp [h0]
      clear h0;go_wp2_with fail
      go_ret
      exact ⟨by rw [HF.out];rfl,HR3.out.cr.below⟩
  · obtain rfl:v.wn=k:=by omega
    have HS2:=wB (show cV v.x.ws.length (kq c v.x.tick v.x.ws)=true from bY (fun j hj=>HALL.out j (by rw [HIN.out.wl] at hj;exact hj)));have HSW:=wB (show (jC v.x).take v.wn=jC v.x from xl (by rw [jC,xu,HIN.out.wl];exact wC _));rw [HSW.out] at HR1;clear HALL hlt hk
    as_aux_lemma=>
     go_wp2_with fail
     go_loopw [59] (fun i wr=>Hid (∃ k:Nat,i = .int .i64 k∧k≤v.kn∧(∀ j,j<k→ks v.x.ds j=true)∧d8 w c v H0 H1 M1 M2 v.wn k (fE (jC v.x)) (fE ((kL v.x).take k)) wr)) (fun i _=>v.kn - (intOf i).toNat)
     case atStart=>exact wB ⟨0,rfl,Nat.zero_le _,eC,HR1.out⟩
     case round=>
      clear HR1 g0 g1 g2 g3 g4 g5 g6 g7 g8;obtain ⟨k,rfl,hk,hall,hrel1⟩:=hrel.out;clear hrel;have HR1:=wB hrel1;have HALL:=wB hall;clear hrel1 hall;obtain ⟨g0,g1,g2,g3,g4,g5,g6,g7,g8⟩:=cells9 HR1.out.cr.h;by_cases hlt:k<v.kn
      · obtain ⟨x,hx⟩:∃ x,v.x.ds[k]?=some x:=⟨v.x.ds[k]'(by rw [HIN.out.kl];exact hlt),wE _⟩
        obtain ⟨b,o,hbo,_⟩:=HIN.out.kr.place (by rw [cellsOf_length _ 14 ak.cells_length,HIN.out.kl];omega);have hrd:=HIN.out.kr.keep (Keep.of_below HR1.out.cr.below (wC _) (fun _=>False)) (fun _ _ _=>id);rw [hbo] at hrd;rw [hbo];have HCE:=wB (fo hrd hx);have HX:=wB hx;have HXO:=wB (HIN.out.ok.ds x (wM hx));have HEQ:=wB (uo hx);have HBOX:=wB (heap_alloc_new wr (.cells #[.int .u8 x.d.i0,.int .u8 x.d.i1,.int .u8 x.d.i2,.int .u8 x.d.i3,.int .u8 x.d.i4,.int .u8 x.d.i5,.int .u8 x.d.i6,.int .u8 x.d.i7,.int .i16 x.d.ax,.int .i16 x.d.ay,.int .u8 x.d.seats,.int .u8 x.d.cls,.int .i64 x.d.radius,.int .i64 x.number] 83));have HR2:=wB (HR1.out.one (.cells #[.int .u8 x.d.i0,.int .u8 x.d.i1,.int .u8 x.d.i2,.int .u8 x.d.i3,.int .u8 x.d.i4,.int .u8 x.d.i5,.int .u8 x.d.i6,.int .u8 x.d.i7,.int .i16 x.d.ax,.int .i16 x.d.ay,.int .u8 x.d.seats,.int .u8 x.d.cls,.int .i64 x.d.radius,.int .i64 x.number] 83));clear hx hrd hbo;go_wp2_with (first | ((with_reducible refine ad (o:=⟨some 62,_,_,_,_,_⟩) ?_ 83 (.tmp 61) ?_ b (o+k*14) ?_ x.cells #[.int .u8 x.d.i0,.int .u8 x.d.i1,.int .u8 x.d.i2,.int .u8 x.d.i3,.int .u8 x.d.i4,.int .u8 x.d.i5,.int .u8 x.d.i6,.int .u8 x.d.i7,.int .i16 x.d.ax,.int .i16 x.d.ay,.int .u8 x.d.seats,.int .u8 x.d.cls,.int .i64 x.d.radius,.int .i64 x.number] ?_ _ HCE.out Tryz.underlying83 ?_ ?_ ?_);rfl;rfl;rfl;rfl;rfl;exact ew) | ((with_reducible refine aj (o:=⟨none,.store 83 (.tmp 10) (.tmp 62),_,_,_,_⟩) ?_ 83 (.tmp 10) (.tmp 62) ?_ _ #[.int .u8 x.d.i0,.int .u8 x.d.i1,.int .u8 x.d.i2,.int .u8 x.d.i3,.int .u8 x.d.i4,.int .u8 x.d.i5,.int .u8 x.d.i6,.int .u8 x.d.i7,.int .i16 x.d.ax,.int .i16 x.d.ay,.int .u8 x.d.seats,.int .u8 x.d.cls,.int .i64 x.d.radius,.int .i64 x.number] ?_ ?_ x.cells ?_ ?_ ?_ x.cells_one ?_);rfl;rfl;rfl;rfl;rfl;exact ew;rfl) | ((with_reducible refine ad (o:=⟨some 64,_,_,_,_,_⟩) ?_ 81 (.tmp 63) ?_ wr.heap.size (0) ?_ x.d.cells #[.int .u8 x.d.i0,.int .u8 x.d.i1,.int .u8 x.d.i2,.int .u8 x.d.i3,.int .u8 x.d.i4,.int .u8 x.d.i5,.int .u8 x.d.i6,.int .u8 x.d.i7,.int .i16 x.d.ax,.int .i16 x.d.ay,.int .u8 x.d.seats,.int .u8 x.d.cls,.int .i64 x.d.radius] ?_ _ (mO HBOX.out) Tryz.underlying81 ?_ ?_ ?_);rfl;rfl;rfl;rfl;rfl;exact uk))
        refine (lr (wr.alloc (.cells #[.int .u8 x.d.i0,.int .u8 x.d.i1,.int .u8 x.d.i2,.int .u8 x.d.i3,.int .u8 x.d.i4,.int .u8 x.d.i5,.int .u8 x.d.i6,.int .u8 x.d.i7,.int .i16 x.d.ax,.int .i16 x.d.ay,.int .u8 x.d.seats,.int .u8 x.d.cls,.int .i64 x.d.radius,.int .i64 x.number] 83)) x.d).mono ?_;rintro e w1 ⟨rfl,hb1⟩;have HR3:=wB (HR2.out.keep hb1);have HBX:=wB ((Keep.of_below hb1 (wC _) (fun _=>False)).old HBOX.out id);clear hb1 HR2 HBOX HR1 HCE g0 g1 g2 g3 g4 g5 g6 g7 g8;generalize wr.heap.size=H2 at *;obtain ⟨E,hE⟩:∃ E,bc x.d=E:=⟨_,rfl⟩;rw [hE];have HEE:=wB hE;clear hE;by_cases h0:E=0
        · have e1:(E != 0)=false:=by simp [h0]
          have e2:(E==0)=true:=by simp [h0]
          have HA:=wB (dP HALL.out (show ks v.x.ds k=true by rw [HEQ.out,HEE.out,h0];rfl));have HSN:=wB (jE (vQ HX.out));obtain ⟨x0,x1,x2,x3,x4,x5,x6,x7⟩:=tw HBX.out;clear h0 HEQ HALL;go_wp2_with (first | ((with_reducible refine wpList_mapUpdate_own _ (o:=⟨none,.mapUpdate 159 (.tmp 67) (.tmp 70) (.tmp 71),_,_,_,_⟩) ?_ (.tmp 67) (.tmp 70) (.tmp 71) 159 ?_ 72 160 gV Tryz.underlying159 unitElem M2 k (fE ((kL v.x).take k)) ?_ HR3.out.m2 ?_ (.agg #[.int .u8 x.d.i0,.int .u8 x.d.i1,.int .u8 x.d.i2,.int .u8 x.d.i3,.int .u8 x.d.i4,.int .u8 x.d.i5,.int .u8 x.d.i6,.int .u8 x.d.i7]) (.agg #[]) (bP (idD x.d)) ?_ ?_ (rq HXO.out.d) (.agg []) [] unitElem_mk ?_);rfl;rfl;rfl;(unfold maxLen;omega);rfl;rfl;intro w2 hown2 hgrow2))
          have HR4:=wB (HR3.out.put2 hown2 hgrow2);rw [←HSN.out] at HR4;clear hown2 hgrow2;go_wp2_with fail
          go_roundw
          case rel=>exact wB ⟨k+1,by go_num,by omega,HA.out,HR4.out⟩
          case measure=>simp [intOf];omega
        · have HF:=wB (dL (vR (c:=c) (cW (wD.1 HX.out).1 (by rw [HEQ.out,HEE.out];exact decide_eq_false h0))))
          have e1:(E != 0)=true:=by simp [h0]
          have e2:(E==0)=false:=by simp [h0]
          clear h0;go_wp2_with fail
          go_ret
          exact ⟨by rw [HF.out];rfl,HR3.out.cr.below⟩
      · obtain rfl:v.kn=k:=by omega
        have HS3:=wB (show cV v.x.ds.length (ks v.x.ds)=true from bY (fun j hj=>HALL.out j (by rw [HIN.out.kl] at hj;exact hj)));have HSW:=wB (show (kL v.x).take v.kn=kL v.x from xl (by rw [kL,xu,HIN.out.kl];exact wC _));rw [HSW.out] at HR1;have hl1:=fun ty=>HR1.out.m1.len Tryz.underlying159 ty
        have hl2:=fun ty=>HR1.out.m2.len Tryz.underlying159 ty
        have HO1:=wB (oU (keysW HIN.out.ok) (n:=v.wn) (by rw [jC,xu,HIN.out.wl]));have HO2:=wB (oU (keysD HIN.out.ok) (n:=v.kn) (by rw [kL,xu,HIN.out.kl]));clear HALL hlt hk;generalize Maps.size (fE (jC v.x))=s1 at *;generalize Maps.size (fE (kL v.x))=s2 at *
        as_aux_lemma=>
         rcases HO1.out with ⟨q1,o1⟩ | ⟨q1,o1⟩
         · have e1:((s1:Int) != (v.wn:Int))=false:=by simp [q1]
           rcases HO2.out with ⟨q2,o2⟩ | ⟨q2,o2⟩
           · have HF:=wB (pS (vU HS1.out HS2.out HS3.out o1 o2))
             have e2:((s2:Int) != (v.kn:Int))=false:=by simp [q2]
             clear q1 q2;go_wp2_with fail
             go_ret
             exact ⟨by rw [HF.out];rfl,HR1.out.cr.below⟩
           · have HF:=wB (dL (vT (c:=c) o2))
             have e2:((s2:Int) != (v.kn:Int))=true:=by simp;omega
             clear q1 q2;go_wp2_with fail
             go_ret
             exact ⟨by rw [HF.out];rfl,HR1.out.cr.below⟩
         · have HF:=wB (dL (vS (c:=c) o1))
           have e1:((s1:Int) != (v.wn:Int))=true:=by simp;omega
           clear q1;go_wp2_with fail
           all_goals
            go_ret
            exact ⟨by rw [HF.out];rfl,HR1.out.cr.below⟩
end Go.Proofs.YtcaicgipibcicaaGreat
