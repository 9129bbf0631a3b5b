/- What could have waited: the auditor's look. -/
import Derived.Test.YtcaicgipibcicaaGreatQAuMap
import Derived.StillTailTactics
set_option maxRecDepth 100000
set_option maxHeartbeats 8000000
set_option linter.unusedSimpArgs false
set_option linter.unusedVariables false
open Go renaming heap_alloc_new→wF
open Go.Lib renaming hid→wB
open Go.RowKit.Below renaming refl→wI
open List renaming setIfInBounds_toArray→wU
open Nat renaming le_refl→wC,zero_add→wL
namespace Go.Proofs.YtcaicgipibcicaaGreat
open Go.RowKit Go.Sort
theorem kV {a:PAu} {x:aa} {t:Int} (h:t≤x.since):dn a x t=false:=by simp [dn,h]
theorem mv {a:PAu} {x:aa} {t:Int} (h:¬ t≤x.since) (hl:bm a.m (idR x.r)=none):dn a x t=decide (a.tick≤x.since):=by simp [dn,h,hl]
theorem mw {a:PAu} {x:aa} {t:Int} {s:aN} (h:¬ t≤x.since) (hl:bm a.m (idR x.r)=some s):dn a x t=(s.left && decide (s.tick=a.tick) && bqW s.w x):=by simp [dn,h,hl]
theorem nb {x:aB} (hx:x.Ok):keyOf Tryz.prog 72 (.agg #[.int .u8 x.i0,.int .u8 x.i1,.int .u8 x.i2,.int .u8 x.i3,.int .u8 x.i4,.int .u8 x.i5,.int .u8 x.i6,.int .u8 x.i7])=some (bP (idR x)):=lI hx.id.1 hx.id.2.1 hx.id.2.2.1 hx.id.2.2.2.1 hx.id.2.2.2.2.1 hx.id.2.2.2.2.2.1 hx.id.2.2.2.2.2.2.1 hx.id.2.2.2.2.2.2.2
theorem kW {x:aB} (hx:x.Ok):nV (idR x):=⟨_,nb hx⟩
def nc (a:PAu) (id:List Int):Array Value:=match bm a.m id with | none=>fu.V | some s=>s.V
theorem rO {a:PAu} {A M n:Nat} {w:World} (h:iw a A M n w) {x:aB} (hx:x.Ok) :
 (Instr.lookup 54 (.map (some M)) (.agg #[.int .u8 x.i0,.int .u8 x.i1,.int .u8 x.i2,.int .u8 x.i3,.int .u8 x.i4,.int .u8 x.i5,.int .u8 x.i6,.int .u8 x.i7]) true).run Tryz.prog w = .ok (.tuple #[.agg (nc a (idR x)),.bool (bm a.m (idR x)).isSome]) w:=by
 obtain ⟨v,ps,hr,hv⟩:=h.own.look_ok gV Tryz.underlying54 (pV w) (zd:=.held (.agg fu.V)) (zp:=[]) rfl (nb hx);obtain ⟨h1,h2⟩:=pW h.keys (kW hx) (.agg fu.V);rw [h1] at hv;rw [h2] at hr;simp only [gO,Option.some.injEq,Prod.mk.injEq,DataW.held.injEq] at hv;obtain ⟨rfl,_⟩:=hv;unfold nc;cases hl:bm a.m (idR x) with
 | none=>rw [hl] at hr;exact hr
 | some s=>rw [hl] at hr;exact hr
theorem rP (w:World) (a:PAu) (A M n:Nat) (x:aa) (V:Array Value) (hV:x.cells.toArray=V) (t:Int) (h:iw a A M n w) (hx:x.Ok) :
 Calls Tryz.prog 63 #[.pointer (some ⟨A,0,none⟩),.agg V,.int .i64 t] w fun e w'=>e = .returned (.bool (dn a x t))∧Below w.heap.size w w':=by
 have HX:=wB hx;have HV:=wB hV;have HB:=wB ((wI w.heap.size w).alloc (wC _) (.cells V 79));have HA:=wB (h.keep HB.out);have hh:=wF w (.cells V 79);have HC:=wB (bf hh 18 (show x.cells=V.toList.take 18 by rw [←hV];rfl));have HC16:=wB (bf hh 16 (show x.r.cells=V.toList.take 16 by rw [←hV];rfl));have b16:(w.alloc (.cells V 79)).cell? ⟨w.heap.size,16,none⟩=some (.int .i64 x.since):=by have:=HC.out 16 _ rfl;rwa [wL] at this
 have b0:(w.alloc (.cells V 79)).cell? ⟨w.heap.size,0,none⟩=some (.int .u8 x.r.i0):=by have:=HC.out 0 _ rfl;rwa [wL] at this
 have b1:(w.alloc (.cells V 79)).cell? ⟨w.heap.size,1,none⟩=some (.int .u8 x.r.i1):=by have:=HC.out 1 _ rfl;rwa [wL] at this
 have b2:(w.alloc (.cells V 79)).cell? ⟨w.heap.size,2,none⟩=some (.int .u8 x.r.i2):=by have:=HC.out 2 _ rfl;rwa [wL] at this
 have b3:(w.alloc (.cells V 79)).cell? ⟨w.heap.size,3,none⟩=some (.int .u8 x.r.i3):=by have:=HC.out 3 _ rfl;rwa [wL] at this
 have b4:(w.alloc (.cells V 79)).cell? ⟨w.heap.size,4,none⟩=some (.int .u8 x.r.i4):=by have:=HC.out 4 _ rfl;rwa [wL] at this
 have b5:(w.alloc (.cells V 79)).cell? ⟨w.heap.size,5,none⟩=some (.int .u8 x.r.i5):=by have:=HC.out 5 _ rfl;rwa [wL] at this
 have b6:(w.alloc (.cells V 79)).cell? ⟨w.heap.size,6,none⟩=some (.int .u8 x.r.i6):=by have:=HC.out 6 _ rfl;rwa [wL] at this
 have b7:(w.alloc (.cells V 79)).cell? ⟨w.heap.size,7,none⟩=some (.int .u8 x.r.i7):=by have:=HC.out 7 _ rfl;rwa [wL] at this
 have HS:=wB (show (w.alloc (.cells V 79)).heap.size=w.heap.size+1 by simp);clear h hx hV hh;by_cases h1:t≤x.since
 · have HF:=wB (kV (a:=a) h1)
   have c1:decide (t≤x.since)=true:=decide_eq_true h1;clear h1;go_enter Tryz.func63,Tryz.ntmps63
   go_wp2_with fail
   go_ret
   exact ⟨by rw [HF.out];rfl,HB.out⟩
 · have c1:decide (t≤x.since)=false:=decide_eq_false h1
   have H1:=wB (show ¬ t≤x.since from h1);clear h1;obtain ⟨a0,a1,a2,a3,a4,a5,a6⟩:=jr HA.out.box;obtain ⟨e,he⟩:∃ e,e=(bm a.m (idR x.r)).isSome:=⟨_,rfl⟩;obtain ⟨SV,hSV⟩:∃ SV,SV=nc a (idR x.r):=⟨_,rfl⟩;obtain ⟨s,hs,hsl⟩:∃ s:aN,SV=s.V∧s=(bm a.m (idR x.r)).getD fu:=⟨_,by rw [hSV];unfold nc;cases bm a.m (idR x.r) <;> rfl,rfl⟩;have HE:=wB he;have HSL:=wB hsl;have HSV:=wB (show s.cells.toArray=SV from hs.symm);have HSZ:=wB (show (Tryz.prog.info? 117).map (·.size)=some SV.size by rw [hs];exact tB)
   have HSN:=wB (show SV.size=20 by rw [hs];rfl);generalize hW:w.alloc (.cells V 79)=W at *
   have HK:=wB (fun (w':World) (hb:Below W.heap.size W w')=>show w'.cell? ⟨A,6,none⟩=some (.map (some M))∧w'.cell? ⟨w.heap.size,0,none⟩=some (.int .u8 x.r.i0)∧w'.cell? ⟨w.heap.size,1,none⟩=some (.int .u8 x.r.i1)∧w'.cell? ⟨w.heap.size,2,none⟩=some (.int .u8 x.r.i2)∧w'.cell? ⟨w.heap.size,3,none⟩=some (.int .u8 x.r.i3)∧w'.cell? ⟨w.heap.size,4,none⟩=some (.int .u8 x.r.i4)∧w'.cell? ⟨w.heap.size,5,none⟩=some (.int .u8 x.r.i5)∧w'.cell? ⟨w.heap.size,6,none⟩=some (.int .u8 x.r.i6)∧w'.cell? ⟨w.heap.size,7,none⟩=some (.int .u8 x.r.i7)∧(Instr.lookup 54 (.map (some M)) (.agg #[.int .u8 x.r.i0,.int .u8 x.r.i1,.int .u8 x.r.i2,.int .u8 x.r.i3,.int .u8 x.r.i4,.int .u8 x.r.i5,.int .u8 x.r.i6,.int .u8 x.r.i7]) true).run Tryz.prog w' = .ok (.tuple #[.agg SV,.bool e]) w' from
    have k:=Keep.of_below hb (wC _) (fun _=>False)
    ⟨k.cell a6 id,k.cell b0 id,k.cell b1 id,k.cell b2 id,k.cell b3 id,k.cell b4 id,k.cell b5 id,k.cell b6 id,k.cell b7 id,by rw [hSV,he];exact rO (HA.out.keep hb) HX.out.r⟩)
   have HD1:=wB (show Below W.heap.size W W.drew from (wI _ _).drew);have HD2:=wB (show Below W.heap.size W (W.alloc (.cells #[.int .u8 0,.int .u8 0,.int .u8 0,.int .u8 0,.int .u8 0,.int .u8 0,.int .u8 0,.int .u8 0,.int .i16 0,.int .i16 0,.int .i16 0,.int .i16 0,.int .u8 0,.int .u8 0,.int .i64 0,.int .i64 0,.int .i64 0,.int .i64 0,.int .i64 0,.bool false] 117)).drew from ((wI _ _).alloc (wC _) _).drew);have HD3:=wB (show Below W.heap.size W (W.alloc (.cells SV 117)).drew from ((wI _ _).alloc (wC _) _).drew)
   have hst:(storeCells ⟨W.heap.size,0,none⟩ SV.toList 0).run Tryz.prog (W.alloc (.cells #[.int .u8 0,.int .u8 0,.int .u8 0,.int .u8 0,.int .u8 0,.int .u8 0,.int .u8 0,.int .u8 0,.int .i16 0,.int .i16 0,.int .i16 0,.int .i16 0,.int .u8 0,.int .u8 0,.int .i64 0,.int .i64 0,.int .i64 0,.int .i64 0,.int .i64 0,.bool false] 117)).drew = .ok () (W.alloc (.cells SV 117)).drew:=
    run_storeCells_new (P:=Tryz.prog) W.drew 117 #[.int .u8 0,.int .u8 0,.int .u8 0,.int .u8 0,.int .u8 0,.int .u8 0,.int .u8 0,.int .u8 0,.int .i16 0,.int .i16 0,.int .i16 0,.int .i16 0,.int .u8 0,.int .u8 0,.int .i64 0,.int .i64 0,.int .i64 0,.int .i64 0,.int .i64 0,.bool false] SV HSZ.out HSN.out.symm (by rw [←HSV.out];exact all_oneCell_toArray s.cells_one)
   have hh2:=wF W (.cells SV 117);have HQC:=wB (fun (j:Nat) (u:Value) (hu:s.cells[j]?=some u)=>show (W.alloc (.cells SV 117)).drew.cell? ⟨W.heap.size,0+j,none⟩=some u from bf hh2 20 (show s.cells=SV.toList.take 20 by rw [hs];rfl) j u hu);have HQB:=wB (show Below w.heap.size w (W.alloc (.cells SV 117)).drew from HB.out.trans ((HD3.out).mono HB.out.size));have HQK:=wB (Keep.of_below HD3.out (wC _) (fun _=>False));have HQ16:=wB (HQK.out.cell b16 id);have HQ5:=wB (HQK.out.cell a5 id);have HQX:=wB (fun (j:Nat) (u:Value) (hu:x.cells[j]?=some u)=>HQK.out.cell (HC.out j u hu) id);obtain ⟨SW,hSW⟩:∃ SW,SW=s.w.cells.toArray:=⟨_,rfl⟩;have heq:∀ w,(Op.equalIn 10000 79 (.agg SW) (.agg V)).run Tryz.prog w = .ok (bqW s.w x) w:=fun w=>by rw [hSW,←HV.out];exact bqW_eq s.w x w
   have HSW:=wB hSW.symm;clear he hSV hs hsl hh2 hSW;go_enter Tryz.func63,Tryz.ntmps63
   go_wp2_with fail
   go_region_held3 (fun w'=>w'.cell? ⟨A,6,none⟩=some (.map (some M))∧w'.cell? ⟨w.heap.size,0,none⟩=some (.int .u8 x.r.i0)∧w'.cell? ⟨w.heap.size,1,none⟩=some (.int .u8 x.r.i1)∧w'.cell? ⟨w.heap.size,2,none⟩=some (.int .u8 x.r.i2)∧w'.cell? ⟨w.heap.size,3,none⟩=some (.int .u8 x.r.i3)∧w'.cell? ⟨w.heap.size,4,none⟩=some (.int .u8 x.r.i4)∧w'.cell? ⟨w.heap.size,5,none⟩=some (.int .u8 x.r.i5)∧w'.cell? ⟨w.heap.size,6,none⟩=some (.int .u8 x.r.i6)∧w'.cell? ⟨w.heap.size,7,none⟩=some (.int .u8 x.r.i7)∧(Instr.lookup 54 (.map (some M)) (.agg #[.int .u8 x.r.i0,.int .u8 x.r.i1,.int .u8 x.r.i2,.int .u8 x.r.i3,.int .u8 x.r.i4,.int .u8 x.r.i5,.int .u8 x.r.i6,.int .u8 x.r.i7]) true).run Tryz.prog w' = .ok (.tuple #[.agg SV,.bool e]) w')
    (first | with_reducible exact HK.out _ HD1.out | with_reducible exact HK.out _ HD2.out | with_reducible exact HK.out _ HD3.out)
    (fail)
   all_goals
    clear hst;generalize (W.alloc (.cells SV 117)).drew=W2 at *;generalize W.heap.size=H2 at *;clear hW;have d16:=HQ16.out;have d5:=HQ5.out;clear b0 b1 b2 b3 b4 b5 b6 b7 b16 a0 a1 a2 a3 a4 a5 a6;cases e with
    | false=>
      have HF:=wB (mv (Int.not_le.2 H1.out) (Option.isSome_eq_false_iff.1 HE.out.symm |> Option.isNone_iff_eq_none.1));go_wp2_with fail
      go_quiet (fail)
      go_wp2_with fail
      go_ret
      exact ⟨by rw [HF.out];rfl,below_drewN HQB.out _⟩
    | true=>
      have HLK:=wB (show bm a.m (idR x.r)=some s by
       have h1:=HE.out;have h2:=HSL.out;cases hlq:bm a.m (idR x.r) with
       | none=>rw [hlq] at h1;cases h1
       | some s'=>rw [hlq] at h2;rw [h2];rfl)
      have dl:W2.cell? ⟨H2,19,none⟩=some (.bool s.left):=by have:=HQC.out 19 _ rfl;rwa [wL] at this
      have dt:W2.cell? ⟨H2,18,none⟩=some (.int .i64 s.tick):=by have:=HQC.out 18 _ rfl;rwa [wL] at this
      have HQW:=wB (fun (j:Nat) (u:Value) (hu:s.w.cells[j]?=some u)=>HQC.out j u (by unfold aN.cells;rw [List.getElem?_append_left (List.getElem?_eq_some_iff.1 hu).1];exact hu));have HF:=wB (mw (Int.not_le.2 H1.out) HLK.out);have HTF:=wB (show (s.tick==a.tick)=decide (s.tick=a.tick) by by_cases h:s.tick=a.tick <;> simp [h]);rw [←HTF.out] at HF;go_wp2_with fail
      cases hl:s.left with
      | false=>
        rw [hl] at dl;have HF2:=wB (show dn a x t=false by rw [HF.out,hl];rfl);clear hl heq;go_quiet (fail)
        go_wp2_with fail
        go_ret
        exact ⟨by rw [HF2.out];rfl,below_drewN HQB.out _⟩
      | true=>
        rw [hl] at dl;cases ht:(s.tick==a.tick) with
        | false=>
          have HF2:=wB (show dn a x t=false by rw [HF.out,hl,ht];rfl);clear hl heq;go_quiet (fail)
          go_wp2_with fail
          go_ret
          exact ⟨by rw [HF2.out];rfl,below_drewN HQB.out _⟩
        | true=>
          have HF2:=wB (show dn a x t=bqW s.w x by rw [HF.out,hl,ht];rfl);clear hl;generalize bqW s.w x=bq at *;refine wp_region_quiet_lit (by kernel_rfl) (by kernel_rfl) ?_
          iterate 13 (go_big_quiet_step (fail))
          go_big_quiet_want
          with_reducible refine me (o:=⟨some 38,_,_,_,_,_⟩) 79 (.tmp 37) ?_ H2 0 ?_ s.w.cells SW HSW.out _ HQW.out Tryz.underlying79 ?_ ?_ ?_
          · rfl
          · rfl
          · rfl
          · exact bd
          go_big_quiet_on
          simp only [Act.put,wU,List.set_cons_zero,List.set_cons_succ];go_big_quiet_want
          with_reducible refine me (o:=⟨some 39,_,_,_,_,_⟩) 79 (.tmp 4) ?_ w.heap.size 0 ?_ x.cells V HV.out _ HQX.out Tryz.underlying79 ?_ ?_ ?_
          · rfl
          · rfl
          · rfl
          · exact bd
          go_big_quiet_on
          simp only [Act.put,wU,List.set_cons_zero,List.set_cons_succ]
          iterate 3 (go_big_quiet_step (fail))
          refine wpQuiet_nil ?_;rintro _ ⟨nq,rfl⟩;go_wp2_with fail
          go_ret
          exact ⟨by rw [HF2.out];rfl,below_drewN HQB.out _⟩
def vz (w:World) (c:ag) (e:Ending) (w':World):Prop:=
 (aG c=false∧e = .returned (.tuple #[.pointer none,.int .i64 160])∧Below w.heap.size w w')∨
 (aG c=true∧∃ A M,e = .returned (.tuple #[.pointer (some ⟨A,0,none⟩),.int .i64 0])∧Below w.heap.size w w'∧iw ⟨c,0,[]⟩ A M 0 w'∧w.heap.size≤A∧w.heap.size≤M∧A≠M)
theorem my (w:World) (c:ag):Calls Tryz.prog 18 #[.agg #[.int .i64 c.q,.int .i64 c.d,.int .i64 c.w,.int .i64 c.ttl,.int .i64 c.b]] w (vz w c):=by
 have HB:=wB ((wI w.heap.size w).alloc (wC _) (.cells #[.int .i64 c.q,.int .i64 c.d,.int .i64 c.w,.int .i64 c.ttl,.int .i64 c.b] 23));have hh:=wF w (.cells #[.int .i64 c.q,.int .i64 c.d,.int .i64 c.w,.int .i64 c.ttl,.int .i64 c.b] 23);have HH:=wB hh;clear hh;have hmm:=@run_makeMap Tryz.prog;have HE0:=wB (iK c);go_enter Tryz.func18,Tryz.ntmps18
 go_wp2_with fail
 generalize w.alloc (.cells #[.int .i64 c.q,.int .i64 c.d,.int .i64 c.w,.int .i64 c.ttl,.int .i64 c.b] 23)=W at *;refine (dN W c).mono ?_;rintro e w2 ⟨rfl,hb2⟩;have HB2:=wB (Below.next HB.out hb2);have HH2:=wB ((Keep.of_below hb2 (wC _) (fun _=>False)).old HH.out id);clear hb2;rcases HE0.out with ⟨h0,hc⟩ | ⟨h0,hc⟩
 · have HC:=wB hc
   rw [h0];clear hc h0 HE0;obtain ⟨g0,g1,g2,g3,g4⟩:=aK HH2.out;go_wp2_with fail
   have HF:=wB (show iw ⟨c,0,[]⟩ (w2.heap.size+1) w2.heap.size 0 ((w2.alloc (.map #[] 0)).alloc (.cells #[.int .i64 c.q,.int .i64 c.d,.int .i64 c.w,.int .i64 c.ttl,.int .i64 c.b,.int .i64 0,.map (some w2.heap.size)] 56)) from by
    refine ⟨?_,?_,fun p hp=>by simp at hp⟩
    · have:=wF (w2.alloc (.map #[] 0)) (.cells #[.int .i64 c.q,.int .i64 c.d,.int .i64 c.w,.int .i64 c.ttl,.int .i64 c.b,.int .i64 0,.map (some w2.heap.size)] 56)
      rw [show (w2.alloc (.map #[] 0)).heap.size=w2.heap.size+1 by simp] at this;exact this
    · exact (World.ownsMap_made w2 Tryz.prog 72 gO).alloc _)
   have HFB:=wB ((HB2.out.alloc HB2.out.size (.map #[] 0)).alloc (by have:=HB2.out.size;simp;omega) (.cells #[.int .i64 c.q,.int .i64 c.d,.int .i64 c.w,.int .i64 c.ttl,.int .i64 c.b,.int .i64 0,.map (some w2.heap.size)] 56));have HSZ:=wB HB2.out.size;exact bodyPost_ret (v:=.tuple #[.pointer (some ⟨w2.heap.size+1,0,none⟩),.int .i64 0]) (by simp [results,Tryz.results18,go_sem]) rfl (.inr ⟨HC.out,w2.heap.size+1,w2.heap.size,rfl,HFB.out,HF.out,by have:=HSZ.out;omega,HSZ.out,by omega⟩)
 · have HC:=wB hc
   rw [h0];clear hc h0 HE0;go_wp2_with fail
   exact bodyPost_ret (v:=.tuple #[.pointer none,.int .i64 160]) (by simp [results,Tryz.results18,go_sem]) rfl (.inl ⟨HC.out,rfl,HB2.out⟩)
end Go.Proofs.YtcaicgipibcicaaGreat
