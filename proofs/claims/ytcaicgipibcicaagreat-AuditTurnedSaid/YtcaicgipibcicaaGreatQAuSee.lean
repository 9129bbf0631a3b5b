/- An auditor sees a record. -/
import Derived.Test.YtcaicgipibcicaaGreatQAuNew
set_option maxRecDepth 100000
set_option maxHeartbeats 16000000
set_option linter.unusedSimpArgs false
set_option linter.unusedVariables false
open Go renaming heap_alloc_new→wF
open Go.Lib renaming hid→wB
open Go.RowKit.Below renaming refl→wI
open List renaming getElem?_eq_getElem→wE,getElem?_eq_some_iff→wD,mem_cons→xg,mem_of_getElem?→wM,setIfInBounds_toArray→wU,take_of_length_le→xl,take_succ_eq_append_getElem→xp
open Nat renaming le_refl→wC,zero_add→wL
namespace Go.Proofs.YtcaicgipibcicaaGreat
open Go.RowKit Go.Sort
def iT (a:PAu) (x:aw) (k:Nat):Bool:=match x.ws[k]? with | none=>true | some y=>dn a y x.tick
def eH (a:PAu) (x:aw):Bool:=cV x.ws.length (iT a x)
theorem ix {a:PAu} {x:aw} {k:Nat} {y:aa} (h:x.ws[k]?=some y):iT a x k=dn a y x.tick:=by simp [iT,h]
theorem iy {c:ag} {x:aw} (hc:aG c=true) (h:aL c x=0):bh x=0:=by
 unfold aL at h;split at h
 · omega
 · split at h
   · omega
   · split at h
     · omega
     · rename_i h1
       exact Decidable.not_not.1 h1
theorem n8 {x:aw} (h:bh x=0):1≤x.tick∧x.tick≤1099511627776∧x.ws.length≤64∧x.ds.length≤64:=by
 obtain ⟨h1,_⟩:=bN h;exact of_decide_eq_true h1
def fv (t:Int) (ws:List aa) (m:List (List Int × aN)):List (List Int × aN):=ws.foldl (fun m y=>(idR y.r,⟨y,t,true⟩)::m) m
def ij (t:Int) (ws:List aa) (ps:List ai) (m:List (List Int × aN)):List (List Int × aN):=ps.foldl (fun m p=>match ws[p.r.toNat]? with | none=>m | some y=>(idR y.r,⟨y,t,false⟩)::m) m
def db (a:PAu) (x:aw):Int × PAu:=
 if aL a.c x≠0 then (aL a.c x,a) else if x.tick≠a.tick+a.c.w then (262,a) else if !eH a x then (261,a) else (0,⟨a.c,x.tick,ij x.tick x.ws x.ps (fv x.tick x.ws a.m)⟩)
theorem tF {a:PAu} {x:aw} (h:aL a.c x≠0):db a x=(aL a.c x,a):=by simp [db,h]
theorem qa {a:PAu} {x:aw} (h1:aL a.c x=0) (h:x.tick≠a.tick+a.c.w):db a x=(262,a):=by simp [db,h1,h]
theorem tG {a:PAu} {x:aw} (h1:aL a.c x=0) (h2:x.tick=a.tick+a.c.w) (h:eH a x=false):db a x=(261,a):=by simp [db,h1,h2,h]
theorem qb {a:PAu} {x:aw} (h1:aL a.c x=0) (h2:x.tick=a.tick+a.c.w) (h:eH a x=true):db a x=(0,⟨a.c,x.tick,ij x.tick x.ws x.ps (fv x.tick x.ws a.m)⟩):=by simp [db,h1,h2,h]
theorem RV.In.keepX {w w':World} {v:RV} {X:Nat→Prop} (h:v.In w) (hk:Keep X w w') (hx:∀ ao,ao=v.wo∨ao=v.ko∨ao=v.eo∨ao=v.po∨ao=v.yo∨ao=v.zo→∀ b o,ao=some ⟨b,o,none⟩→¬ X b):v.In w':=
 ⟨h.wl,h.wr.keep hk (hx _ (.inl rfl)),h.wb,h.kl,h.kr.keep hk (hx _ (.inr (.inl rfl))),h.kb,h.el,h.er.keep hk (hx _ (.inr (.inr (.inl rfl)))),h.eb,h.pl,h.pr.keep hk (hx _ (.inr (.inr (.inr (.inl rfl))))),h.pb,h.yl,h.yr.keep hk (hx _ (.inr (.inr (.inr (.inr (.inl rfl)))))),h.yb,h.zl,h.zr.keep hk (hx _ (.inr (.inr (.inr (.inr (.inr rfl)))))),h.zb,h.ok⟩
def jt (v:RV) (A M:Nat):Prop:=∀ (X:Nat→Prop) (w w':World),v.In w→Keep X w w'→(∀ k,X k→k=A∨k=M)→v.In w'
theorem jt.of {v:RV} {A M:Nat} (h:∀ ao,ao=v.wo∨ao=v.ko∨ao=v.eo∨ao=v.po∨ao=v.yo∨ao=v.zo→∀ b o,ao=some ⟨b,o,none⟩→¬ (b=A∨b=M)):jt v A M:=
 fun X w w' hi hk hx=>hi.keepX hk (fun ao ha b o hb hX=>h ao ha b o hb (hx _ hX))
structure ce (w:World) (a:PAu) (A M n:Nat) (v:RV) (H:Nat) (wr:World):Prop where
 rb:wr.heap[H]?=some (.cells #[.int .i64 v.x.tick,.slice v.wo v.wn v.wc,.slice v.ko v.kn v.kc,.int .i64 v.x.rows,.int .i64 v.x.cols,.slice v.eo v.en v.ec,.slice v.po v.pn v.pc,.slice v.yo v.yn v.yc,.slice v.zo v.zn v.zc] 34 (0,0))
 au:iw a A M n wr
 keep:Keep (fun k=>k=A∨k=M) w wr
theorem ce.next {w:World} {a:PAu} {A M n:Nat} {v:RV} {H:Nat} {wr w':World} (h:ce w a A M n v H wr) (hb:Below wr.heap.size wr w'):ce w a A M n v H w':=
 ⟨(Keep.of_below hb (wC _) (fun _=>False)).old h.rb id,h.au.keep hb,h.keep.trans (Keep.of_below hb (wC _) (fun _=>False)) (fun _ _ h=>h) (fun _ _ h=>h.elim)⟩
theorem ce.one {w:World} {a:PAu} {A M n:Nat} {v:RV} {H:Nat} {wr:World} (h:ce w a A M n v H wr) (o:Obj):ce w a A M n v H (wr.alloc o):=h.next ((wI _ _).alloc (wC _) _)
theorem ce.drewN {w:World} {a:PAu} {A M n:Nat} {v:RV} {H:Nat} {wr:World} (h:ce w a A M n v H wr) (k:Nat):ce w a A M n v H (wr.drewN k):=h.next (below_drewN (wI _ _) k)
theorem ce.drew {w:World} {a:PAu} {A M n:Nat} {v:RV} {H:Nat} {wr:World} (h:ce w a A M n v H wr):ce w a A M n v H wr.drew:=h.next (wI _ _).drew
theorem ce.begin {w:World} {a:PAu} {A M n:Nat} {v:RV} (h:iw a A M n w):ce w a A M n v w.heap.size (w.alloc (.cells #[.int .i64 v.x.tick,.slice v.wo v.wn v.wc,.slice v.ko v.kn v.kc,.int .i64 v.x.rows,.int .i64 v.x.cols,.slice v.eo v.en v.ec,.slice v.po v.pn v.pc,.slice v.yo v.yn v.yc,.slice v.zo v.zn v.zc] 34)):=
 ⟨wF w _,h.keep ((wI _ _).alloc (wC _) _),Keep.alloc _ _ _⟩
def vB (w:World) (a:PAu) (A M n:Nat) (x:aw) (e:Ending) (w':World):Prop:=
 e = .returned (.int .i64 (db a x).1)∧iw (db a x).2 A M (n+128) w'∧Keep (fun k=>k=A∨k=M) w w'
theorem rX {t:Int} {ws:List aa} {m:List (List Int × aN)} {j:Nat} {x:aa} (hx:ws[j]?=some x):fv t (ws.take (j+1)) m=(idR x.r,⟨x,t,true⟩)::fv t (ws.take j) m:=by
 have he:ws.take (j+1)=ws.take j++[x]:=by
  rw [xp (wD.1 hx).1,(wD.1 hx).2]
 unfold fv;rw [he,List.foldl_append];rfl
theorem rY {t:Int} {ws:List aa} {ps:List ai} {m:List (List Int × aN)} {j:Nat} {p:ai} {x:aa} (hp:ps[j]?=some p) (hx:ws[p.r.toNat]?=some x):ij t ws (ps.take (j+1)) m=(idR x.r,⟨x,t,false⟩)::ij t ws (ps.take j) m:=by
 have he:ps.take (j+1)=ps.take j++[p]:=by
  rw [xp (wD.1 hp).1,(wD.1 hp).2]
 unfold ij;rw [he,List.foldl_append];simp [hx]
theorem ce.ticked {w:World} {a:PAu} {A M n:Nat} {v:RV} {H:Nat} {wr:World} (h:ce w a A M n v H wr) (hH:A<H) (hAM:A≠M) (t:Int):ce w ⟨a.c,t,a.m⟩ A M n v H (wr.setCell ⟨A,5,none⟩ (.int .i64 t)):=by
 refine ⟨(aJ wr A 5 (.int .i64 t)).old h.rb (by omega),⟨ae h.au.box 5 (.int .i64 t),h.au.own.setCell (fun e=>hAM e.symm) _,h.au.keys⟩,h.keep.trans (aJ wr A 5 (.int .i64 t)) (fun _ _ h=>h) (fun _ _ h=>.inl h)⟩
theorem ce.put {w:World} {a:PAu} {A M n n':Nat} {v:RV} {H:Nat} {wr w':World} (h:ce w a A M n v H wr) (hH:M<H) (hAM:A≠M) {m:List (List Int × aN)} (hm:w'.ownsMap Tryz.prog 72 gO M n' (iR m)) (hk:∀ p ∈ m,nV p.1) (hg:wr.grownBy w' (some M)):ce w ⟨a.c,a.tick,m⟩ A M n' v H w':=by
 have k:=Keep.of_grown hg;refine ⟨k.old h.rb (fun e=>by cases e;omega),⟨k.old h.au.box (fun e=>by cases e;exact hAM rfl),hm,hk⟩,h.keep.trans k (fun _ _ h=>h) (fun _ _ e=>.inr (by cases e;rfl))⟩
theorem vC (x:aB):∀ u ∈ x.idc,u.oneCell'=true:=by
 intro u hu;simp only [aB.idc,xg,List.not_mem_nil,or_false] at hu;rcases hu with rfl | rfl | rfl | rfl | rfl | rfl | rfl | rfl <;> rfl
theorem nf (w:World) (a:PAu) (A M n:Nat) (v:RV) (h:iw a A M n w) (hin:v.In w) (hap:jt v A M) (hAM:A≠M) (hc:aG a.c=true) (ht:0≤a.tick∧a.tick≤1099511627776) (hn:n≤1000000000000) :
 Calls Tryz.prog 20 #[.pointer (some ⟨A,0,none⟩),.agg #[.int .i64 v.x.tick,.slice v.wo v.wn v.wc,.slice v.ko v.kn v.kc,.int .i64 v.x.rows,.int .i64 v.x.cols,.slice v.eo v.en v.ec,.slice v.po v.pn v.pc,.slice v.yo v.yn v.yc,.slice v.zo v.zn v.zc]] w (vB w a A M n v.x):=by
 have HS:=wB (ce.begin (v:=v) h);have HIN:=wB hin;have HAP:=wB hap;have HCF:=wB hc;have HA1:=wB (lt_of_block h.box);have HM1:=wB (show M<w.heap.size from by obtain ⟨es,clock,hb,r⟩:=h.own;exact lt_of_block hb);have HAM:=wB hAM;obtain ⟨ht1,ht2⟩:=ht
 have hcw:1≤a.c.w∧a.c.w≤1048576:=by
  unfold aG at hc;simp only [Bool.and_eq_true] at hc;exact of_decide_eq_true hc.1.1.2
 obtain ⟨hcw1,hcw2⟩:=hcw;clear h hin hap hc hAM;obtain ⟨a0,a1,a2,a3,a4,a5,a6⟩:=jr HS.out.au.box;go_enter Tryz.func20,Tryz.ntmps20
 have hme:∀ w,(binOp .eql 54 (.map (some M)) (.map none)).run Tryz.prog w = .ok (.bool false) w:=fun w=>run_eql_map_nil w _ _ _ (some M) Tryz.underlying54
 have HSZ:=wB (show (w.alloc (.cells #[.int .i64 v.x.tick,.slice v.wo v.wn v.wc,.slice v.ko v.kn v.kc,.int .i64 v.x.rows,.int .i64 v.x.cols,.slice v.eo v.en v.ec,.slice v.po v.pn v.pc,.slice v.yo v.yn v.yc,.slice v.zo v.zn v.zc] 34)).heap.size=w.heap.size+1 by simp);go_wp2_with fail
 generalize w.alloc (.cells #[.int .i64 v.x.tick,.slice v.wo v.wn v.wc,.slice v.ko v.kn v.kc,.int .i64 v.x.rows,.int .i64 v.x.cols,.slice v.eo v.en v.ec,.slice v.po v.pn v.pc,.slice v.yo v.yn v.yc,.slice v.zo v.zn v.zc] 34)=W at *;obtain ⟨H,hH⟩:∃ H,w.heap.size=H:=⟨_,rfl⟩;have HH:=wB hH;rw [hH] at HS HA1 HM1 ⊢;clear hH;obtain ⟨g0,g1,g2,g3,g4,g5,g6,g7,g8⟩:=cells9 HS.out.rb;go_still_tail 5,(by kernel_rfl)
 change wpList _ _ _ _ _ W.drew
 have HD:=wB HS.out.drew;go_wp2_with fail
 clear g0 g1 g2 g3 g4 g5 g6 g7 g8 a0 a1 a2 a3 a4 a5 a6;have HIND:=wB (HAP.out _ _ _ HIN.out HD.out.keep (fun _ h=>h));refine (cC W.drew a.c v HIND.out).mono ?_;rintro e w2 ⟨rfl,hb2⟩;have HR:=wB (HD.out.next hb2);clear hb2;by_cases h0:aL a.c v.x=0
 · have H0:=wB h0
   rw [h0];clear h0;obtain ⟨g0,g1,g2,g3,g4,g5,g6,g7,g8⟩:=cells9 HR.out.rb;obtain ⟨a0,a1,a2,a3,a4,a5,a6⟩:=jr HR.out.au.box;have HREC:=wB (iy HCF.out H0.out);have HTK:=wB (n8 HREC.out);have hwn:v.wn≤64:=by rw [←HIN.out.wl];exact HTK.out.2.2.1
   by_cases hq:v.x.tick=a.tick+a.c.w
   · have HQ:=wB hq
     have b1:(v.x.tick != a.tick+a.c.w)=false:=by simp [hq]
     clear hq;go_wp2_with fail
     go_quiet (fail)
     go_wp2_with fail
     have HR2:=wB (HR.out.drewN nq);have HIN2:=wB (HAP.out _ _ _ HIN.out HR2.out.keep (fun _ h=>h));clear g0 g1 g2 g3 g4 g5 g6 g7 g8 a0 a1 a2 a3 a4 a5 a6 b1;generalize w2.drewN nq=w3 at *;go_loopw [47] (fun i wr=>Hid (∃ j:Nat,i = .int .i64 j∧j≤v.wn∧(∀ q:Nat,q<j→iT a v.x q=true)∧ce w a A M n v H wr)) (fun i _=>v.wn - (intOf i).toNat)
     case atStart=>exact wB ⟨0,rfl,Nat.zero_le _,fun q h=>absurd h (Nat.not_lt_zero q),HR2.out⟩
     case round=>
      obtain ⟨j,rfl,hj,hall,hr⟩:=hrel.out;clear hrel;have HALL:=wB hall;have HRJ:=wB hr;clear hall hr;by_cases hlt:j<v.wn
      · obtain ⟨x,hx⟩:∃ x,v.x.ws[j]?=some x:=⟨v.x.ws[j]'(by rw [HIN2.out.wl];exact hlt),wE _⟩
        have HXO:=wB (HIN2.out.ok.ws x (wM hx));have HINJ:=wB (HAP.out _ _ _ HIN.out HRJ.out.keep (fun _ h=>h));have HWR:=wB HINJ.out.wr;generalize v.wo=wo at *;obtain ⟨b,o,rfl,_⟩:=HWR.out.place (by rw [cellsOf_length _ 18 aa.cells_length,HINJ.out.wl];omega);have HX:=wB hx;have HCE:=wB (fun (i:Nat) (u:Value) (hu:x.cells[i]?=some u)=>show wr.cell? ⟨b,o+j*18+i,none⟩=some u from bl aa.cells_length HWR.out hx i u hu);clear hx;obtain ⟨V,hV⟩:∃ V,V=x.cells.toArray:=⟨_,rfl⟩;have HV:=wB hV.symm;have HSZV:=wB (show (Tryz.prog.info? 79).map (·.size)=some V.size by rw [hV];exact bd)
        have HSN:=wB (show 18=V.size by rw [hV];rfl);have HH2:=wB (wF wr (.cells V 79));have HC:=wB (bf HH2.out 18 (show x.cells=V.toList.take 18 by rw [hV];rfl));have HRV:=wB (HRJ.out.one (.cells V 79));have g0:=(cells9 HRV.out.rb).1;clear hV;go_wp2_with (first | ((with_reducible refine ad (o:=⟨some 50,_,_,_,_,_⟩) ?_ 79 (.tmp 49) ?_ b (o+j*18) ?_ x.cells V HV.out _ HCE.out Tryz.underlying79 ?_ ?_ ?_);rfl;rfl;rfl;rfl;exact bd) | ((with_reducible refine aj (o:=⟨none,.store 79 (.tmp 7) (.tmp 50),_,_,_,_⟩) ?_ 79 (.tmp 7) (.tmp 50) ?_ _ V ?_ ?_ x.cells HV.out HSZV.out ?_ x.cells_one ?_);rfl;rfl;rfl;rfl;exact HSN.out) | ((with_reducible refine ad (o:=⟨some 52,_,_,_,_,_⟩) ?_ 79 (.tmp 7) ?_ wr.heap.size 0 ?_ x.cells V HV.out _ HC.out Tryz.underlying79 ?_ ?_ ?_);rfl;rfl;rfl;rfl;exact bd))
        refine (rP _ a A M n x V HV.out v.x.tick HRV.out.au HXO.out).mono ?_;rintro e w5 ⟨rfl,hb5⟩;have HR5:=wB (HRV.out.next hb5);clear hb5 g0;cases hcf:dn a x v.x.tick with
        | false=>
          have HF:=wB (tG H0.out HQ.out (cW (by rw [HINJ.out.wl];exact hlt) (by rw [ix HX.out];exact hcf)));clear hcf;go_wp2_with fail
          go_ret
          exact ⟨by rw [HF.out];rfl,by rw [HF.out];exact ⟨HR5.out.au.box,HR5.out.au.own.mono (by omega),HR5.out.au.keys⟩,HR5.out.keep⟩
        | true=>
          have HN:=wB (fun (q:Nat) (hq:q<j+1)=>show iT a v.x q=true from by
           rcases Nat.lt_succ_iff_lt_or_eq.1 hq with h | h
           · exact HALL.out q h
           · rw [h,ix HX.out];exact hcf)
          clear hcf;go_wp2_with fail
          go_roundw
          case rel=>exact wB ⟨j+1,by go_num,by omega,HN.out,HR5.out⟩
          case measure=>simp [intOf];omega
      · obtain rfl:v.wn=j:=by omega
        have HALLC:=wB (show eH a v.x=true from bY (fun q hq=>HALL.out q (by rw [HIN2.out.wl] at hq;exact hq)));have HF:=wB (qb H0.out HQ.out HALLC.out);have HRT:=wB (HRJ.out.ticked HA1.out HAM.out v.x.tick);obtain ⟨g0,g1,g2,g3,g4,g5,g6,g7,g8⟩:=cells9 HRJ.out.rb;obtain ⟨a0,a1,a2,a3,a4,a5,a6⟩:=jr HRJ.out.au.box;have af:=fun j=>frozen_of_row wr A j _ _ HRJ.out.au.box
        have hne:H≠A:=by have:=HA1.out;omega
        obtain ⟨k0,k1,k2,k3,k4,k5,k6,k7,k8⟩:=cells9 HRT.out.rb;clear HALL HALLC;go_wp2_with fail
        clear g0 g1 g2 g3 g4 g5 g6 g7 g8 a0 a1 a2 a3 a4 a5 a6 af hne k0 k1 k2 k3 k4 k5 k6 k7 k8;generalize wr.setCell ⟨A,5,none⟩ (.int .i64 v.x.tick)=w4 at *;go_loopw [66] (fun i wr=>Hid (∃ j:Nat,i = .int .i64 j∧j≤v.wn∧ce w ⟨a.c,v.x.tick,fv v.x.tick (v.x.ws.take j) a.m⟩ A M (n+j) v H wr)) (fun i _=>v.wn - (intOf i).toNat)
        case atStart=>exact wB ⟨0,rfl,Nat.zero_le _,HRT.out⟩
        case round=>
         obtain ⟨j,rfl,hj,hr⟩:=hrel.out;clear hrel;have HRJ:=wB hr;clear hr;by_cases hlt:j<v.wn
         · obtain ⟨x,hx⟩:∃ x,v.x.ws[j]?=some x:=⟨v.x.ws[j]'(by rw [HIN2.out.wl];exact hlt),wE _⟩
           have HXO:=wB (HIN2.out.ok.ws x (wM hx));have HINJ:=wB (HAP.out _ _ _ HIN.out HRJ.out.keep (fun _ h=>h));have HWR:=wB HINJ.out.wr;generalize v.wo=wo at *;obtain ⟨b,o,rfl,_⟩:=HWR.out.place (by rw [cellsOf_length _ 18 aa.cells_length,HINJ.out.wl];omega);have HX:=wB hx;have HCE:=wB (fun (i:Nat) (u:Value) (hu:x.cells[i]?=some u)=>show wr.cell? ⟨b,o+j*18+i,none⟩=some u from bl aa.cells_length HWR.out hx i u hu);clear hx;have HH2:=wB (wF wr (.cells #[.int .u8 x.r.i0,.int .u8 x.r.i1,.int .u8 x.r.i2,.int .u8 x.r.i3,.int .u8 x.r.i4,.int .u8 x.r.i5,.int .u8 x.r.i6,.int .u8 x.r.i7,.int .i16 x.r.fx,.int .i16 x.r.fy,.int .i16 x.r.tx,.int .i16 x.r.ty,.int .u8 x.r.seats,.int .u8 x.r.classes,.int .i64 x.r.base,.int .i64 x.r.ttl,.int .i64 x.since,.int .i64 x.number] 79));have HC:=wB (bf HH2.out 18 (show x.cells=((#[.int .u8 x.r.i0,.int .u8 x.r.i1,.int .u8 x.r.i2,.int .u8 x.r.i3,.int .u8 x.r.i4,.int .u8 x.r.i5,.int .u8 x.r.i6,.int .u8 x.r.i7,.int .i16 x.r.fx,.int .i16 x.r.fy,.int .i16 x.r.tx,.int .i16 x.r.ty,.int .u8 x.r.seats,.int .u8 x.r.classes,.int .i64 x.r.base,.int .i64 x.r.ttl,.int .i64 x.since,.int .i64 x.number]:Array Value)).toList.take 18 from rfl));have HRV:=wB (HRJ.out.one (.cells #[.int .u8 x.r.i0,.int .u8 x.r.i1,.int .u8 x.r.i2,.int .u8 x.r.i3,.int .u8 x.r.i4,.int .u8 x.r.i5,.int .u8 x.r.i6,.int .u8 x.r.i7,.int .i16 x.r.fx,.int .i16 x.r.fy,.int .i16 x.r.tx,.int .i16 x.r.ty,.int .u8 x.r.seats,.int .u8 x.r.classes,.int .i64 x.r.base,.int .i64 x.r.ttl,.int .i64 x.since,.int .i64 x.number] 79));have HSZ2:=wB (show (wr.alloc (.cells #[.int .u8 x.r.i0,.int .u8 x.r.i1,.int .u8 x.r.i2,.int .u8 x.r.i3,.int .u8 x.r.i4,.int .u8 x.r.i5,.int .u8 x.r.i6,.int .u8 x.r.i7,.int .i16 x.r.fx,.int .i16 x.r.fy,.int .i16 x.r.tx,.int .i16 x.r.ty,.int .u8 x.r.seats,.int .u8 x.r.classes,.int .i64 x.r.base,.int .i64 x.r.ttl,.int .i64 x.since,.int .i64 x.number] 79)).heap.size=wr.heap.size+1 by simp);go_wp2_with (first | ((with_reducible refine ad (o:=⟨some 69,_,_,_,_,_⟩) ?_ 79 (.tmp 68) ?_ b (o+j*18) ?_ x.cells #[.int .u8 x.r.i0,.int .u8 x.r.i1,.int .u8 x.r.i2,.int .u8 x.r.i3,.int .u8 x.r.i4,.int .u8 x.r.i5,.int .u8 x.r.i6,.int .u8 x.r.i7,.int .i16 x.r.fx,.int .i16 x.r.fy,.int .i16 x.r.tx,.int .i16 x.r.ty,.int .u8 x.r.seats,.int .u8 x.r.classes,.int .i64 x.r.base,.int .i64 x.r.ttl,.int .i64 x.since,.int .i64 x.number] ?_ _ HCE.out Tryz.underlying79 ?_ ?_ ?_);rfl;rfl;rfl;rfl;rfl;exact bd) | ((with_reducible refine aj (o:=⟨none,.store 79 (.tmp 9) (.tmp 69),_,_,_,_⟩) ?_ 79 (.tmp 9) (.tmp 69) ?_ _ #[.int .u8 x.r.i0,.int .u8 x.r.i1,.int .u8 x.r.i2,.int .u8 x.r.i3,.int .u8 x.r.i4,.int .u8 x.r.i5,.int .u8 x.r.i6,.int .u8 x.r.i7,.int .i16 x.r.fx,.int .i16 x.r.fy,.int .i16 x.r.tx,.int .i16 x.r.ty,.int .u8 x.r.seats,.int .u8 x.r.classes,.int .i64 x.r.base,.int .i64 x.r.ttl,.int .i64 x.since,.int .i64 x.number] ?_ ?_ x.cells ?_ ?_ ?_ x.cells_one ?_);rfl;rfl;rfl;rfl;rfl;exact bd;rfl))
           generalize wr.alloc (.cells #[.int .u8 x.r.i0,.int .u8 x.r.i1,.int .u8 x.r.i2,.int .u8 x.r.i3,.int .u8 x.r.i4,.int .u8 x.r.i5,.int .u8 x.r.i6,.int .u8 x.r.i7,.int .i16 x.r.fx,.int .i16 x.r.fy,.int .i16 x.r.tx,.int .i16 x.r.ty,.int .u8 x.r.seats,.int .u8 x.r.classes,.int .i64 x.r.base,.int .i64 x.r.ttl,.int .i64 x.since,.int .i64 x.number] 79)=W5 at *;generalize wr.heap.size=H9 at *;obtain ⟨k0,k1,k2,k3,k4,k5,k6,k7,k8⟩:=cells9 HRV.out.rb;obtain ⟨a0,a1,a2,a3,a4,a5,a6⟩:=jr HRV.out.au.box;have b0:W5.cell? ⟨H9,0,none⟩=some (.int .u8 x.r.i0):=by have:=HC.out 0 _ rfl;rwa [wL] at this
           have b1:W5.cell? ⟨H9,1,none⟩=some (.int .u8 x.r.i1):=by have:=HC.out 1 _ rfl;rwa [wL] at this
           have b2:W5.cell? ⟨H9,2,none⟩=some (.int .u8 x.r.i2):=by have:=HC.out 2 _ rfl;rwa [wL] at this
           have b3:W5.cell? ⟨H9,3,none⟩=some (.int .u8 x.r.i3):=by have:=HC.out 3 _ rfl;rwa [wL] at this
           have b4:W5.cell? ⟨H9,4,none⟩=some (.int .u8 x.r.i4):=by have:=HC.out 4 _ rfl;rwa [wL] at this
           have b5:W5.cell? ⟨H9,5,none⟩=some (.int .u8 x.r.i5):=by have:=HC.out 5 _ rfl;rwa [wL] at this
           have b6:W5.cell? ⟨H9,6,none⟩=some (.int .u8 x.r.i6):=by have:=HC.out 6 _ rfl;rwa [wL] at this
           have b7:W5.cell? ⟨H9,7,none⟩=some (.int .u8 x.r.i7):=by have:=HC.out 7 _ rfl;rwa [wL] at this
           clear k1 k2 k3 k4 k5 k6 k7 k8 a0 a1 a2 a3 a4 a5;refine wp_region_still_tail 11 (by kernel_rfl) (by kernel_rfl) ?_;simp only [List.take_succ_cons,List.take_zero,List.drop_succ_cons,List.drop_zero]
           iterate 7 still_step
           refine iQ (o:=⟨some 77,_,_,_,_,_⟩) ?_ 79 (.tmp 9) ?_ H9 0 ?_ x.cells #[.int .u8 x.r.i0,.int .u8 x.r.i1,.int .u8 x.r.i2,.int .u8 x.r.i3,.int .u8 x.r.i4,.int .u8 x.r.i5,.int .u8 x.r.i6,.int .u8 x.r.i7,.int .i16 x.r.fx,.int .i16 x.r.fy,.int .i16 x.r.tx,.int .i16 x.r.ty,.int .u8 x.r.seats,.int .u8 x.r.classes,.int .i64 x.r.base,.int .i64 x.r.ttl,.int .i64 x.since,.int .i64 x.number] ?_ _ HC.out Tryz.underlying79 ?_ ?_ ?_
           · rfl
           · rfl
           · rfl
           · rfl
           · rfl
           · exact bd
           simp only [Act.put,wU,List.set_cons_zero,List.set_cons_succ]
           iterate 3 still_step
           refine wpStill_nil ?_
           change wpList _ _ _ _ _ W5.drew
           have HRD:=wB HRV.out.drew;clear k0 a6 b0 b1 b2 b3 b4 b5 b6 b7;go_wp2_with (first | ((with_reducible refine wpList_mapUpdate_own _ (o:=⟨none,.mapUpdate 54 (.tmp 73) (.tmp 76) (.tmp 80),_,_,_,_⟩) ?_ (.tmp 73) (.tmp 76) (.tmp 80) 54 ?_ 72 117 gV Tryz.underlying54 gO M (n+j) (iR (fv v.x.tick (v.x.ws.take j) a.m)) ?_ HRD.out.au.own ?_ (.agg #[.int .u8 x.r.i0,.int .u8 x.r.i1,.int .u8 x.r.i2,.int .u8 x.r.i3,.int .u8 x.r.i4,.int .u8 x.r.i5,.int .u8 x.r.i6,.int .u8 x.r.i7]) (.agg #[.int .u8 x.r.i0,.int .u8 x.r.i1,.int .u8 x.r.i2,.int .u8 x.r.i3,.int .u8 x.r.i4,.int .u8 x.r.i5,.int .u8 x.r.i6,.int .u8 x.r.i7,.int .i16 x.r.fx,.int .i16 x.r.fy,.int .i16 x.r.tx,.int .i16 x.r.ty,.int .u8 x.r.seats,.int .u8 x.r.classes,.int .i64 x.r.base,.int .i64 x.r.ttl,.int .i64 x.since,.int .i64 x.number,.int .i64 v.x.tick,.bool true]) (bP (idR x.r)) ?_ ?_ (nb HXO.out.r) (.held (.agg (aN.V ⟨x,v.x.tick,true⟩))) [] ?_ ?_);rfl;rfl;rfl;(unfold maxLen;omega);rfl;rfl;rfl;intro w2 hown2 hgrow2))
           have HN:=wB (HRD.out.put (m:=(idR x.r,⟨x,v.x.tick,true⟩)::fv v.x.tick (v.x.ws.take j) a.m) HM1.out HAM.out hown2 (fun p hp=>by
            rcases xg.1 hp with h | h
            · rw [h];exact kW HXO.out.r
            · exact HRD.out.au.keys p h) hgrow2)
           rw [←rX HX.out] at HN;exact ⟨wB ⟨j+1,by go_num,by omega,HN.out⟩,by simp [intOf];omega⟩
         · obtain rfl:v.wn=j:=by omega
           have HTW:=wB (show v.x.ws.take v.wn=v.x.ws from xl (by rw [HIN.out.wl];exact wC _));rw [HTW.out] at HRJ;obtain ⟨k0,k1,k2,k3,k4,k5,k6,k7,k8⟩:=cells9 HRJ.out.rb;go_wp2_with fail
           clear k0 k1 k2 k3 k4 k5 k6 k7 k8;have HSH:=wB (gz HREC.out);have HMT:=wB ((bN HREC.out).2.2.2.2.1)
           have HNN:=wB (show n+v.wn+v.pn≤n+128 from by
            have:=mI HSH.out.1 HMT.out;rw [HIN.out.pl] at this;omega)
           have hpn:v.pn≤64:=by have:=mI HSH.out.1 HMT.out;rwa [HIN.out.pl] at this
           go_loopw [86] (fun i wr=>Hid (∃ j:Nat,i = .int .i64 j∧j≤v.pn∧ce w ⟨a.c,v.x.tick,ij v.x.tick v.x.ws (v.x.ps.take j) (fv v.x.tick v.x.ws a.m)⟩ A M (n+v.wn+j) v H wr)) (fun i _=>v.pn - (intOf i).toNat)
           case atStart=>exact wB ⟨0,rfl,Nat.zero_le _,HRJ.out⟩
           case round=>
            obtain ⟨j,rfl,hj,hr⟩:=hrel.out;clear hrel;have HRP:=wB hr;clear hr;by_cases hlt:j<v.pn
            · obtain ⟨p,hp⟩:∃ p,v.x.ps[j]?=some p:=⟨v.x.ps[j]'(by rw [HIN.out.pl];exact hlt),wE _⟩
              obtain ⟨pr,pc⟩:=p;have hpr:=iH HSH.out.1 HMT.out j _ hp;simp only at hpr;rw [HSH.out.2.1,HIN.out.wl] at hpr;obtain ⟨r,rfl⟩:∃ r:Nat,pr=r:=⟨pr.toNat,by omega⟩;have hrn:r<v.wn:=by omega
              clear hpr;obtain ⟨x,hx⟩:∃ x,v.x.ws[r]?=some x:=⟨v.x.ws[r]'(by rw [HIN.out.wl];exact hrn),wE _⟩;have HXO:=wB (HIN.out.ok.ws x (wM hx));have HINJ:=wB (HAP.out _ _ _ HIN.out HRP.out.keep (fun _ h=>h));have HWR:=wB HINJ.out.wr;have HPR:=wB HINJ.out.pr;have HNX:=wB (rY (t:=v.x.tick) (m:=fv v.x.tick v.x.ws a.m) hp (show v.x.ws[((⟨(r:Int),pc⟩:ai).r).toNat]?=some x from hx));generalize hwo:v.wo=wo at *;obtain ⟨b,o,rfl,_⟩:=HWR.out.place (by rw [cellsOf_length _ 18 aa.cells_length,HINJ.out.wl];omega);have HWO:=wB hwo;clear hwo;generalize v.po=po at *;obtain ⟨b2,o2,rfl,_⟩:=HPR.out.place (by rw [cellsOf_length _ 2 ai.cells_length,HINJ.out.pl];omega);have HPE:=wB (fun (i:Nat) (u:Value) (hu:(ai.cells ⟨(r:Int),pc⟩)[i]?=some u)=>show wr.cell? ⟨b2,o2+j*2+i,none⟩=some u from bl ai.cells_length HPR.out hp i u hu);have HCE:=wB (fun (w':World) (hb:Below wr.heap.size wr w') (i:Nat) (u:Value) (hu:x.cells[i]?=some u)=>show w'.cell? ⟨b,o+r*18+i,none⟩=some u from (Keep.of_below hb (wC _) (fun _=>False)).cell (bl aa.cells_length HWR.out hx i u hu) id);clear hx hp;have HRV:=wB (HRP.out.one (.cells #[.int .i64 r,.int .i64 pc] 69));have HW5:=wB (show Below wr.heap.size wr (wr.alloc (.cells #[.int .i64 r,.int .i64 pc] 69)) from (wI _ _).alloc (wC _) _);have HW6:=wB (show Below wr.heap.size wr ((wr.alloc (.cells #[.int .i64 r,.int .i64 pc] 69)).alloc (.cells #[.int .u8 x.r.i0,.int .u8 x.r.i1,.int .u8 x.r.i2,.int .u8 x.r.i3,.int .u8 x.r.i4,.int .u8 x.r.i5,.int .u8 x.r.i6,.int .u8 x.r.i7] 72)) from HW5.out.alloc HW5.out.size _);have HRI:=wB (HRV.out.one (.cells #[.int .u8 x.r.i0,.int .u8 x.r.i1,.int .u8 x.r.i2,.int .u8 x.r.i3,.int .u8 x.r.i4,.int .u8 x.r.i5,.int .u8 x.r.i6,.int .u8 x.r.i7] 72));have HP0:=wB (show (wr.alloc (.cells #[.int .i64 r,.int .i64 pc] 69)).cell? ⟨wr.heap.size,0,none⟩=some (.int .i64 r) by rw [cell_of_row _ _ _ _ _ (0,0) (wF wr _)];rfl);have HS5:=wB (show (wr.alloc (.cells #[.int .i64 r,.int .i64 pc] 69)).heap.size=wr.heap.size+1 by simp)
              have HIC:=wB (show ∀ (j:Nat) (u:Value),x.r.idc[j]?=some u→((wr.alloc (.cells #[.int .i64 r,.int .i64 pc] 69)).alloc (.cells #[.int .u8 x.r.i0,.int .u8 x.r.i1,.int .u8 x.r.i2,.int .u8 x.r.i3,.int .u8 x.r.i4,.int .u8 x.r.i5,.int .u8 x.r.i6,.int .u8 x.r.i7] 72)).cell? ⟨wr.heap.size+1,0+j,none⟩=some u from by
               have:=bf (wF (wr.alloc (.cells #[.int .i64 r,.int .i64 pc] 69)) (.cells #[.int .u8 x.r.i0,.int .u8 x.r.i1,.int .u8 x.r.i2,.int .u8 x.r.i3,.int .u8 x.r.i4,.int .u8 x.r.i5,.int .u8 x.r.i6,.int .u8 x.r.i7] 72)) 8 (show x.r.idc=(#[.int .u8 x.r.i0,.int .u8 x.r.i1,.int .u8 x.r.i2,.int .u8 x.r.i3,.int .u8 x.r.i4,.int .u8 x.r.i5,.int .u8 x.r.i6,.int .u8 x.r.i7]:Array Value).toList.take 8 from rfl);rw [HS5.out] at this;exact this)
              have HID:=wB (fun (i:Nat) (u:Value) (hu:x.r.idc[i]?=some u)=>show (wr.alloc (.cells #[.int .i64 r,.int .i64 pc] 69)).cell? ⟨b,o+r*18+i,none⟩=some u from HCE.out _ HW5.out i u (by
               have hi:i<8:=(wD.1 hu).1;rw [←hu,show x.r.idc=x.cells.take 8 from rfl,List.getElem?_take,if_pos hi]))
              have q0:=HP0.out;have q1:=(cells9 HRV.out.rb).2.1;rw [HWO.out] at q1;have qr0:(0:Int)≤(r:Int):=by omega
              have qr1:(r:Int)<(v.wn:Int):=by omega
              go_wp2_with (first | ((with_reducible refine ad (o:=⟨some 89,_,_,_,_,_⟩) ?_ 69 (.tmp 88) ?_ b2 (o2+j*2) ?_ (ai.cells ⟨(r:Int),pc⟩) #[.int .i64 r,.int .i64 pc] ?_ _ HPE.out Tryz.underlying69 ?_ ?_ ?_);rfl;rfl;rfl;rfl;rfl;exact ns) | ((with_reducible refine aj (o:=⟨none,.store 69 (.tmp 11) (.tmp 89),_,_,_,_⟩) ?_ 69 (.tmp 11) (.tmp 89) ?_ _ #[.int .i64 r,.int .i64 pc] ?_ ?_ (ai.cells ⟨(r:Int),pc⟩) ?_ ?_ ?_ (ai.cells_one _) ?_);rfl;rfl;rfl;rfl;rfl;exact ns;rfl) | ((with_reducible refine ad (o:=⟨some 97,_,_,_,_,_⟩) ?_ 72 (.tmp 96) ?_ b (o+r*18) ?_ x.r.idc #[.int .u8 x.r.i0,.int .u8 x.r.i1,.int .u8 x.r.i2,.int .u8 x.r.i3,.int .u8 x.r.i4,.int .u8 x.r.i5,.int .u8 x.r.i6,.int .u8 x.r.i7] ?_ _ HID.out Tryz.underlying72 ?_ ?_ ?_);rfl;rfl;rfl;rfl;rfl;exact kt) | ((with_reducible refine aj (o:=⟨none,.store 72 (.tmp 12) (.tmp 97),_,_,_,_⟩) ?_ 72 (.tmp 12) (.tmp 97) ?_ _ #[.int .u8 x.r.i0,.int .u8 x.r.i1,.int .u8 x.r.i2,.int .u8 x.r.i3,.int .u8 x.r.i4,.int .u8 x.r.i5,.int .u8 x.r.i6,.int .u8 x.r.i7] ?_ ?_ x.r.idc ?_ ?_ ?_ (vC _) ?_);rfl;rfl;rfl;rfl;rfl;exact kt;rfl))
              have HP6:=wB (show ((wr.alloc (.cells #[.int .i64 r,.int .i64 pc] 69)).alloc (.cells #[.int .u8 x.r.i0,.int .u8 x.r.i1,.int .u8 x.r.i2,.int .u8 x.r.i3,.int .u8 x.r.i4,.int .u8 x.r.i5,.int .u8 x.r.i6,.int .u8 x.r.i7] 72)).cell? ⟨wr.heap.size,0,none⟩=some (.int .i64 r) from (Keep.alloc (fun _=>False) _ _).cell q0 id);have HXC:=wB (HCE.out _ HW6.out);clear q0 q1;generalize (wr.alloc (.cells #[.int .i64 r,.int .i64 pc] 69)).alloc (.cells #[.int .u8 x.r.i0,.int .u8 x.r.i1,.int .u8 x.r.i2,.int .u8 x.r.i3,.int .u8 x.r.i4,.int .u8 x.r.i5,.int .u8 x.r.i6,.int .u8 x.r.i7] 72)=W6 at *;generalize wr.heap.size=H9 at *;have q0:=HP6.out;obtain ⟨k0,k1,k2,k3,k4,k5,k6,k7,k8⟩:=cells9 HRI.out.rb;rw [HWO.out] at k1;obtain ⟨a0,a1,a2,a3,a4,a5,a6⟩:=jr HRI.out.au.box;have b0:W6.cell? ⟨H9+1,0,none⟩=some (.int .u8 x.r.i0):=by have:=HIC.out 0 _ rfl;rwa [wL] at this
              have b1:W6.cell? ⟨H9+1,1,none⟩=some (.int .u8 x.r.i1):=by have:=HIC.out 1 _ rfl;rwa [wL] at this
              have b2:W6.cell? ⟨H9+1,2,none⟩=some (.int .u8 x.r.i2):=by have:=HIC.out 2 _ rfl;rwa [wL] at this
              have b3:W6.cell? ⟨H9+1,3,none⟩=some (.int .u8 x.r.i3):=by have:=HIC.out 3 _ rfl;rwa [wL] at this
              have b4:W6.cell? ⟨H9+1,4,none⟩=some (.int .u8 x.r.i4):=by have:=HIC.out 4 _ rfl;rwa [wL] at this
              have b5:W6.cell? ⟨H9+1,5,none⟩=some (.int .u8 x.r.i5):=by have:=HIC.out 5 _ rfl;rwa [wL] at this
              have b6:W6.cell? ⟨H9+1,6,none⟩=some (.int .u8 x.r.i6):=by have:=HIC.out 6 _ rfl;rwa [wL] at this
              have b7:W6.cell? ⟨H9+1,7,none⟩=some (.int .u8 x.r.i7):=by have:=HIC.out 7 _ rfl;rwa [wL] at this
              clear k2 k3 k4 k5 k6 k7 k8 a0 a1 a2 a3 a4 a5;refine wp_region_still_tail 14 (by kernel_rfl) (by kernel_rfl) ?_;simp only [List.take_succ_cons,List.take_zero,List.drop_succ_cons,List.drop_zero]
              iterate 10 still_step
              refine iQ (o:=⟨some 108,_,_,_,_,_⟩) ?_ 79 (.tmp 107) ?_ b (o+r*18) ?_ x.cells #[.int .u8 x.r.i0,.int .u8 x.r.i1,.int .u8 x.r.i2,.int .u8 x.r.i3,.int .u8 x.r.i4,.int .u8 x.r.i5,.int .u8 x.r.i6,.int .u8 x.r.i7,.int .i16 x.r.fx,.int .i16 x.r.fy,.int .i16 x.r.tx,.int .i16 x.r.ty,.int .u8 x.r.seats,.int .u8 x.r.classes,.int .i64 x.r.base,.int .i64 x.r.ttl,.int .i64 x.since,.int .i64 x.number] ?_ _ HXC.out Tryz.underlying79 ?_ ?_ ?_
              · rfl
              · rfl
              · rfl
              · rfl
              · rfl
              · exact bd
              simp only [Act.put,wU,List.set_cons_zero,List.set_cons_succ]
              iterate 3 still_step
              refine wpStill_nil ?_
              change wpList _ _ _ _ _ W6.drew
              have HRD:=wB HRI.out.drew;clear k0 k1 a6 b0 b1 b2 b3 b4 b5 b6 b7 q0;go_wp2_with (first | ((with_reducible refine wpList_mapUpdate_own _ (o:=⟨none,.mapUpdate 54 (.tmp 101) (.tmp 102) (.tmp 111),_,_,_,_⟩) ?_ (.tmp 101) (.tmp 102) (.tmp 111) 54 ?_ 72 117 gV Tryz.underlying54 gO M (n+v.wn+j) (iR (ij v.x.tick v.x.ws (v.x.ps.take j) (fv v.x.tick v.x.ws a.m))) ?_ HRD.out.au.own ?_ (.agg #[.int .u8 x.r.i0,.int .u8 x.r.i1,.int .u8 x.r.i2,.int .u8 x.r.i3,.int .u8 x.r.i4,.int .u8 x.r.i5,.int .u8 x.r.i6,.int .u8 x.r.i7]) (.agg #[.int .u8 x.r.i0,.int .u8 x.r.i1,.int .u8 x.r.i2,.int .u8 x.r.i3,.int .u8 x.r.i4,.int .u8 x.r.i5,.int .u8 x.r.i6,.int .u8 x.r.i7,.int .i16 x.r.fx,.int .i16 x.r.fy,.int .i16 x.r.tx,.int .i16 x.r.ty,.int .u8 x.r.seats,.int .u8 x.r.classes,.int .i64 x.r.base,.int .i64 x.r.ttl,.int .i64 x.since,.int .i64 x.number,.int .i64 v.x.tick,.bool false]) (bP (idR x.r)) ?_ ?_ (nb HXO.out.r) (.held (.agg (aN.V ⟨x,v.x.tick,false⟩))) [] ?_ ?_);rfl;rfl;rfl;(unfold maxLen;omega);rfl;rfl;rfl;intro w2 hown2 hgrow2))
              have HN:=wB (HRD.out.put (m:=(idR x.r,⟨x,v.x.tick,false⟩)::ij v.x.tick v.x.ws (v.x.ps.take j) (fv v.x.tick v.x.ws a.m)) HM1.out HAM.out hown2 (fun p hp=>by
               rcases xg.1 hp with h | h
               · rw [h];exact kW HXO.out.r
               · exact HRD.out.au.keys p h) hgrow2)
              rw [←HNX.out] at HN;exact ⟨wB ⟨j+1,by go_num,by omega,HN.out⟩,by simp [intOf];omega⟩
            · obtain rfl:v.pn=j:=by omega
              have HTP:=wB (show v.x.ps.take v.pn=v.x.ps from xl (by rw [HIN.out.pl];exact wC _));rw [HTP.out] at HRP;go_wp2_with fail
              go_ret
              exact ⟨by rw [HF.out];rfl,by rw [HF.out];exact ⟨HRP.out.au.box,HRP.out.au.own.mono HNN.out,HRP.out.au.keys⟩,HRP.out.keep⟩
   · have HF:=wB (qa H0.out hq)
     have b1:(v.x.tick != a.tick+a.c.w)=true:=by simp [hq]
     clear hq;go_wp2_with fail
     go_quiet (fail)
     go_wp2_with fail
     go_ret
     have HR2:=wB (HR.out.drewN nq);exact ⟨by rw [HF.out];rfl,by rw [HF.out];exact ⟨HR2.out.au.box,HR2.out.au.own.mono (by omega),HR2.out.au.keys⟩,HR2.out.keep⟩
 · have HF:=wB (tF h0)
   have b1:(aL a.c v.x != 0)=true:=by simp [h0]
   go_wp2_with fail
   go_ret
   exact ⟨by rw [HF.out];rfl,by rw [HF.out];exact ⟨HR.out.au.box,HR.out.au.own.mono (by omega),HR.out.au.keys⟩,HR.out.keep⟩
end Go.Proofs.YtcaicgipibcicaaGreat
