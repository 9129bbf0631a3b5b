/- A new auditor of the reference's. -/
import Derived.Test.YtcaicgipibcicaaGreatQAuRef6
import Derived.Test.YtcaicgipibcicaaGreatQRdPs0
import Derived.Test.YtcaicgipibcicaaGreatQRowB
import Derived.Deep.RegionLaw
import Derived.Test.YtcaicgipibcicaaGreatQRdPl
import Derived.Test.YtcaicgipibcicaaGreatQRdP2
import Derived.Test.YtcaicgipibcicaaGreatQRMatch
import Derived.BigRegion
import Derived.Test.YtcaicgipibcicaaGreatQRecCk2
import Derived.Test.YtcaicgipibcicaaGreatQRdR1
import Derived.Test.YtcaicgipibcicaaGreatQRGraph
set_option maxRecDepth 100000
set_option maxHeartbeats 16000000
set_option linter.unusedSimpArgs false
set_option linter.unusedVariables false
open Go renaming all_oneCell_toArray→yU,bodyPost_ret→yS,heap_alloc_new→yE,wpList_store_mid→ze
open Go.Lib renaming hid→yA
open Go.RowKit.Below renaming refl→yH
open Go.World renaming rangeAt_setCells_same→yJ
open List renaming getElem?_drop→zX,getElem?_eq_getElem→yC,getElem?_eq_some_iff→yD,getElem?_take→zG,length_drop→zw,length_map→zy,length_take→yY,mem_of_getElem?→yP,take_of_length_le→zh,take_succ_eq_append_getElem→zk
open Nat renaming le_refl→yB,lt_succ_iff_lt_or_eq→yW,not_lt_zero→zz,zero_le→yQ
namespace Go.Proofs.YtcaicgipibcicaaGreat
open Go.RowKit Go.Sort
def nB (c:ae):Value:=if aB c then .agg #[.int .i64 c.q,.int .i64 c.d,.int .i64 c.w,.int .i64 c.ttl,.int .i64 c.b,.slice none 0 0] else .agg #[.int .i64 0,.int .i64 0,.int .i64 0,.int .i64 0,.int .i64 0,.slice none 0 0]
theorem sH (w:World) (c:ae):Calls Tryz.prog 19 #[.agg #[.int .i64 c.q,.int .i64 c.d,.int .i64 c.w,.int .i64 c.ttl,.int .i64 c.b]] w fun e w'=>e = .returned (.tuple #[nB c,.int .i64 (al c)])∧Below w.heap.size w w':=by
 have HE0:=yA (fR c);have HB:=yA (((yH w.heap.size w).alloc (yB _) (.cells #[.int .i64 c.q,.int .i64 c.d,.int .i64 c.w,.int .i64 c.ttl,.int .i64 c.b] 23)).alloc (by simp) (.cells #[.int .i64 0,.int .i64 0,.int .i64 0,.int .i64 0,.int .i64 0,.slice none 0 0] 50));have HH:=yA ((Keep.alloc (fun _=>False) _ (.cells #[.int .i64 0,.int .i64 0,.int .i64 0,.int .i64 0,.int .i64 0,.slice none 0 0] 50)).old (yE w (.cells #[.int .i64 c.q,.int .i64 c.d,.int .i64 c.w,.int .i64 c.ttl,.int .i64 c.b] 23)) id)
 have HZ:=yA (show ((w.alloc (.cells #[.int .i64 c.q,.int .i64 c.d,.int .i64 c.w,.int .i64 c.ttl,.int .i64 c.b] 23)).alloc (.cells #[.int .i64 0,.int .i64 0,.int .i64 0,.int .i64 0,.int .i64 0,.slice none 0 0] 50)).heap[w.heap.size+1]?=some (.cells #[.int .i64 0,.int .i64 0,.int .i64 0,.int .i64 0,.int .i64 0,.slice none 0 0] 50 (0,0)) from by
  have:=yE (w.alloc (.cells #[.int .i64 c.q,.int .i64 c.d,.int .i64 c.w,.int .i64 c.ttl,.int .i64 c.b] 23)) (.cells #[.int .i64 0,.int .i64 0,.int .i64 0,.int .i64 0,.int .i64 0,.slice none 0 0] 50);rw [show (w.alloc (.cells #[.int .i64 c.q,.int .i64 c.d,.int .i64 c.w,.int .i64 c.ttl,.int .i64 c.b] 23)).heap.size=w.heap.size+1 by simp] at this;exact this)
 go_enter Tryz.func19,Tryz.ntmps19
 go_upto_region 1 with fail
 generalize (w.alloc (.cells #[.int .i64 c.q,.int .i64 c.d,.int .i64 c.w,.int .i64 c.ttl,.int .i64 c.b] 23)).alloc (.cells #[.int .i64 0,.int .i64 0,.int .i64 0,.int .i64 0,.int .i64 0,.slice none 0 0] 50)=W at *;obtain ⟨H,hH⟩:∃ H,w.heap.size=H:=⟨_,rfl⟩;have HHE:=yA hH;rw [hH] at HH HZ ⊢;clear hH;obtain ⟨g0,g1,g2,g3,g4⟩:=aL HH.out;have HHL:=yA (show w.heap.size≤H+1 by rw [HHE.out];omega);go_wp2_with fail
 refine (eM W c).mono ?_;rintro e w2 ⟨rfl,hb2⟩;have HB2:=yA (Below.next HB.out hb2);have HH2:=yA ((Keep.of_below hb2 (yB _) (fun _=>False)).old HH.out id);have HZ2:=yA ((Keep.of_below hb2 (yB _) (fun _=>False)).old HZ.out id);clear hb2 g0 g1 g2 g3 g4;obtain ⟨g0,g1,g2,g3,g4⟩:=aL HH2.out;obtain ⟨z0,z1,z2,z3,z4,z5⟩:=e7 HZ2.out;have zf:=fun j=>frozen_of_row w2 (H+1) j _ _ HZ2.out
 rcases HE0.out with ⟨h0,hc⟩ | ⟨h0,hc⟩
 · have HF:=yA (show nB c = .agg #[.int .i64 c.q,.int .i64 c.d,.int .i64 c.w,.int .i64 c.ttl,.int .i64 c.b,.slice none 0 0] by simp [nB,hc])
   have HE:=yA h0;rw [h0];clear h0 hc;go_wp2_with fail
   have hHl:=HHL.out;exact yS (v:=.tuple #[.agg #[.int .i64 c.q,.int .i64 c.d,.int .i64 c.w,.int .i64 c.ttl,.int .i64 c.b,.slice none 0 0],.int .i64 0]) (by simp [results,Tryz.results19,go_sem, *]) rfl ⟨by rw [HF.out,HE.out],((((((HB2.out.setCell hHl _).setCell hHl _).setCell hHl _).setCell hHl _).setCell hHl _).setCell hHl _)⟩
 · have HF:=yA (show nB c = .agg #[.int .i64 0,.int .i64 0,.int .i64 0,.int .i64 0,.int .i64 0,.slice none 0 0] by simp [nB,hc])
   have HE:=yA h0;rw [h0];clear h0 hc;go_wp2_with fail
   have hHl:=HHL.out;exact yS (v:=.tuple #[.agg #[.int .i64 0,.int .i64 0,.int .i64 0,.int .i64 0,.int .i64 0,.slice none 0 0],.int .i64 160]) (by simp [results,Tryz.results19,go_sem, *]) rfl ⟨by rw [HF.out,HE.out],((((((HB2.out.setCell hHl _).setCell hHl _).setCell hHl _).setCell hHl _).setCell hHl _).setCell hHl _)⟩
end Go.Proofs.YtcaicgipibcicaaGreat
namespace Go.Proofs.YtcaicgipibcicaaGreat
open Go.RowKit
theorem wY {ids:List (List Int)} (h:fe ids=true) {i j:Nat} {a:List Int} (hi:ids[i]?=some a) (hj:ids[j]?=some a):i=j:=by
 have key:∀ i j:Nat,i<j→ids[i]?=some a→ids[j]?=some a→False:=by
  intro i j hlt hi hj;have h1:=dR h (yD.1 hj).1;simp only [newAt,hj] at h1;have h2:=dR h1 hlt;simp [hi] at h2
 rcases Nat.lt_trichotomy i j with h | h | h
 · exact (key i j h hi hj).elim
 · exact h
 · exact (key j i h hj hi).elim
theorem qX {c:ae} {x:aF} (hc:aB c=true) (h:aO c x=0):bZ c x=true:=by
 unfold aO at h;have hc0:¬ al c≠0:=by simp [al,hc]
 rw [if_neg hc0] at h;split at h
 · omega
 · split at h
   · rename_i h1;exact absurd h h1
   · split at h
     · omega
     · rename_i h1;simpa using h1
structure wZ (x:aF):Prop where
 inj:∀ (i j:Nat) (y z:ad),x.ws[i]?=some y→x.ws[j]?=some z→idR y.r=idR z.r→i=j
 pos:∀ p ∈ x.ps,0≤p.r
 since:∀ y ∈ x.ws,0≤y.since
theorem qY {c:ae} {x:aF} (hc:aB c=true) (h:aO c x=0):wZ x:=by
 have hr:=fH hc h;have hl:=qX hc h;obtain ⟨h1,h2,h3,h4,h5,h6⟩:=cK hr;refine ⟨fun i j y z hi hj he=>?_,fun p hp=>?_,fun y hy=>?_⟩
 · unfold bZ at hl
   simp only [Bool.and_eq_true] at hl;exact wY hl.1.2 (a:=idR y.r) (by rw [List.getElem?_map,hi];rfl) (by rw [List.getElem?_map,hj,he];rfl)
 · obtain ⟨j,hj⟩:=List.getElem?_of_mem hp
   have:=jK (ip hr).1 h5 j p hj;omega
 · obtain ⟨j,hj⟩:=List.getElem?_of_mem hy
   have:=dR h2 (yD.1 hj).1;rw [dO hj] at this;exact (of_decide_eq_true this).2.1
theorem hU (k:List Int) (s:aZ) (m:List (List Int × aZ)) (id:List Int):bU ((k,s)::m) id=if k=id then some s else bU m id:=by
 unfold bU;by_cases h:k=id
 · simp [List.find?_cons,h]
 · simp [List.find?_cons,h]
theorem oB (t:Int) (y:ad) (ws:List ad) (m:List (List Int × aZ)):gB t (y::ws) m=gB t ws ((idR y.r,⟨y,t,true⟩)::m):=rfl
theorem kJ (t:Int) (id:List Int):∀ (ws:List ad) (m:List (List Int × aZ)),(∀ y ∈ ws,idR y.r≠id)→bU (gB t ws m) id=bU m id:=by
 intro ws
 induction ws with
 | nil=>intro m _;rfl
 | cons y ws ih=>
   intro m h;rw [oB,ih _ (fun z hz=>h z (List.mem_cons_of_mem _ hz)),hU,if_neg (h y List.mem_cons_self)]
theorem nR (t:Int) (id:List Int) (y:ad) (hid:idR y.r=id):∀ (ws:List ad) (m:List (List Int × aZ)),y ∈ ws→(∀ z ∈ ws,idR z.r=id→z=y)→bU (gB t ws m) id=some ⟨y,t,true⟩:=by
 intro ws
 induction ws with
 | nil=>intro m h;cases h
 | cons z ws ih=>
   intro m hm hu;rw [oB];by_cases hin:∃ z ∈ ws,idR z.r=id
   · obtain ⟨q,hq,he⟩:=hin
     exact ih _ (by rw [←hu q (List.mem_cons_of_mem _ hq) he];exact hq) (fun z hz=>hu z (List.mem_cons_of_mem _ hz))
   · rw [kJ t id ws _ (fun q hq e=>hin ⟨q,hq,e⟩),hU]
     rcases List.mem_cons.1 hm with rfl | h
     · rw [if_pos hid]
     · exact (hin ⟨y,h,hid⟩).elim
def sI (t:Int) (ws:List ad) (m:List (List Int × aZ)) (p:ag):List (List Int × aZ):=match ws[p.r.toNat]? with | none=>m | some y=>(idR y.r,⟨y,t,false⟩)::m
theorem oC (t:Int) (ws:List ad) (p:ag) (ps:List ag) (m:List (List Int × aZ)):jm t ws (p::ps) m=jm t ws ps (sI t ws m p):=rfl
theorem ia (t:Int) (id:List Int) (ws:List ad):∀ (ps:List ag) (m:List (List Int × aZ)),(∀ p ∈ ps,∀ y,ws[p.r.toNat]?=some y→idR y.r≠id)→bU (jm t ws ps m) id=bU m id:=by
 intro ps
 induction ps with
 | nil=>intro m _;rfl
 | cons p ps ih=>
   intro m h;rw [oC,ih _ (fun z hz=>h z (List.mem_cons_of_mem _ hz))];unfold sI;split
   · rfl
   · rename_i y hy
     rw [hU,if_neg (h p List.mem_cons_self y hy)]
theorem nS (t:Int) (id:List Int) (ws:List ad) (y:ad) (hid:idR y.r=id) (hu:∀ z ∈ ws,idR z.r=id→z=y):∀ (ps:List ag) (m:List (List Int × aZ)),(∃ p ∈ ps,ws[p.r.toNat]?=some y)→bU (jm t ws ps m) id=some ⟨y,t,false⟩:=by
 intro ps
 induction ps with
 | nil=>rintro m ⟨p,h,_⟩;cases h
 | cons p ps ih=>
   rintro m ⟨q,hq,hy⟩;rw [oC];by_cases hin:∃ q ∈ ps,∃ z,ws[q.r.toNat]?=some z∧idR z.r=id
   · obtain ⟨q,hq,z,hz,he⟩:=hin
     exact ih _ ⟨q,hq,by rw [hz,hu z (yP hz) he]⟩
   · rw [ia t id ws ps _ (fun q hq z hz e=>hin ⟨q,hq,z,hz,e⟩)]
     rcases List.mem_cons.1 hq with rfl | h
     · unfold sI
       rw [hy];simp only [hU,if_pos hid]
     · exact (hin ⟨q,h,y,hy,hid⟩).elim
theorem qZ {x:aF} (hx:wZ x) (t:Int) (m:List (List Int × aZ)) {i:Nat} {y:ad} (hy:x.ws[i]?=some y):bU (jm t x.ws x.ps (gB t x.ws m)) (idR y.r)=some ⟨y,t,fA x.ps i⟩:=by
 have hu:∀ z ∈ x.ws,idR z.r=idR y.r→z=y:=by
  intro z hz he;obtain ⟨j,hj⟩:=List.getElem?_of_mem hz;have:=hx.inj j i z y hj hy he;subst this;rw [hy] at hj;exact (Option.some.inj hj).symm
 cases hf:fA x.ps i with
 | true=>
   rw [ia,nR t _ y rfl x.ws m (yP hy) hu];intro p hp z hz he;have h1:=hx.inj _ _ z y hz hy he;unfold fA at hf;rw [List.all_eq_true] at hf;have h2:=hf p hp;have h3:=hx.pos p hp;simp at h2;omega
 | false=>
   refine nS t _ x.ws y rfl hu x.ps _ ?_;unfold fA at hf;rw [List.all_eq_false] at hf;obtain ⟨p,hp,h⟩:=hf;simp at h;exact ⟨p,hp,by rw [h];simpa using hy⟩
theorem mc {x:aF} (t:Int) (m:List (List Int × aZ)) {id:List Int} (h:bY x id=false):bU (jm t x.ws x.ps (gB t x.ws m)) id=bU m id:=by
 have hn:∀ y ∈ x.ws,idR y.r≠id:=by
  intro y hy he;unfold bY at h;rw [List.any_eq_false] at h;exact h y hy (by simpa using he)
 rw [ia _ _ _ _ _ (fun p hp y hy=>hn y (yP hy)),kJ _ _ _ _ hn]
theorem oD {x:aF} {id:List Int} (h:bY x id=true):∃ (i:Nat) (y:ad),x.ws[i]?=some y∧idR y.r=id:=by
 unfold bY at h;rw [List.any_eq_true] at h;obtain ⟨y,hy,he⟩:=h;obtain ⟨i,hi⟩:=List.getElem?_of_mem hy;exact ⟨i,y,hi,by simpa using he⟩
structure Alike (a:PAu) (ts:List RV):Prop where
 cf:aB a.c=true
 tick:a.tick=lastT ts
 range:0≤a.tick∧a.tick≤1099511627776
 good:∀ u ∈ ts,aO a.c u.x=0
 known:∀ id,(bU a.m id).isSome=ts.any (fun u=>bY u.x id)
 look:∀ id s,bU a.m id=some s→s.tick≤a.tick∧∀ u,ts.getLast?=some u→
  (bY u.x id=true→s.tick=a.tick∧∃ (i:Nat) (y:ad),u.x.ws[i]?=some y∧idR y.r=id∧s.w=y∧s.left=fA u.x.ps i)∧(bY u.x id=false→s.tick<a.tick)
theorem Alike.new {c:ae} (hc:aB c=true):Alike ⟨c,0,[]⟩ []:=
 ⟨hc,rfl,⟨Int.le_refl 0,(by show (0:Int)≤1099511627776;decide)⟩,(fun _ h=>by cases h),(fun id=>rfl),(fun id s h=>by simp [bU] at h)⟩
theorem xa {x:aF} (hx:wZ x) {i:Nat} {y z:ad} (hy:x.ws[i]?=some y) (hid:idR y.r=idR z.r):jo x z=(fA x.ps i && bqW y z):=by
 cases hb:(fA x.ps i && bqW y z) with
 | true=>exact nY (yD.1 hy).1 (by rw [iU hy];exact hb)
 | false=>
   refine mG fun k hk=>?_
   obtain ⟨q,hq⟩:∃ q,x.ws[k]?=some q:=⟨_,yC hk⟩;rw [iU hq];cases hbq:bqW q z with
   | false=>simp
   | true=>
     have he:=(te q z).1 hbq;subst he;have:=hx.inj k i q y hq hy hid.symm;subst this;rw [hy] at hq;cases hq
     rw [←hb,hbq]
theorem sJ {x:aF} {z:ad} (h:bY x (idR z.r)=false):jo x z=false:=by
 refine mG fun k hk=>?_
 obtain ⟨q,hq⟩:∃ q,x.ws[k]?=some q:=⟨_,yC hk⟩;rw [iU hq];cases hbq:bqW q z with
 | false=>simp
 | true=>
   have he:=(te q z).1 hbq;subst he;rw [mF hq rfl] at h;cases h
theorem Alike.could {a:PAu} {ts:List RV} (h:Alike a ts) {x:aF} {y:ad} (hy:0≤y.since):dU a y x.tick=!dH ts x y:=by
 by_cases h1:x.tick≤y.since
 · rw [mD h1,mH h1];rfl
 · have hk:=h.known (idR y.r)
   cases hl:bU a.m (idR y.r) with
   | none=>
     rw [hl] at hk;rw [nV h1 hl];cases hg:ts.getLast? with
     | none=>
       rw [List.getLast?_eq_none_iff] at hg;subst hg;rw [lE h1];have:=h.tick;rw [tY] at this;rw [this];simp [hy]
     | some u=>
       rw [n8 h1 hg hk.symm];have ht:a.tick=u.x.tick:=by rw [h.tick];unfold lastT;rw [hg]
       rw [ht,←decide_not];simp
   | some s=>
     rw [hl] at hk;rw [nW h1 hl];obtain ⟨hs,hu⟩:=h.look _ _ hl;cases hg:ts.getLast? with
     | none=>
       rw [List.getLast?_eq_none_iff] at hg;subst hg;simp at hk
     | some u=>
       rw [nZ h1 hg hk.symm];obtain ⟨hu1,hu2⟩:=hu u hg;have hgood:=qY h.cf (h.good u (List.mem_of_getLast? hg));cases hst:bY u.x (idR y.r) with
       | true=>
         obtain ⟨e1,i,z,hz,hid,hw,hleft⟩:=hu1 hst;rw [xa hgood hz hid,e1,hleft,hw];simp
       | false=>
         have:=hu2 hst;rw [sJ hst];have:¬ s.tick=a.tick:=by omega
         simp [this]
theorem Alike.see {a:PAu} {ts:List RV} (h:Alike a ts) (v:RV):(dj a v.x).1=(fF a.c ts v).1∧Alike (dj a v.x).2 (fF a.c ts v).2∧(dj a v.x).2.c=a.c∧(fF a.c ts v).2.length≤ts.length+1:=by
 by_cases h0:aO a.c v.x=0
 · have hx:=qY h.cf h0
   by_cases h1:v.x.tick=a.tick+a.c.w
   · have h1':v.x.tick - lastT ts=a.c.w:=by rw [←h.tick];omega
     have hall:fG a v.x=c6 v.x.ws.length (ga ts v.x):=by
      unfold fG;refine rA fun j hj=>?_
      obtain ⟨y,hy⟩:∃ y,v.x.ws[j]?=some y:=⟨_,yC hj⟩;rw [jI hy,jH hy,h.could (hx.since y (yP hy))]
     cases h2:fG a v.x with
     | false=>
       rw [vy h0 h1 h2,vq h0 h1' (by rw [←hall];exact h2)];exact ⟨rfl,h,rfl,Nat.le_succ _⟩
     | true=>
       rw [rK h0 h1 h2,vr h0 h1' (by rw [←hall];exact h2)]
       have hcw:1≤a.c.w∧a.c.w≤1048576:=by
        have:=h.cf;unfold aB at this;simp only [Bool.and_eq_true] at this;exact of_decide_eq_true this.1.1.2
       have hlast:(ts++[v]).getLast?=some v:=by simp
       have htk:=km (fH h.cf h0);have hr:=h.range;refine ⟨rfl,⟨h.cf,?_,⟨by simp only;omega,by simp only;omega⟩,?_,?_,?_⟩,rfl,by simp⟩
       · unfold lastT;rw [hlast]
       · intro u hu
         rcases List.mem_append.1 hu with hu | hu
         · exact h.good u hu
         · cases List.mem_singleton.1 hu;exact h0
       · intro id
         rw [List.any_append];cases hst:bY v.x id with
         | true=>
           obtain ⟨i,y,hy,rfl⟩:=oD hst;simp only;rw [qZ hx _ _ hy];simp [hst]
         | false=>
           simp only;rw [mc _ _ hst,h.known id];simp [hst]
       · intro id s hs
         simp only at hs;cases hst:bY v.x id with
         | true=>
           obtain ⟨i,y,hy,rfl⟩:=oD hst;rw [qZ hx _ _ hy] at hs;cases hs
           refine ⟨by simp,fun u hu=>?_⟩;rw [hlast] at hu;cases hu
           exact ⟨(fun _=>⟨rfl,i,y,hy,rfl,rfl,rfl⟩),(fun e=>by rw [hst] at e;cases e)⟩
         | false=>
           rw [mc _ _ hst] at hs;have hle:=(h.look id s hs).1;refine ⟨by simp only;omega,fun u hu=>?_⟩;rw [hlast] at hu;cases hu
           exact ⟨(fun e=>by rw [hst] at e;cases e),(fun _=>by simp only;omega)⟩
   · have h1':v.x.tick - lastT ts≠a.c.w:=by rw [←h.tick];omega
     rw [rJ h0 h1,rG h0 h1'];exact ⟨rfl,h,rfl,Nat.le_succ _⟩
 · rw [vx h0,vp h0]
   exact ⟨rfl,h,rfl,Nat.le_succ _⟩
end Go.Proofs.YtcaicgipibcicaaGreat
namespace Go.Proofs.YtcaicgipibcicaaGreat
open Go.RowKit Go.Sort
theorem oE {P:Program} {ops:Array Oper} {o:Oper} {a:Act} {w:World} {K:Act→World→Prop} {Q:Exit→Act→World→Prop} {E:Prop}
 (hg:o.guard=none) (f:FuncId) (args:Array Value) (hrun:(execOp a.eval o).run P w = .ok (.enter f args) w) {R:Ending→World→Prop} (h:Calls P f args w R)
 (hK:∀ e w',R e w'→∃ v,e = .returned v∧K (a.put o.dst v) w'):if Region.wanted o (yielded ops a.tmps)=true then Oper.wp P o a w K Q else E:=by
 have hw:Region.wanted o (yielded ops a.tmps)=true:=by simp [Region.wanted,hg]
 rw [if_pos hw];unfold Oper.wp;rw [hrun];refine h.mono fun e w' hr=>?_
 obtain ⟨v,rfl,hk⟩:=hK e w' hr;exact hk
theorem rd_sum {w:World} {ao:Option Addr} {m cap:Nat} {a c:List Int} (ho:Own w 1 (.slice ao m cap) m (cellsOf ai a++cellsOf ai c)) (hb:Byt (a++c)):Rd w ao (u8s (a++c)):=by
 refine je ?_ hb;have h:cellsOf ai (a++c)=cellsOf ai a++cellsOf ai c:=by simp [cellsOf]
 rw [h];obtain ⟨h1,h2 | ⟨g,cap',h2,h3,h4,h5⟩⟩:=ho
 · left
   have:(cellsOf ai a++cellsOf ai c).length=0:=by rw [h1,h2.2]
   exact List.eq_nil_of_length_eq_zero this
 · cases h2
   exact .inr ⟨g,0,rfl,fun j u hu=>by rw [Nat.zero_add];exact h5.cell j u hu⟩
def yh (w:World) (a:Nat) (l:List Int) (G:Nat) (e:Ending) (w':World):Prop:=
 Below w.heap.size w w'∧match bJ (be4 a) l with
  | some (c,s)=>∃ ao cc,e = .returned (.tuple #[.slice ao c.length cc,.int .i64 ((c.length:Int)+12),.int .u32 (s:Int)])∧RdC w' ao (cellsOf ai c)∧c.length≤cc∧∀ x,ao=some x→x.block=G
  | none=>e = .returned (.tuple #[.slice none 0 0,.int .i64 0,.int .u32 0])
theorem oF (w:World) (a:Nat) (ha:a<4294967296) (ao:Option Addr) (n cap:Nat) (l:List Int) (G:Nat) (hn:l.length=n) (hr:RdC w ao (cellsOf ai l)) (hb:Byt l) (hc:n≤cap) (hm:n≤1000000000) (hG:∀ x,ao=some x→x.block=G) :
 Calls Tryz.prog 113 #[.int .u32 (a:Int),.slice ao n cap] w (yh w a l G):=by
 have HN:=yA hn;have HBY:=yA hb;have HGG:=yA hG;have HB0:=yA (yH w.heap.size w);by_cases h8:n<8
 · have HX:=yA (show bJ (be4 a) l=none from mb (by rw [hn];exact h8))
   clear hr hn hb hG;go_enter Tryz.func113,Tryz.ntmps113
   go_wp2_with fail
   exact yS (v:=.tuple #[.slice none 0 0,.int .i64 0,.int .u32 0]) (by simp [results,Tryz.results113,go_sem]) rfl ⟨HB0.out,by rw [HX.out]⟩
 · rcases hr with h0 | ⟨b,o,rfl,hcell⟩
   · exfalso
     have:=congrArg List.length h0;rw [aG,hn] at this;simp at this;omega
   have HCE:=yA hcell;have hcap8:8≤cap:=by omega
   obtain ⟨l1,h1⟩:∃ l1,l.take 4=l1:=⟨_,rfl⟩;have hl1:l1.length=4:=by rw [←h1,yY];omega
   have hb1:Byt l1:=by rw [←h1];exact hb.take 4
   obtain ⟨l2,h2⟩:∃ l2,(l.drop 4).take 4=l2:=⟨_,rfl⟩;have hl2:l2.length=4:=by rw [←h2,yY,zw];omega
   have hb2:Byt l2:=by rw [←h2];exact (hb.drop 4).take 4
   have hc1:∀ j u,(cellsOf ai l1)[j]?=some u→w.cell? ⟨b,o+j,none⟩=some u:=fun j u hu=>by
    rw [←h1,dM,zG] at hu;split at hu
    · exact hcell j u hu
    · cases hu
   have hc2:∀ j u,(cellsOf ai l2)[j]?=some u→w.cell? ⟨b,o+4+j,none⟩=some u:=fun j u hu=>by
    rw [←h2,dM,eB,zG] at hu;split at hu
    · rw [zX] at hu
      have:=hcell _ u hu;rwa [←Nat.add_assoc] at this
    · cases hu
   have H1:=yA (And.intro h1 (And.intro hl1 (And.intro hb1 hc1)));have H2:=yA (And.intro h2 (And.intro hl2 (And.intro hb2 hc2)));clear h1 hl1 hb1 hc1 h2 hl2 hb2 hc2 hn hb hG hcell;go_enter Tryz.func113,Tryz.ntmps113
   go_wp2_with fail
   refine (iH w b o cap l1 H1.out.2.1 H1.out.2.2.1 H1.out.2.2.2 (by omega)).mono ?_;rintro e w1 ⟨rfl,hq1,rfl⟩;obtain ⟨q1,hq⟩:∃ q1:Nat,beI l1=q1:=⟨(beI l1).toNat,by omega⟩;rw [hq] at hq1 ⊢;have HQ1:=yA hq;clear hq;have hq1n:q1<4294967296:=by omega
   clear hq1;go_wp2_with fail
   refine (iH w1 b (o+4) (cap - 4) l2 H2.out.2.1 H2.out.2.2.1 H2.out.2.2.2 (by omega)).mono ?_;rintro e w2 ⟨rfl,hq2,rfl⟩;obtain ⟨q2,hq⟩:∃ q2:Nat,beI l2=q2:=⟨(beI l2).toNat,by omega⟩;rw [hq] at hq2 ⊢;have HQ2:=yA hq;clear hq;have hq2n:q2<4294967296:=by omega
   clear hq2;have HFQ:=yA (show (q1:Int)=beI (l.take 4)∧(q2:Int)=beI ((l.drop 4).take 4) from ⟨by rw [H1.out.1,HQ1.out],by rw [H2.out.1,HQ2.out]⟩);by_cases hqq:q2+q1=4294967295
   · have b1:((q2:Int) != 4294967295 - (q1:Int))=false:=by simp;omega
     by_cases hlt:n<q1+12
     · have b3:decide ((n:Int)<(q1:Int)+12)=true:=decide_eq_true (by omega)
       have HX:=yA (show bJ (be4 a) l=none from jf (by rw [HN.out];omega) HFQ.out.1 HFQ.out.2 (.inr (by rw [HN.out];exact hlt)) ⟨hq1n,hq2n⟩);clear hqq hlt;go_wp2_with fail
       exact yS (v:=.tuple #[.slice none 0 0,.int .i64 0,.int .u32 0]) (by simp [results,Tryz.results113,go_sem]) rfl ⟨HB0.out,by rw [HX.out]⟩
     · have b3:decide ((n:Int)<(q1:Int)+12)=false:=decide_eq_false (by omega)
       have hq12:q1+12≤n:=by omega
       have HQQ:=yA hqq;have hs1:8+(q1:Int)≤(cap:Int):=by omega
       have hs2:(0:Int)≤8+(q1:Int):=by omega
       have hs3:(8:Int)≤max (8+(q1:Int)) 0:=by omega
       have hs4:¬ cap=8:=by omega
       have hs5:(8+(q1:Int)).toNat - 8=q1:=by omega
       clear hqq hlt;go_upto_region 7 with fail
       obtain ⟨i5,hi,hz0,hz1,hz2⟩:=cR (show (Tryz.prog.info? 5).map (fun i=>(i.zero,i.size,i.bytes))=some (some (.int .u8 0),1,1) by kernel_rfl);have e4:∀ args w,(callFunc 147 args).run Tryz.prog w = .ok (.enter 147 args) w:=enters_of Tryz.func147 (by kernel_rfl) rfl;have eS:∀ args w,(callFunc 146 args).run Tryz.prog w = .ok (.enter 146 args) w:=enters_of Tryz.func146 (by kernel_rfl) rfl;obtain ⟨c,hce⟩:∃ c,(l.drop 8).take q1=c:=⟨_,rfl⟩;have HCEQ:=yA hce;have HCN:=yA (show c.length=q1 from by rw [←hce,yY,zw,HN.out];omega);have HCB:=yA (show Byt c from by rw [←hce];exact (HBY.out.drop 8).take q1)
       have HCR:=yA (show RdC w2 (some ⟨b,o+8,none⟩) (cellsOf ai c) from .inr ⟨b,o+8,rfl,fun j u hu=>by
        rw [←hce,dM,eB,zG] at hu;split at hu
        · rw [zX] at hu
          have:=HCE.out _ u hu;rwa [←Nat.add_assoc] at this
        · cases hu⟩)
       have HGD:=yA (nt (a:=be4 a) HBY.out (by rw [HN.out];omega) HFQ.out.1 HFQ.out.2 (by have:=HQQ.out;omega) (by rw [HN.out];exact hq12) ⟨hq1n,hq2n⟩);rw [hce] at HGD;clear hce;obtain ⟨W1,hW1⟩:∃ W1,w2.drew.alloc (.cells (cellsOf ai (be4 a)).toArray 5)=W1:=⟨_,rfl⟩;have HW1:=yA hW1;have HK1:=yA (show Keep (fun _=>False) w2 W1 from by rw [←hW1];exact (Keep.drew (fun _=>False) w2).trans (Keep.alloc (fun _=>False) _ _) (fun _ _ h=>h) (fun _ _ h=>h))
       have HO1:=yA (show Own W1 1 (.slice (some ⟨w2.heap.size,0,none⟩) 4 4) 4 (cellsOf ai (be4 a)) from by
        rw [←hW1];exact iF (yE w2.drew _) (n:=4) rfl (by unfold maxLen;omega))
       have HCR1:=yA (HCR.out.keep HK1.out (fun _ _ _=>id));have HML:=yA (show 4+q1≤maxLen from by unfold maxLen;omega);have HBYT:=yA (show (4+q1)*1≤140737488355328 from by omega);have HBA:=yA (show Byt (be4 a++c) from fun x hx=>by rcases List.mem_append.1 hx with h | h;exact kI ha x h;exact HCB.out x h);clear hW1;go_region_law (first | (refine oE rfl 147 #[.int .u32 (a:Int)] (by simp [execOp,resolve,invoke,go_sem,e4]) (uL w2.drew a ha) ?_;rintro e w' ⟨rfl,rfl⟩;refine ⟨_,rfl,?_⟩;rw [HW1.out]) | (refine aM rfl (.tmp 35) (.tmp 38) 59 59 rfl 5 i5 (.int .u8 0) 1 1 Tryz.underlying59 hi hz0 hz1 hz2 rfl (.slice (some ⟨w2.heap.size,0,none⟩) 4 4) 4 _ (by first | rfl | simp [Act.eval]) HO1.out (.slice (some ⟨b,o+8,none⟩) q1 (cap - 8)) q1 (cellsOf ai c) (by first | rfl | simp [Act.eval]) (Src.ofRd Tryz.underlying59 (some ⟨b,o+8,none⟩) q1 (cap - 8) c HCN.out HCR1.out) HML.out HBYT.out ?_;intro ao2 cq2 w9 ho9 hk9 hb9;have HRD9:=rd_sum ho9 HBA.out;have HK9:=yA hk9;clear ho9 hk9 hb9) | (refine oE rfl 146 #[.slice ao2 (4+q1) cq2] (by simp [execOp,resolve,invoke,go_sem,eS]) (xu ao2 (4+q1) cq2 (u8s (be4 a++c)) w9 (by simp only [u8s,zy,List.length_append,eI,HCN.out]) HRD9 (by omega)) ?_;rintro e w' ⟨rfl,rfl⟩;refine ⟨_,rfl,?_⟩))
       obtain ⟨S,hS⟩:∃ S,crc (u8s (be4 a++c))=S:=⟨_,rfl⟩;have HSE:=yA (show jn (be4 a++c)=S from hS);rw [hS];clear hS HRD9
       have hk19:Keep (fun k=>k=w2.heap.size) w2 w9:=HK1.out.trans HK9.out (fun _ _ h=>h.elim) (fun k _ e=>by
        have e':w2.heap.size=k:=by simpa [Value.ownBlock] using e
        exact e'.symm)
       have HB9:=yA (hk19.below (yB _) (fun i hi e=>by omega));have hs6:8+(q1:Int)+4≤(cap:Int):=by omega
       have hs7:(0:Int)≤8+(q1:Int)+4:=by omega
       have hs8:8+(q1:Int)≤max (8+(q1:Int)+4) 0:=by omega
       have hs10:(8+(q1:Int)).toNat=8+q1:=by omega
       have hs9:¬ cap=8+q1:=by omega
       have hs11:(8+(q1:Int)+4).toNat=8+q1+4:=by omega
       have hs12:(0:Int)≤max (8+(q1:Int)+4) 0:=by omega
       simp only [Act.put];go_wp2_with fail
       obtain ⟨l3,h3⟩:∃ l3,(l.drop (8+q1)).take 4=l3:=⟨_,rfl⟩;have H3:=yA h3;have hl3:l3.length=4:=by rw [←h3,yY,zw,HN.out];omega
       have hb3:Byt l3:=by rw [←h3];exact (HBY.out.drop (8+q1)).take 4
       have hbl:b<w2.heap.size:=World.block_lt_of_cell? w2 ⟨b,o,none⟩ (HCE.out 0 (.int .u8 (l.getD 0 0)) (by
        have hx:l[0]?=some (l.getD 0 0):=by
         rw [List.getD,yC (by rw [HN.out];omega)];rfl
        have h1:=cq ai 1 cE l 0 _ hx 0 (by omega)
        simpa [ai] using h1))
       have hc3:∀ j u,(cellsOf ai l3)[j]?=some u→w9.cell? ⟨b,o+(8+q1)+j,none⟩=some u:=fun j u hu=>by
        rw [←h3,dM,eB,zG] at hu;split at hu
        · rw [zX] at hu
          have:=HCE.out _ u hu;rw [←Nat.add_assoc] at this;exact hk19.cell this (by show ¬ b=w2.heap.size;omega)
        · cases hu
       have HRC9:=yA (HCR.out.keep hk19 (fun b' o' e=>by cases e;omega));have hpe:=qQ (a:=be4 a) (n:=q1) HBY.out HFQ.out.1.symm (by rw [←HFQ.out.2];have:=HQQ.out;omega) (by rw [HN.out];exact hq12);rw [HCEQ.out,HSE.out,h3,show q1+12=8+q1+4 by omega] at hpe;have HPE:=yA hpe;clear hpe h3;refine (iH w9 b (o+(8+q1)) (cap - (8+q1)) l3 hl3 hb3 hc3 (by omega)).mono ?_;rintro e w10 ⟨rfl,hq3,rfl⟩;obtain ⟨q3,hq⟩:∃ q3:Nat,beI l3=q3:=⟨(beI l3).toNat,by omega⟩;rw [hq] at hq3 ⊢;have HQ3:=yA hq;clear hq hc3 hk19;by_cases hqs:q3=S
       · have b5:((q3:Int) != (S:Int))=false:=by simp [hqs]
         have HX:=yA (show bJ (be4 a) l=some (c,S) from by
          have:=HGD.out.1 (HPE.out.2 (by rw [HQ3.out,hqs]));rw [HSE.out] at this;exact this)
         clear hqs;go_wp2_with fail
         refine yS (v:=.tuple #[.slice (some ⟨b,o+8,none⟩) q1 (cap - 8),.int .i64 (8+(q1:Int)+4),.int .u32 (S:Int)]) (by simp [results,Tryz.results113,go_sem]) rfl ⟨HB9.out,?_⟩;rw [HX.out];exact ⟨some ⟨b,o+8,none⟩,cap - 8,by rw [HCN.out,show (8:Int)+(q1:Int)+4=(q1:Int)+12 by omega],HRC9.out,by rw [HCN.out];omega,fun x hx=>by cases hx;exact HGG.out ⟨b,o,none⟩ rfl⟩
       · have b5:((q3:Int) != (S:Int))=true:=by simp;omega
         have HX:=yA (show bJ (be4 a) l=none from HGD.out.2 (fun h=>hqs (by
          have:=HPE.out.1 h;rw [HQ3.out] at this;omega)))
         clear hqs;go_wp2_with fail
         exact yS (v:=.tuple #[.slice none 0 0,.int .i64 0,.int .u32 0]) (by simp [results,Tryz.results113,go_sem]) rfl ⟨HB9.out,by rw [HX.out]⟩
   · have b1:((q2:Int) != 4294967295 - (q1:Int))=true:=by simp;omega
     have HX:=yA (show bJ (be4 a) l=none from jf (by rw [HN.out];omega) HFQ.out.1 HFQ.out.2 (.inl (by omega)) ⟨hq1n,hq2n⟩);clear hqq;go_wp2_with fail
     exact yS (v:=.tuple #[.slice none 0 0,.int .i64 0,.int .u32 0]) (by simp [results,Tryz.results113,go_sem]) rfl ⟨HB0.out,by rw [HX.out]⟩
theorem GR.new (w:World) (ao:Option Addr) (n cap:Nat) (l:List Int) (G:Nat) (hn:l.length=n) (hr:RdC w ao (cellsOf ai l)) (hb:Byt l) (hc:n≤cap) (hm:n≤1000000000) (hG:∀ a,ao=some a→a.block=G) (hGl:G<w.heap.size) :
 GR (w.alloc (.cells #[.slice ao n cap,.int .i64 0,.bool false] 219)) w.heap.size G (some l):=by
 subst hn;have hk:=Keep.alloc (fun _=>False) w (.cells #[.slice ao l.length cap,.int .i64 0,.bool false] 219);exact ⟨some l,false,⟨ao,cap,yE w _,hr.keep hk (fun _ _ _=>id),hG,hb,hc,hm⟩,⟨by omega,by simp;omega⟩,.inl ⟨l,rfl,rfl,rfl⟩⟩
def gn (l:List Int):Nat→Int
 | 0=>-1
 | i+1=>l.getD i 0
def jW (l:List Int) (i:Nat):Bool:=match l[i]? with
 | none=>true
 | some x=>decide (gn l i<x)
def jX (l:List Int):Bool:=c6 l.length (jW l)
theorem fu {l:List Int} {i:Nat} {x:Int} (hx:l[i]?=some x):jW l i=decide (gn l i<x):=by simp only [jW,hx]
theorem nC {l:List Int} {i:Nat} {x:Int} (hx:l[i]?=some x) (h:x≤gn l i):jX l=false:=
 bE (yD.1 hx).1 (by rw [fu hx];exact decide_eq_false (by omega))
theorem oG {l:List Int}:∀ (k:Nat),k≤l.length→(∀ j,j<k→jW l j=true)→-1≤gn l k∧(0<k→0≤gn l k)
 | 0,_,_=>⟨by simp [gn],fun h=>absurd h (Nat.lt_irrefl _)⟩
 | k+1,hk,h=>by
   have ih:=(oG k (by omega) (fun j hj=>h j (by omega))).1;have hx:l[k]?=some l[k]:=yC (by omega);have h1:=h k (by omega);rw [fu hx] at h1;have h2:=of_decide_eq_true h1;have e:gn l (k+1)=l[k]:=by simp [gn,List.getD,hx]
   rw [e];exact ⟨by omega,fun _=>by omega⟩
theorem kK (w:World) (ao:Option Addr) (n c:Nat) (l:List Int) (hl:l.length=n) (hr:RdC w ao (cellsOf aP l)) (hn:n≤1048576) :
 Calls Tryz.prog 179 #[.slice ao n c] w fun e w'=>e = .returned (.bool (jX l))∧Below w.heap.size w w':=by
 have HL:=yA hl;have HR:=yA hr;clear hl hr;have HB:=yA (yH w.heap.size w);go_enter Tryz.func179,Tryz.ntmps179
 go_wp2_with fail
 go_loopw [3] (fun i wr=>Hid (∃ k:Nat,i = .int .i64 k∧k≤n∧(∀ j,j<k→jW l j=true)∧Below w.heap.size w wr)) (fun i _=>n - (intOf i).toNat)
 case atStart=>exact yA ⟨0,rfl,yQ _,bB,HB.out⟩
 case round=>
  obtain ⟨k,rfl,hk,hall,hb⟩:=hrel.out;clear hrel;have HALL:=yA hall;have HBW:=yA hb;clear hall hb;by_cases hlt:k<n
  · obtain ⟨x,hx⟩:∃ x,l[k]?=some x:=⟨l[k]'(by rw [HL.out];exact hlt),yC _⟩
    have hkb:=Keep.of_below HBW.out (yB _) (fun _=>False);rcases HR.out.keep hkb (fun _ _ _=>id) with h0 | ⟨b,o,hbo,hcell⟩
    · exfalso
      have:=congrArg List.length h0;rw [cellsOf_length _ 1 (fun _=>rfl),HL.out] at this;simp at this;omega
    subst hbo;have HCL:=yA hcell;have HX:=yA hx
    have x0:wr.cell? ⟨b,o+k,none⟩=some (.int .i64 x):=by
     have:=hcell k (.int .i64 x) (by
      have h1:=cq aP 1 (fun _=>rfl) l k x hx 0 (by omega);rw [show k*1+0=k by omega] at h1;exact h1.trans rfl)
     exact this
    have HLOW:=yA (oG k (by rw [HL.out];exact hk) HALL.out);clear hx hcell hkb;by_cases h1:x<0
    · have HF:=yA (nC HX.out (by have:=HLOW.out.1;omega))
      have b1:decide (x<0)=true:=decide_eq_true h1;clear h1;go_wp2_with fail
      go_quiet (fail)
      go_wp2_with fail
      go_ret
      exact ⟨by rw [HF.out];rfl,below_drewN HBW.out _⟩
    · have b1:decide (x<0)=false:=decide_eq_false h1
      have hcase:k=0∨0<k:=by omega
      rcases hcase with rfl | hk0
      · have HN:=yA (aX HALL.out (show jW l 0=true from by rw [fu HX.out];exact decide_eq_true (by show (-1:Int)<x;omega)))
        have x0':wr.cell? ⟨b,o,none⟩=some (.int .i64 x):=x0;clear h1;go_wp2_with fail
        go_quiet (fail)
        go_wp2_with fail
        go_roundw
        case rel=>exact yA ⟨1,by go_num,by omega,HN.out,below_drewN HBW.out _⟩
        case measure=>simp [intOf];omega
      · obtain ⟨y,hy⟩:∃ y,l[k - 1]?=some y:=⟨l[k - 1]'(by rw [HL.out];omega),yC _⟩
        have y0:wr.cell? ⟨b,o+(k - 1),none⟩=some (.int .i64 y):=by
         refine HCL.out (k - 1) (.int .i64 y) ?_;have h1:=cq aP 1 (fun _=>rfl) l (k - 1) y hy 0 (by omega);rw [show (k - 1)*1+0=k - 1 by omega] at h1;exact h1.trans rfl
        have b2:decide (0<k)=true:=by simp [hk0]
        have HPV:=yA (show gn l k=y from by
         obtain ⟨m,rfl⟩:∃ m,k=m+1:=⟨k - 1,by omega⟩;simp only [Nat.add_sub_cancel] at hy;simp [gn,List.getD,hy])
        clear hy;by_cases h2:x≤y
        · have HF:=yA (nC HX.out (by rw [HPV.out];exact h2))
          have b3:decide (x≤y)=true:=decide_eq_true h2;clear h1 h2;go_wp2_with fail
          go_quiet (fail)
          go_wp2_with fail
          go_ret
          exact ⟨by rw [HF.out];rfl,below_drewN HBW.out _⟩
        · have HN:=yA (aX HALL.out (show jW l k=true from by rw [fu HX.out];exact decide_eq_true (by rw [HPV.out];omega)))
          have b3:decide (x≤y)=false:=decide_eq_false h2;clear h1 h2;go_wp2_with fail
          go_quiet (fail)
          go_wp2_with fail
          go_roundw
          case rel=>exact yA ⟨k+1,by go_num,by omega,HN.out,below_drewN HBW.out _⟩
          case measure=>simp [intOf];omega
  · obtain rfl:n=k:=by omega
    have HF:=yA (show jX l=true from aU (fun j hj=>HALL.out j (by rw [HL.out] at hj;exact hj)));go_wp2_with fail
    go_ret
    exact ⟨by rw [HF.out];rfl,HBW.out⟩
theorem mo (w:World) (rows cols:Int) (eo po:Option Addr) (n c q d:Nat) (l:List ab) (ps:List ag) (hg:aQ rows cols l=true) (hl:l.length=n) (hr:RdC w eo (cellsOf ab.cells l)) (hn:n≤9007199254740992)
 (hp:ps.length=q) (hpr:RdC w po (cellsOf ag.cells ps)) (hq:q≤9007199254740992) :
 Calls Tryz.prog 180 #[.agg #[.int .i64 rows,.int .i64 cols,.slice eo n c],.slice po q d] w fun e w'=>e = .returned (.bool (cw l ps))∧Below w.heap.size w w':=by
 have HP:=yA hp;have HPR:=yA hpr;have HL:=yA hl;have HR:=yA hr;have HG:=yA hg;clear hl hr hp hpr hg;have HW:=yA (bV.begin w rows cols (.slice eo n c));go_enter Tryz.func180,Tryz.ntmps180
 go_wp2_with fail
 generalize w.alloc (.cells #[.int .i64 rows,.int .i64 cols,.slice eo n c] 28)=W at *;have HHE:=yA (show ∃ H0,w.heap.size=H0 from ⟨_,rfl⟩);obtain ⟨H0,hH0⟩:=HHE.out;rw [hH0] at HW;rw [hH0];have HH:=yA hH0;clear hH0 HHE;go_loopw [5] (fun i wr=>Hid (∃ k:Nat,i = .int .i64 k∧k≤q∧(∀ j,j<k→cW l ps j=true)∧bV w rows cols (.slice eo n c) H0 wr)) (fun i _=>q - (intOf i).toNat)
 case atStart=>exact yA ⟨0,rfl,yQ _,bB,HW.out⟩
 case round=>
  obtain ⟨k,rfl,hk,hall,hrel1⟩:=hrel.out;clear hrel;have HR1:=yA hrel1;have HALL:=yA hall;clear hrel1 hall;by_cases hlt:k<q
  · obtain ⟨x,hx⟩:∃ x,ps[k]?=some x:=⟨ps[k]'(by rw [HP.out];exact hlt),yC _⟩
    obtain ⟨b,o,rfl,_⟩:=HPR.out.place (by rw [cellsOf_length _ 2 ag.cells_length,HP.out];omega);have HX:=yA hx;have HBAD:=yA (fun h=>gS (es:=l) HX.out h);have HEQ:=yA (gD (es:=l) HX.out);have HIN:=yA (cV HG.out x.r x.c);have HEI:=yA (og HG.out x.r x.c);clear hx;go_wp2_with fail
    go_loopw [6,7] (fun v i wr=>Hid (∃ j:Nat,v = .bool (bz l x.r x.c j)∧i = .int .i64 j∧j≤n∧bV w rows cols (.slice eo n c) H0 wr)) (fun _ i _=>n - (intOf i).toNat)
    case atStart=>exact yA ⟨0,by rw [jy],rfl,yQ _,HR1.out⟩
    case round=>
     obtain ⟨j,rfl,rfl,hj,hrel1⟩:=hrel.out;clear hrel;obtain ⟨g0,g1,g2,gf⟩:=cells3 hrel1.g;have HR2:=yA hrel1;clear hrel1 g0 g1 gf;by_cases hjn:j<n
     · obtain ⟨y,hy⟩:∃ y,l[j]?=some y:=⟨l[j]'(by rw [HL.out];exact hjn),yC _⟩
       obtain ⟨b2,o2,rfl,_⟩:=HR.out.place (by rw [cellsOf_length _ 3 ab.cells_length,HL.out];omega);have hkb:=Keep.of_below HR2.out.below (yB _) (fun _=>False);obtain ⟨y0,y1,y2⟩:=cH (HR.out.keep hkb (fun _ _ _=>id)) hy;obtain ⟨x0,x1⟩:=bi (HPR.out.keep hkb (fun _ _ _=>id)) HX.out;have HSU:=yA (jz (r:=x.r) (c:=x.c) hy);clear hy hkb;cases heu:bz l x.r x.c j with
       | true=>
         have HNX:=yA (show bz l x.r x.c (j+1)=true by rw [HSU.out,heu];rfl);clear heu;go_wp2_with fail
         go_quiet (fail)
         go_wp2_with fail
         go_roundw
         case rel=>exact yA ⟨j+1,by rw [HNX.out],by go_num,by omega,HR2.out.drewN _⟩
         case measure=>simp [intOf];omega
       | false=>
         by_cases h1:y.r=x.r
         · by_cases h2:y.c=x.c
           · have HNX:=yA (show bz l x.r x.c (j+1)=true by rw [HSU.out,heu,isE,decide_eq_true ⟨h1,h2⟩];rfl)
             have b1:(y.r==x.r)=true:=by simp [h1]
             have b2:(y.c==x.c)=true:=by simp [h2]
             clear heu h1 h2;go_wp2_with fail
             go_quiet (fail)
             go_wp2_with fail
             go_roundw
             case rel=>exact yA ⟨j+1,by rw [HNX.out],by go_num,by omega,HR2.out.drewN _⟩
             case measure=>simp [intOf];omega
           · have HNX:=yA (show bz l x.r x.c (j+1)=false by rw [HSU.out,heu,isE,decide_eq_false (fun h=>h2 h.2)];rfl)
             have b1:(y.r==x.r)=true:=by simp [h1]
             have b2:(y.c==x.c)=false:=by simp [h2]
             clear heu h1 h2;go_wp2_with fail
             go_quiet (fail)
             go_wp2_with fail
             go_roundw
             case rel=>exact yA ⟨j+1,by rw [HNX.out],by go_num,by omega,HR2.out.drewN _⟩
             case measure=>simp [intOf];omega
         · have HNX:=yA (show bz l x.r x.c (j+1)=false by rw [HSU.out,heu,isE,decide_eq_false (fun h=>h1 h.1)];rfl)
           have b1:(y.r==x.r)=false:=by simp [h1]
           clear heu h1;go_wp2_with fail
           go_quiet (fail)
           go_wp2_with fail
           go_roundw
           case rel=>exact yA ⟨j+1,by rw [HNX.out],by go_num,by omega,HR2.out.drewN _⟩
           case measure=>simp [intOf];omega
     · obtain rfl:n=j:=by omega
       have HEU:=yA (show bz l x.r x.c n=decide (aJ l x.r x.c≠0) by rw [←HEI.out,←kH,HL.out]);obtain ⟨x0,x1⟩:=bi (HPR.out.keep (Keep.of_below HR2.out.below (yB _) (fun _=>False)) (fun _ _ _=>id)) HX.out;by_cases h1:aJ l x.r x.c=0
       · have HF:=yA (HBAD.out (by rw [HEQ.out,h1];simp))
         rw [HEU.out,decide_eq_false (fun h=>h h1)];clear h1;go_wp2_with fail
         go_quiet (fail)
         go_wp2_with fail
         go_ret
         exact ⟨by rw [HF.out];rfl,(HR2.out.drewN _).below⟩
       · have hrow:0≤x.r:=by
          rcases HIN.out with ⟨h0,_⟩ | ⟨_,_,h3,_⟩
          · exact absurd h0 h1
          · exact h3
         have HEQ2:=yA (show cW l ps k=(decide (dX ps k<x.r) && cO ps k x.c) by rw [HEQ.out,decide_eq_true (show aJ l x.r x.c≠0 from h1),Bool.and_true]);rw [HEU.out,decide_eq_true h1]
         have HROW:Hid ((k=0∧dX ps k<x.r)∨(0<k∧∃ y,ps[k - 1]?=some y∧dX ps k=y.r)):=yA (by
          have hcase:k=0∨0<k:=by omega
          rcases hcase with rfl | h
          · exact .inl ⟨rfl,by simp only [dX];omega⟩
          · right
            obtain ⟨y,hy⟩:∃ y,ps[k - 1]?=some y:=⟨ps[k - 1]'(by rw [HP.out];omega),yC _⟩;have:=fM hy;rw [show k - 1+1=k by omega] at this;exact ⟨h,y,hy,this⟩)
         clear h1 HEQ HIN;rcases HROW.out with ⟨h2,h3⟩ | ⟨h2,y,hy,h3⟩
         · have HEQ3:=yA (show cW l ps k=cO ps k x.c by rw [HEQ2.out,decide_eq_true h3,Bool.true_and])
           have b2:decide (0<k)=false:=by simp [h2]
           clear h2 h3 HROW HEQ2;go_wp2_with fail
           go_quiet (fail)
           go_wp2_with fail
           go_loopw [8] (fun i wr=>Hid (∃ j:Nat,i = .int .i64 j∧j≤k∧(∀ (p:Nat) (y:ag),p<j→ps[p]?=some y→y.c≠x.c)∧bV w rows cols (.slice eo n c) H0 wr)) (fun i _=>k - (intOf i).toNat)
           case atStart=>exact yA ⟨0,rfl,yQ _,fun p y h=>absurd h (zz p),HR2.out.drewN _⟩
           case round=>
            obtain ⟨j,rfl,hj,hfree,hrel1⟩:=hrel.out;clear hrel;have HR3:=yA hrel1;have HFR:=yA hfree;clear hrel1 hfree;by_cases hjk:j<k
            · obtain ⟨z,hz⟩:∃ z,ps[j]?=some z:=⟨ps[j]'(by rw [HP.out];omega),yC _⟩
              have hkb:=Keep.of_below HR3.out.below (yB _) (fun _=>False);obtain ⟨z0,z1⟩:=bi (HPR.out.keep hkb (fun _ _ _=>id)) hz;obtain ⟨v0,v1⟩:=bi (HPR.out.keep hkb (fun _ _ _=>id)) HX.out;have HZ:=yA hz;clear hz hkb;by_cases h5:z.c=x.c
              · have HF:=yA (HBAD.out (by rw [HEQ3.out];exact fq hjk HZ.out h5))
                have b5:(z.c==x.c)=true:=by simp [h5]
                clear h5;go_wp2_with fail
                go_quiet (fail)
                go_wp2_with fail
                go_ret
                exact ⟨by rw [HF.out];rfl,(HR3.out.drewN _).below⟩
              · have HA:=yA (show ∀ (p:Nat) (y:ag),p<j+1→ps[p]?=some y→y.c≠x.c from fun p y hp hy=>by
                 rcases yW.1 hp with hp | rfl
                 · exact HFR.out p y hp hy
                 · rw [HZ.out] at hy;cases hy;exact h5)
                have b5:(z.c==x.c)=false:=by simp [h5]
                clear h5;go_wp2_with fail
                go_quiet (fail)
                go_wp2_with fail
                go_roundw
                case rel=>exact yA ⟨j+1,by go_num,by omega,HA.out,HR3.out.drewN _⟩
                case measure=>simp [intOf];omega
            · obtain rfl:k=j:=by omega
              have HA:=yA (aX HALL.out (by rw [HEQ3.out];exact ey HFR.out));go_wp2_with fail
              go_roundw
              case rel=>exact yA ⟨k+1,by go_num,by omega,HA.out,HR3.out⟩
              case measure=>simp [intOf];omega
         · obtain ⟨y0,y1⟩:=bi (HPR.out.keep (Keep.of_below HR2.out.below (yB _) (fun _=>False)) (fun _ _ _=>id)) hy
           have b2:decide (0<k)=true:=by simp [h2]
           by_cases h4:x.r≤y.r
           · have HF:=yA (HBAD.out (by rw [HEQ2.out,h3,decide_eq_false (show ¬ y.r<x.r by omega)];rfl))
             have b4:decide (x.r≤y.r)=true:=decide_eq_true h4;clear h3 hy HROW HEQ2;go_wp2_with fail
             go_quiet (fail)
             go_wp2_with fail
             go_ret
             exact ⟨by rw [HF.out];rfl,(HR2.out.drewN _).below⟩
           · have HEQ3:=yA (show cW l ps k=cO ps k x.c by rw [HEQ2.out,h3,decide_eq_true (show y.r<x.r by omega),Bool.true_and])
             have b4:decide (x.r≤y.r)=false:=decide_eq_false h4;clear h3 h4 hy HROW HEQ2;go_wp2_with fail
             go_quiet (fail)
             go_wp2_with fail
             go_loopw [8] (fun i wr=>Hid (∃ j:Nat,i = .int .i64 j∧j≤k∧(∀ (p:Nat) (y:ag),p<j→ps[p]?=some y→y.c≠x.c)∧bV w rows cols (.slice eo n c) H0 wr)) (fun i _=>k - (intOf i).toNat)
             case atStart=>exact yA ⟨0,rfl,yQ _,fun p y h=>absurd h (zz p),HR2.out.drewN _⟩
             case round=>
              obtain ⟨j,rfl,hj,hfree,hrel1⟩:=hrel.out;clear hrel;have HR3:=yA hrel1;have HFR:=yA hfree;clear hrel1 hfree;by_cases hjk:j<k
              · obtain ⟨z,hz⟩:∃ z,ps[j]?=some z:=⟨ps[j]'(by rw [HP.out];omega),yC _⟩
                have hkb:=Keep.of_below HR3.out.below (yB _) (fun _=>False);obtain ⟨z0,z1⟩:=bi (HPR.out.keep hkb (fun _ _ _=>id)) hz;obtain ⟨v0,v1⟩:=bi (HPR.out.keep hkb (fun _ _ _=>id)) HX.out;have HZ:=yA hz;clear hz hkb;by_cases h5:z.c=x.c
                · have HF:=yA (HBAD.out (by rw [HEQ3.out];exact fq hjk HZ.out h5))
                  have b5:(z.c==x.c)=true:=by simp [h5]
                  clear h5;go_wp2_with fail
                  go_quiet (fail)
                  go_wp2_with fail
                  go_ret
                  exact ⟨by rw [HF.out];rfl,(HR3.out.drewN _).below⟩
                · have HA:=yA (show ∀ (p:Nat) (y:ag),p<j+1→ps[p]?=some y→y.c≠x.c from fun p y hp hy=>by
                   rcases yW.1 hp with hp | rfl
                   · exact HFR.out p y hp hy
                   · rw [HZ.out] at hy;cases hy;exact h5)
                  have b5:(z.c==x.c)=false:=by simp [h5]
                  clear h5;go_wp2_with fail
                  go_quiet (fail)
                  go_wp2_with fail
                  go_roundw
                  case rel=>exact yA ⟨j+1,by go_num,by omega,HA.out,HR3.out.drewN _⟩
                  case measure=>simp [intOf];omega
              · obtain rfl:k=j:=by omega
                have HA:=yA (aX HALL.out (by rw [HEQ3.out];exact ey HFR.out));go_wp2_with fail
                go_roundw
                case rel=>exact yA ⟨k+1,by go_num,by omega,HA.out,HR3.out⟩
                case measure=>simp [intOf];omega
  · obtain rfl:q=k:=by omega
    have HF:=yA (show cw l ps=true from aU (fun j hj=>HALL.out j (by rw [HP.out] at hj;exact hj)));go_wp2_with fail
    go_ret
    exact ⟨by rw [HF.out];rfl,HR1.out.below⟩
def ib (ws:List ad):List Int:=ws.map (·.number)
def iK (ds:List ak):List Int:=ds.map (·.number)
theorem tE {ws:List ad} {k:Nat} {x:ad} (hx:ws[k]?=some x):(ib ws)[k]?=some x.number:=by simp [ib,hx]
theorem tF {ds:List ak} {k:Nat} {x:ak} (hx:ds[k]?=some x):(iK ds)[k]?=some x.number:=by simp [iK,hx]
theorem yi {ws:List ad}:∀ (k:Nat),k≤ws.length→gn (ib ws) k=ir ws k
 | 0,_=>rfl
 | k+1,h=>by
   have hx:ws[k]?=some ws[k]:=yC (by omega);rw [gT hx];simp [gn,List.getD,tE hx]
theorem yj {ds:List ak}:∀ (k:Nat),k≤ds.length→gn (iK ds) k=iu ds k
 | 0,_=>rfl
 | k+1,h=>by
   have hx:ds[k]?=some ds[k]:=yC (by omega);rw [gU hx];simp [gn,List.getD,tF hx]
theorem jh {n:Nat} {f:Nat→Bool}:c6 n f=true↔∀ j,j<n→f j=true:=⟨fun h j hj=>dR h hj,fun h=>aU h⟩
theorem sK {x:aF} (hs:∀ (k:Nat) (y:ad),x.ws[k]?=some y→0≤y.since∧y.since≤x.tick):dI x=jX (ib x.ws):=by
 rw [Bool.eq_iff_iff];unfold dI jX;rw [jh,jh,show (ib x.ws).length=x.ws.length by simp [ib]];refine forall_congr' fun k=>imp_congr_right fun hk=>?_
 have hx:x.ws[k]?=some x.ws[k]:=yC hk;have h1:=hs k _ hx;rw [dO hx,fu (tE hx),yi k (by omega)];simp only [decide_eq_true_eq];constructor
 · intro h;omega
 · intro h;omega
theorem sL {x:aF}:dY x=jX (iK x.ds):=by
 rw [Bool.eq_iff_iff];unfold dY jX;rw [jh,jh,show (iK x.ds).length=x.ds.length by simp [iK]];refine forall_congr' fun k=>imp_congr_right fun hk=>?_
 have hx:x.ds[k]?=some x.ds[k]:=yC hk;rw [fp hx,fu (tF hx),yj k (by omega)]
structure iL (w:World) (v:RV) (H0:Nat) (sv:Value) (l:List Int) (wr:World):Prop where
 rb:ee w v H0 wr
 own:Own wr 1 sv l.length (cellsOf aP l)
 new:∀ b,sv.ownBlock=some b→H0<b
theorem iL.keepX {w:World} {v:RV} {H0:Nat} {sv:Value} {l:List Int} {wr w':World} {X:Nat→Prop} (h:iL w v H0 sv l wr) (hH:w.heap.size=H0) (hk:Keep X wr w') (hx:∀ k,X k→H0<k∧sv.ownBlock≠some k):iL w v H0 sv l w':=
 ⟨⟨hk.old h.rb.g (fun e=>by have:=(hx _ e).1;omega),h.rb.below.trans (hk.below h.rb.below.size (fun i hi e=>by have:=(hx _ e).1;omega))⟩,h.own.keep hk (fun b e hX=>(hx b hX).2 e),h.new⟩
theorem iL.push {w:World} {v:RV} {H0:Nat} {sv:Value} {l:List Int} {wr w5:World} {x:Int} {g cap:Nat} (h:iL w v H0 sv l wr) (hH:w.heap.size=H0) {o:Obj} (ho:Own w5 1 (.slice (some ⟨g,0,none⟩) (l.length+1) cap) (l.length+1) (cellsOf aP l++aP x))
 (hc:(sv.ownBlock=some g∧Keep (fun k=>sv.ownBlock=some k) (wr.alloc o) w5)∨(wr.heap.size+1≤g∧Keep (fun _=>False) (wr.alloc o) w5)):iL w v H0 (.slice (some ⟨g,0,none⟩) (l.length+1) cap) (l++[x]) w5:=by
 have hk:Keep (fun k=>sv.ownBlock=some k) wr w5:=by
  rcases hc with ⟨_,h1⟩ | ⟨_,h1⟩
  · exact (Keep.alloc (fun _=>False) wr o).trans h1 (fun _ _ h=>h.elim) (fun _ _ h=>h)
  · exact (Keep.alloc (fun _=>False) wr o).trans h1 (fun _ _ h=>h.elim) (fun _ _ h=>h.elim)
 have hs:=lt_of_block h.rb.g;refine ⟨⟨hk.old h.rb.g (fun e=>by have:=h.new _ e;omega),h.rb.below.trans (hk.below h.rb.below.size (fun i hi e=>by have:=h.new _ e;omega))⟩,?_,fun b e=>?_⟩
 · rw [List.length_append]
   simpa [cellsOf] using ho
 · have e':g=b:=by simpa [Value.ownBlock] using e
   subst e';rcases hc with ⟨h1,_⟩ | ⟨h1,_⟩
   · exact h.new _ h1
   · omega
theorem sM (w:World) (v:RV) (hin:v.In w):Calls Tryz.prog 152 #[.agg #[.int .i64 v.x.tick,.slice v.wo v.wn v.wc,.slice v.ko v.kn v.kc,.int .i64 v.x.rows,.int .i64 v.x.cols,.slice v.eo v.en v.ec,.slice v.po v.pn v.pc,.slice v.yo v.yn v.yc,.slice v.zo v.zn v.zc]] w fun e w'=>e = .returned (.int .i64 (bw v.x))∧Below w.heap.size w w':=by
 have HIN:=yA hin;have wb:=hin.wb;have kb:=hin.kb;have eb:=hin.eb;have pb:=hin.pb;have yb:=hin.yb;have zb:=hin.zb;clear hin;have HW:=yA (ee.begin w v);have hcase:(v.x.tick<1∨(1≤v.x.tick∧1099511627776<v.x.tick)∨(1≤v.x.tick∧v.x.tick≤1099511627776∧64<v.wn)∨(1≤v.x.tick∧v.x.tick≤1099511627776∧v.wn≤64∧64<v.kn))∨(1≤v.x.tick∧v.x.tick≤1099511627776∧v.wn≤64∧v.kn≤64):=by omega
 rcases hcase with h | ⟨c1,c2,c3,c4⟩
 · have HF:=yA (rQ (x:=v.x) (decide_eq_false (by rw [HIN.out.wl,HIN.out.kl];omega)))
   rcases h with c1 | ⟨c1,c2⟩ | ⟨c1,c2,c3⟩ | ⟨c1,c2,c3,c4⟩
   all_goals
    go_enter Tryz.func152,Tryz.ntmps152
    go_wp2_with fail
    all_goals
     go_ret
     exact ⟨by rw [HF.out];rfl,HW.out.below⟩
 have HS1:=yA (show et v.x=true from decide_eq_true (by rw [HIN.out.wl,HIN.out.kl];omega));go_enter Tryz.func152,Tryz.ntmps152
 go_wp2_with fail
 generalize w.alloc (.cells #[.int .i64 v.x.tick,.slice v.wo v.wn v.wc,.slice v.ko v.kn v.kc,.int .i64 v.x.rows,.int .i64 v.x.cols,.slice v.eo v.en v.ec,.slice v.po v.pn v.pc,.slice v.yo v.yn v.yc,.slice v.zo v.zn v.zc] 34)=W at *;have HHE:=yA (show ∃ H0,w.heap.size=H0 from ⟨_,rfl⟩);obtain ⟨H0,hH0⟩:=HHE.out;rw [hH0] at HW;rw [hH0];have HH:=yA hH0;clear hH0 HHE;go_loopw [3,5] (fun a i wr=>Hid (∃ k:Nat,i = .int .i64 k∧k≤v.wn∧(∀ (j:Nat) (y:ad),j<k→v.x.ws[j]?=some y→0≤y.since∧y.since≤v.x.tick)∧iL w v H0 a (ib (v.x.ws.take k)) wr)) (fun _ i _=>v.wn - (intOf i).toNat)
 case atStart=>exact yA ⟨0,rfl,yQ _,(fun j y h=>absurd h (zz j)),HW.out,by simpa [cellsOf,ib] using Own.nil _ 1,by simp [Value.ownBlock]⟩
 case round=>
  obtain ⟨k,rfl,hk,hall,hrel1⟩:=hrel.out;clear hrel;obtain ⟨g0,g1,g2,g3,g4,g5,g6,g7,g8⟩:=cells9 hrel1.rb.g;have hs0:H0<wr.heap.size:=lt_of_block hrel1.rb.g;have HR1:=yA hrel1;have HALL:=yA hall;clear hrel1 hall;by_cases hlt:k<v.wn
  · obtain ⟨x,hx⟩:∃ x,v.x.ws[k]?=some x:=⟨v.x.ws[k]'(by rw [HIN.out.wl];exact hlt),yC _⟩
    obtain ⟨b,o,hbo,_⟩:=HIN.out.wr.place (by rw [cellsOf_length _ 18 ad.cells_length,HIN.out.wl];omega);have hrd:=HIN.out.wr.keep (Keep.of_below HR1.out.rb.below (yB _) (fun _=>False)) (fun _ _ _=>id);rw [hbo] at hrd;rw [hbo] at g1;have HBO:=yA hbo;have n0:wr.cell? ⟨b,o+k*18+17,none⟩=some (.int .i64 x.number):=bS hrd hx 17 _ rfl;have HX:=yA hx;have HHR:=yA hrd
    have HLN:=yA (show (ib (v.x.ws.take k)).length=k from by
     have:=HIN.out.wl;simp only [ib,zy,yY];omega)
    have HNEXT:=yA (show ib (v.x.ws.take (k+1))=ib (v.x.ws.take k)++[x.number] from by
     have h1:=(yD.1 hx);obtain ⟨h2,h3⟩:=h1;simp only [ib];rw [zk h2,h3,List.map_append];rfl)
    clear hx hrd hbo;obtain ⟨i5,hi,hz0,hz1,hz2⟩:=cR fS;have HOWN:=HR1.out.own;rw [HLN.out] at HOWN;have HOW:=yA HOWN;clear HOWN;have HML:=yA (show k+1≤maxLen from by unfold maxLen;omega);have HBYT:=yA (show (k+1)*8≤140737488355328 from by omega);go_wp2_with (at_builtin;refine br rfl (.tmp 34) (.tmp 41) 30 30 rfl 3 i5 (.int .i64 0) 1 8 Tryz.underlying30 hi hz0 hz1 hz2 rfl u3 k _ rfl (HOW.out.keep (Keep.alloc (fun _=>False) _ _) (fun _ _=>id)) (.slice (some ⟨wr.heap.size,0,none⟩) 1 1) 1 (aP x.number) rfl (Src.lit Tryz.underlying30 1 _ rfl (ft _) _ _ rfl) (by omega) HML.out HBYT.out ?_)
    intro gq capq w5 ho5 hc5;have hp:=HR1.out.push (x:=x.number) (g:=gq) (cap:=capq) HH.out (by rw [HLN.out];exact ho5) hc5;rw [HLN.out,←HNEXT.out] at hp;have HN5:=yA hp;clear hp ho5 hc5 g0 g1 g2 g3 g4 g5 g6 g7 g8 hs0 n0;obtain ⟨g0,g1,g2,g3,g4,g5,g6,g7,g8⟩:=cells9 HN5.out.rb.g;have hrd5:=HIN.out.wr.keep (Keep.of_below HN5.out.rb.below (yB _) (fun _=>False)) (fun _ _ _=>id);rw [HBO.out] at hrd5 g1;have s0:w5.cell? ⟨b,o+k*18+16,none⟩=some (.int .i64 x.since):=bS hrd5 HX.out 16 _ rfl;clear hrd5;have hc2:x.since<0∨(0≤x.since∧v.x.tick<x.since)∨(0≤x.since∧x.since≤v.x.tick):=by omega
    have HBAD:=yA (fun h=>o9 HS1.out (jO HX.out h));rcases hc2 with h1 | ⟨h1,h2⟩ | ⟨h1,h2⟩
    · have HF:=yA (HBAD.out (by omega))
      have b1:decide (x.since<0)=true:=decide_eq_true h1;clear h1;go_wp2_with fail
      go_quiet (fail)
      go_wp2_with fail
      go_ret
      exact ⟨by rw [HF.out];rfl,below_drewN HN5.out.rb.below _⟩
    · have HF:=yA (HBAD.out (by omega))
      have b1:decide (x.since<0)=false:=decide_eq_false (by omega);have b2:decide (v.x.tick<x.since)=true:=decide_eq_true h2;clear h1 h2;go_wp2_with fail
      go_quiet (fail)
      go_wp2_with fail
      go_ret
      exact ⟨by rw [HF.out];rfl,below_drewN HN5.out.rb.below _⟩
    · have HA:=yA (show ∀ (j:Nat) (y:ad),j<k+1→v.x.ws[j]?=some y→0≤y.since∧y.since≤v.x.tick from fun j y hj hy=>by
       rcases yW.1 hj with hj | rfl
       · exact HALL.out j y hj hy
       · rw [HX.out] at hy;cases hy;exact ⟨h1,h2⟩)
      have b1:decide (x.since<0)=false:=decide_eq_false (by omega);have b2:decide (v.x.tick<x.since)=false:=decide_eq_false (by omega);clear h1 h2;go_wp2_with fail
      go_quiet (fail)
      go_wp2_with fail
      go_roundw
      case rel=>exact yA ⟨k+1,by go_num,by omega,HA.out,HN5.out.keepX HH.out (X:=fun _=>False) ⟨rfl,rfl,rfl,yB _,fun _ _ _=>rfl⟩ (fun _ h=>h.elim)⟩
      case measure=>simp [intOf];omega
  · obtain rfl:v.wn=k:=by omega
    have HWR:=yA (sK (x:=v.x) (fun j y hy=>HALL.out j y (by have:=(yD.1 hy).1;rw [HIN.out.wl] at this;exact this) hy))
    have HRW:=yA (show iL w v H0 u3 (ib v.x.ws) wr from by
     have:=HR1.out;rwa [zh (by rw [HIN.out.wl];exact yB _)] at this)
    clear HALL hlt hk HR1;obtain ⟨ao1,cp1,rfl,hrd1,_⟩:=fY HRW.out.own (fun b e=>Nat.succ_le_of_lt (HRW.out.new b e));have HLW:=yA (show (ib v.x.ws).length=v.wn from by have:=HIN.out.wl;simpa [ib] using this);rw [HLW.out] at HRW ⊢;clear hrd1;go_wp2_with fail
    go_loopw [4,6] (fun a i wx=>Hid (∃ k:Nat,i = .int .i64 k∧k≤v.kn∧iL w v H0 (.slice ao1 v.wn cp1) (ib v.x.ws) wx∧iL w v H0 a (iK (v.x.ds.take k)) wx∧∀ b,a.ownBlock=some b→(Value.slice ao1 v.wn cp1).ownBlock≠some b)) (fun _ i _=>v.kn - (intOf i).toNat)
    case atStart=>exact yA ⟨0,rfl,yQ _,HRW.out,⟨HRW.out.rb,by simpa [cellsOf,iK] using Own.nil _ 1,by simp [Value.ownBlock]⟩,by simp [Value.ownBlock]⟩
    case round=>
     clear g0 g1 g2 g3 g4 g5 g6 g7 g8 hs0 HRW;obtain ⟨k,rfl,hk,hrw,hrel2,hap⟩:=hrel.out;clear hrel;obtain ⟨g0,g1,g2,g3,g4,g5,g6,g7,g8⟩:=cells9 hrel2.rb.g;have HRW:=yA hrw;have HR2:=yA hrel2;have HAP:=yA hap;clear hrw hrel2 hap;by_cases hlt:k<v.kn
     · obtain ⟨x,hx⟩:∃ x,v.x.ds[k]?=some x:=⟨v.x.ds[k]'(by rw [HIN.out.kl];exact hlt),yC _⟩
       obtain ⟨b,o,hbo,_⟩:=HIN.out.kr.place (by rw [cellsOf_length _ 14 ak.cells_length,HIN.out.kl];omega);have hrd:=HIN.out.kr.keep (Keep.of_below HR2.out.rb.below (yB _) (fun _=>False)) (fun _ _ _=>id);rw [hbo] at hrd g2;have n0:wr.cell? ⟨b,o+k*14+13,none⟩=some (.int .i64 x.number):=bf ak.cells_length hrd hx 13 _ rfl
       have HLN:=yA (show (iK (v.x.ds.take k)).length=k from by
        have:=HIN.out.kl;simp only [iK,zy,yY];omega)
       have HNEXT:=yA (show iK (v.x.ds.take (k+1))=iK (v.x.ds.take k)++[x.number] from by
        obtain ⟨h2,h3⟩:=(yD.1 hx);simp only [iK];rw [zk h2,h3,List.map_append];rfl)
       clear hx hrd hbo;obtain ⟨i5,hi,hz0,hz1,hz2⟩:=cR fS;have HOWN:=HR2.out.own;rw [HLN.out] at HOWN;have HOW:=yA HOWN;clear HOWN;have HML:=yA (show k+1≤maxLen from by unfold maxLen;omega);have HBYT:=yA (show (k+1)*8≤140737488355328 from by omega);go_wp2_with (at_builtin;refine br rfl (.tmp 68) (.tmp 75) 30 30 rfl 3 i5 (.int .i64 0) 1 8 Tryz.underlying30 hi hz0 hz1 hz2 rfl u4 k _ rfl (HOW.out.keep (Keep.alloc (fun _=>False) _ _) (fun _ _=>id)) (.slice (some ⟨wr.heap.size,0,none⟩) 1 1) 1 (aP x.number) rfl (Src.lit Tryz.underlying30 1 _ rfl (ft _) _ _ rfl) (by omega) HML.out HBYT.out ?_)
       intro gq capq w5 ho5 hc5;have hp:=HR2.out.push (x:=x.number) (g:=gq) (cap:=capq) HH.out (by rw [HLN.out];exact ho5) hc5;rw [HLN.out,←HNEXT.out] at hp;have HN5:=yA hp
       have hkq:Keep (fun k=>u4.ownBlock=some k) wr w5:=by
        rcases hc5 with ⟨_,h1⟩ | ⟨_,h1⟩
        · exact (Keep.alloc (fun _=>False) wr _).trans h1 (fun _ _ h=>h.elim) (fun _ _ h=>h)
        · exact (Keep.alloc (fun _=>False) wr _).trans h1 (fun _ _ h=>h.elim) (fun _ _ h=>h.elim)
       have HRW5:=yA (HRW.out.keepX HH.out hkq (fun k e=>⟨HR2.out.new k e,HAP.out k e⟩))
       have HAP5:=yA (show ∀ b,(Value.slice (some ⟨gq,0,none⟩) (k+1) capq).ownBlock=some b→(Value.slice ao1 v.wn cp1).ownBlock≠some b from fun b e=>by
        have e':gq=b:=by simpa [Value.ownBlock] using e
        subst e';rcases hc5 with ⟨h1,_⟩ | ⟨h1,_⟩
        · exact HAP.out _ h1
        · intro h2
          have:=HRW.out.own.lt _ h2;omega)
       clear hp ho5 hc5 hkq g0 g1 g2 g3 g4 g5 g6 g7 g8 n0;go_wp2_with fail
       go_roundw
       case rel=>exact yA ⟨k+1,by go_num,by omega,HRW5.out,HN5.out,HAP5.out⟩
       case measure=>simp [intOf];omega
     · obtain rfl:v.kn=k:=by omega
       have HRD:=yA (show iL w v H0 u4 (iK v.x.ds) wr from by
        have:=HR2.out;rwa [zh (by rw [HIN.out.kl];exact yB _)] at this)
       obtain ⟨ao2,cp2,rfl,hrd2,_⟩:=fY HRD.out.own (fun b e=>Nat.succ_le_of_lt (HRD.out.new b e));have HLD:=yA (show (iK v.x.ds).length=v.kn from by have:=HIN.out.kl;simpa [iK] using this);have HRD2:=yA hrd2
       have HRD1:=yA (show RdC wr ao1 (cellsOf aP (ib v.x.ws)) from by
        obtain ⟨ao',cp',he,h,_⟩:=fY HRW.out.own (N:=0) (fun _ _=>yQ _);have e1:ao1=ao':=by injection he
        rw [e1];exact h)
       have HB2:=yA HR2.out.rb;have HIR:=yA (sL (x:=v.x));rw [HLD.out];clear hlt hk hrd2 HR2 HAP HRD;go_wp2_with fail
       refine (kK wr ao1 v.wn cp1 (ib v.x.ws) HLW.out HRD1.out wb).mono ?_;rintro e w2 ⟨rfl,hb2⟩;have HB3:=yA (HB2.out.keep hb2);have HRD3:=yA (HRD2.out.below hb2);clear hb2 g0 g1 g2 g3 g4 g5 g6 g7 g8;rw [←HWR.out];cases hws:dI v.x with
       | false=>
         have HF:=yA (o9 HS1.out hws);clear hws;go_wp2_with fail
         go_ret
         exact ⟨by rw [HF.out];rfl,HB3.out.below⟩
       | true=>
         have HS2:=yA hws;clear hws;go_wp2_with fail
         refine (kK w2 ao2 v.kn cp2 (iK v.x.ds) HLD.out HRD3.out kb).mono ?_;rintro e w3 ⟨rfl,hb3⟩;have HR2:=yA (HB3.out.keep hb3);clear hb3;rw [←HIR.out];cases hds:dY v.x with
         | false=>
           have HF:=yA (rR HS1.out HS2.out hds);clear hds;go_wp2_with fail
           go_ret
           exact ⟨by rw [HF.out];rfl,HR2.out.below⟩
         | true=>
           have HS3:=yA hds;clear hds;obtain ⟨g0,g1,g2,g3,g4,g5,g6,g7,g8⟩:=cells9 HR2.out.g;have hs0:H0<w3.heap.size:=lt_of_block HR2.out.g;have HIW:=yA (HIN.out.keep HR2.out.below);have HSH:=yA (show dm v.x=(aQ v.x.rows v.x.cols v.x.es && decide (v.x.rows=v.wn) && decide (v.x.cols=v.kn)) by unfold dm;rw [HIN.out.wl,HIN.out.kl]);go_wp2_with fail
           refine (iB w3 v.x.rows v.x.cols v.eo v.en v.ec v.x.es HIW.out.el HIW.out.er (by omega)).mono ?_;rintro e w1 ⟨rfl,hb1⟩;have HR3:=yA (HR2.out.keep hb1);clear hb1 HIW g0 g1 g2 g3 g4 g5 g6 g7 g8 hs0;obtain ⟨g0,g1,g2,g3,g4,g5,g6,g7,g8⟩:=cells9 HR3.out.g;cases hgf:aQ v.x.rows v.x.cols v.x.es with
           | false=>
             have HF:=yA (gV HS1.out HS2.out HS3.out (by rw [HSH.out,hgf];rfl));rw [show aY v.x.rows v.x.cols v.x.es=170 by simp [aY,hgf]];clear hgf;go_wp2_with fail
             go_ret
             exact ⟨by rw [HF.out];rfl,HR3.out.below⟩
           | true=>
             rw [show aY v.x.rows v.x.cols v.x.es=0 by simp [aY,hgf]];rw [hgf] at HSH;have HGF:=yA hgf;clear hgf;by_cases h5:v.x.rows=v.wn
             · by_cases h6:v.x.cols=v.kn
               · have HS4:=yA (show dm v.x=true by rw [HSH.out,decide_eq_true h5,decide_eq_true h6];rfl)
                 have b5:(v.x.rows != (v.wn:Int))=false:=by simp [h5]
                 have b6:(v.x.cols != (v.kn:Int))=false:=by simp [h6]
                 clear h5 h6;go_wp2_with fail
                 have HIW:=yA (HIN.out.keep HR3.out.below)
                 all_goals
                  refine (mo w1 v.x.rows v.x.cols v.eo v.po v.en v.ec v.pn v.pc v.x.es v.x.ps HGF.out HIW.out.el HIW.out.er (by omega) HIW.out.pl HIW.out.pr (by omega)).mono ?_;rintro e w2 ⟨rfl,hb2⟩;have HR4:=yA (HR3.out.keep hb2);clear hb2 HIW g0 g1 g2 g3 g4 g5 g6 g7 g8;obtain ⟨g0,g1,g2,g3,g4,g5,g6,g7,g8⟩:=cells9 HR4.out.g;cases hm:cw v.x.es v.x.ps with
                  | false=>
                    have HF:=yA (rS HS1.out HS2.out HS3.out HS4.out hm);clear hm;go_wp2_with fail
                    go_ret
                    exact ⟨by rw [HF.out];rfl,HR4.out.below⟩
                  | true=>
                    have HS5:=yA hm;clear hm
                    all_goals
                     have HLB:=yA (show bH v.x.rows v.x.cols v.x.ys v.x.zs=(decide ((v.yn:Int)=v.x.rows) && decide ((v.zn:Int)=v.x.cols)) by unfold bH;rw [HIN.out.yl,HIN.out.zl]);by_cases h7:(v.yn:Int)=v.x.rows
                     · have b7:((v.yn:Int) != v.x.rows)=false:=by simp [h7]
                       by_cases h8:(v.zn:Int)=v.x.cols
                       · have HF:=yA (rT HS1.out HS2.out HS3.out HS4.out HS5.out (by rw [HLB.out,decide_eq_true h7,decide_eq_true h8];rfl))
                         have b8:((v.zn:Int) != v.x.cols)=false:=by simp [h8]
                         clear h7 h8;go_wp2_with fail
                         go_ret
                         exact ⟨by rw [HF.out];rfl,HR4.out.below⟩
                       · have HF:=yA (la HS1.out HS2.out HS3.out HS4.out HS5.out (by rw [HLB.out,decide_eq_false h8];simp))
                         have b8:((v.zn:Int) != v.x.cols)=true:=by simp [h8]
                         clear h7 h8;go_wp2_with fail
                         go_ret
                         exact ⟨by rw [HF.out];rfl,HR4.out.below⟩
                     · have HF:=yA (la HS1.out HS2.out HS3.out HS4.out HS5.out (by rw [HLB.out,decide_eq_false h7];simp))
                       have b7:((v.yn:Int) != v.x.rows)=true:=by simp [h7]
                       clear h7;go_wp2_with fail
                       go_ret
                       exact ⟨by rw [HF.out];rfl,HR4.out.below⟩
               · have HF:=yA (gV HS1.out HS2.out HS3.out (by rw [HSH.out,decide_eq_false h6];simp))
                 have b5:(v.x.rows != (v.wn:Int))=false:=by simp [h5]
                 have b6:(v.x.cols != (v.kn:Int))=true:=by simp [h6]
                 clear h5 h6;go_wp2_with fail
                 go_ret
                 exact ⟨by rw [HF.out];rfl,HR3.out.below⟩
             · have HF:=yA (gV HS1.out HS2.out HS3.out (by rw [HSH.out,decide_eq_false h5];simp))
               have b5:(v.x.rows != (v.wn:Int))=true:=by simp [h5]
               clear h5;go_wp2_with fail
               go_ret
               exact ⟨by rw [HF.out];rfl,HR3.out.below⟩
def yk (w:World) (l:List Int) (e:Ending) (w':World):Prop:=
 Below w.heap.size w w'∧∃ (c:ae) (ok:Bool),e = .returned (.tuple #[.agg #[.int .i64 c.q,.int .i64 c.d,.int .i64 c.w,.int .i64 c.ttl,.int .i64 c.b],.bool ok])∧(ok=true↔eT l=some (c,[])∧al c=0)∧(ok=false→∀ x,eT l=some (x,[])→al x≠0)
theorem oH (w:World) (ao:Option Addr) (n cap:Nat) (l:List Int) (G:Nat) (hn:l.length=n) (hr:RdC w ao (cellsOf ai l)) (hb:Byt l) (hc:n≤cap) (hm:n≤1000000000) (hG:∀ a,ao=some a→a.block=G) (hGl:G<w.heap.size) :
 Calls Tryz.prog 114 #[.slice ao n cap] w (yk w l):=by
 have hb0:=(yH w.heap.size w).alloc (yB _) (.cells #[.int .i64 0,.int .i64 0,.int .i64 0,.int .i64 0,.int .i64 0] 23);have HT0:=yA (yE w (.cells #[.int .i64 0,.int .i64 0,.int .i64 0,.int .i64 0,.int .i64 0] 23));have HB0:=yA hb0;have HG:=yA (GR.new (w.alloc (.cells #[.int .i64 0,.int .i64 0,.int .i64 0,.int .i64 0,.int .i64 0] 23)) ao n cap l G hn (hr.below hb0) hb hc hm hG (Nat.lt_of_lt_of_le hGl hb0.size));obtain ⟨B,hB⟩:∃ B,w.heap.size=B:=⟨_,rfl⟩;have hs:(w.alloc (.cells #[.int .i64 0,.int .i64 0,.int .i64 0,.int .i64 0,.int .i64 0] 23)).heap.size=B+1:=by simp [hB]
 rw [hs] at HG;rw [hB] at HT0;have HBE:=yA hB;clear hn hr hb hG hGl hb0;go_enter Tryz.func114,Tryz.ntmps114
 go_upto_region 2 with fail
 clear hs hB;have HK0:=yA (Keep.alloc (fun _=>False) (w.alloc (.cells #[.int .i64 0,.int .i64 0,.int .i64 0,.int .i64 0,.int .i64 0] 23)) (.cells #[.slice ao n cap,.int .i64 0,.bool false] 219));have HT1:=yA (HK0.out.old HT0.out id);have HB1:=yA (HB0.out.trans (HK0.out.below HB0.out.size (fun _ _ h=>h)));clear HT0 HB0 HK0;generalize (w.alloc (.cells #[.int .i64 0,.int .i64 0,.int .i64 0,.int .i64 0,.int .i64 0] 23)).alloc (.cells #[.slice ao n cap,.int .i64 0,.bool false] 219)=w0 at *;have HG0:=HG;clear HG;have HT0:=HT1;clear HT1;have HB0:=HB1;clear HB1;go_wp2_with fail
 refine (bL w0 (B+1) G (some l) HG0.out cj (by decide)).mono ?_;rintro e w1 ⟨x0,rfl,hx,s1,hg,hst,hk⟩;have HX0:=yA hx;have HG1:=yA hg;have HST1:=yA hst;have HT1:=yA (hk.old HT0.out (by omega));have HB1:=yA (HB0.out.trans (hk.below HB0.out.size (fun k hk he=>by have:=HBE.out;omega)));clear hx hg hst hk HG0 HT0 HB0;go_wp2_with fail
 refine (bL w1 (B+1) G s1 HG1.out cj (by decide)).mono ?_;rintro e w2 ⟨x1,rfl,hx,s2,hg,hst,hk⟩;have HX1:=yA hx;have HG2:=yA hg;have HST2:=yA hst;have HT2:=yA (hk.old HT1.out (by omega));have HB2:=yA (HB1.out.trans (hk.below HB1.out.size (fun k hk he=>by have:=HBE.out;omega)));clear hx hg hst hk HG1 HT1 HB1;go_wp2_with fail
 refine (bL w2 (B+1) G s2 HG2.out cj (by decide)).mono ?_;rintro e w3 ⟨x2,rfl,hx,s3,hg,hst,hk⟩;have HX2:=yA hx;have HG3:=yA hg;have HST3:=yA hst;have HT3:=yA (hk.old HT2.out (by omega));have HB3:=yA (HB2.out.trans (hk.below HB2.out.size (fun k hk he=>by have:=HBE.out;omega)));clear hx hg hst hk HG2 HT2 HB2;go_wp2_with fail
 refine (bL w3 (B+1) G s3 HG3.out cj (by decide)).mono ?_;rintro e w4 ⟨x3,rfl,hx,s4,hg,hst,hk⟩;have HX3:=yA hx;have HG4:=yA hg;have HST4:=yA hst;have HT4:=yA (hk.old HT3.out (by omega));have HB4:=yA (HB3.out.trans (hk.below HB3.out.size (fun k hk he=>by have:=HBE.out;omega)));clear hx hg hst hk HG3 HT3 HB3;go_wp2_with fail
 refine (bL w4 (B+1) G s4 HG4.out cj (by decide)).mono ?_;rintro e w5 ⟨x4,rfl,hx,s5,hg,hst,hk⟩;have HX4:=yA hx;have HG5:=yA hg;have HST5:=yA hst;have HT5:=yA (hk.old HT4.out (by omega));have HB5:=yA (HB4.out.trans (hk.below HB4.out.size (fun k hk he=>by have:=HBE.out;omega)));clear hx hg hst hk HG4 HT4 HB4;go_upto_region 7 with (first | ((with_reducible refine ah (o:=⟨none,.store 23 (.tmp 9) (.tmp 28),_,_,_,_⟩) ?_ 23 (.tmp 9) (.tmp 28) ?_ _ #[.int .i64 (⟨x0,x1,x2,x3,x4⟩:ae).q,.int .i64 (⟨x0,x1,x2,x3,x4⟩:ae).d,.int .i64 (⟨x0,x1,x2,x3,x4⟩:ae).w,.int .i64 (⟨x0,x1,x2,x3,x4⟩:ae).ttl,.int .i64 (⟨x0,x1,x2,x3,x4⟩:ae).b] ?_ ?_ (⟨x0,x1,x2,x3,x4⟩:ae).cells ?_ ?_ ?_ (⟨x0,x1,x2,x3,x4⟩:ae).cells_one ?_);rfl;rfl;rfl;rfl;rfl;exact aE;rfl))
 have HSTC:=yA (show Step eT (some l) s5 (⟨x0,x1,x2,x3,x4⟩:ae) from (((((((Step.rep0 (ce cj) (some l)).rep1 HST1.out).rep1 HST2.out).rep1 HST3.out).rep1 HST4.out).rep1 HST5.out).map (fun xs:List Int=>(⟨xs.getD 0 0,xs.getD 1 0,xs.getD 2 0,xs.getD 3 0,xs.getD 4 0⟩:ae)) eT (fun l=>rfl)));have HKW:=yA (Keep.alloc (fun _=>False) w5 (.cells #[.int .i64 x0,.int .i64 x1,.int .i64 x2,.int .i64 x3,.int .i64 x4] 23));have HGW:=yA (HG5.out.keep HKW.out id id);have HTW:=yA (HKW.out.old HT5.out id);have HBW:=yA (HB5.out.trans (HKW.out.below HB5.out.size (fun _ _ h=>h)));have HCW:=yA (yE w5 (.cells #[.int .i64 x0,.int .i64 x1,.int .i64 x2,.int .i64 x3,.int .i64 x4] 23));clear HG5 HT5 HB5 HKW HST1 HST2 HST3 HST4 HST5;obtain ⟨CB,hCB⟩:∃ CB,w5.heap.size=CB:=⟨_,rfl⟩;rw [hCB] at HCW;try rw [hCB]
 clear hCB;generalize w5.alloc (.cells #[.int .i64 x0,.int .i64 x1,.int .i64 x2,.int .i64 x3,.int .i64 x4] 23)=W at *;have HCC:=yA (fun (j:Nat) (u:Value) (hu:(ae.cells ⟨x0,x1,x2,x3,x4⟩)[j]?=some u)=>show W.cell? ⟨CB,0+j,none⟩=some u from by rw [Nat.zero_add,cell_of_row _ _ _ _ _ (0,0) HCW.out,←hu];simp [ae.cells]);cases s5 with
 | none=>
   have HNO:=yA (show ∀ x,eT l=some (x,[])→al x≠0 from fun x hx=>by
    have h1:=HSTC.out.1;simp only [Option.bind_some,hx] at h1;cases h1)
   go_wp2_with fail
   refine (bK W (B+1) G none HGW.out).mono ?_;rintro e w6 ⟨rfl,rfl⟩;have HTH:=yA (show w6.there B 0 (#[.int .i64 0,.int .i64 0,.int .i64 0,.int .i64 0,.int .i64 0]:Array Value).size from aw HTW.out (yB 5));have szc:(Tryz.prog.info? 23).map (·.size)=some (#[.int .i64 0,.int .i64 0,.int .i64 0,.int .i64 0,.int .i64 0]:Array Value).size:=aE
   go_wp2_with (first | ((with_reducible refine ze (op:=⟨none,.store 23 (.tmp 2) (.tmp 45),_,_,_,_⟩) ?_ 23 (.tmp 2) (.tmp 45) ?_ B 0 #[.int .i64 0,.int .i64 0,.int .i64 0,.int .i64 0,.int .i64 0] ?_ ?_ HTH.out szc ?_ ?_);rfl;rfl;rfl;rfl;exact yU (dy ⟨0,0,0,0,0⟩)))
   exact yS (v:=.tuple #[.agg #[.int .i64 0,.int .i64 0,.int .i64 0,.int .i64 0,.int .i64 0],.bool false]) (results_cell_tmp 2 3 23 Tryz.results114 B rfl _ rfl (ae.cells ⟨0,0,0,0,0⟩) _ rfl _ (yJ w6 B 0 (ae.cells ⟨0,0,0,0,0⟩) HTH.out) Tryz.underlying23 rfl aE) rfl ⟨HBW.out.trans ((Keep.setCells w6 B 0 _).below (by have:=HBW.out.size;have:=HBE.out;omega) (fun i hi he=>by have:=HBE.out;omega)),⟨0,0,0,0,0⟩,false,rfl,⟨fun h=>(by cases h),fun h=>absurd h.2 (HNO.out _ h.1)⟩,fun _=>HNO.out⟩
 | some r=>
   go_wp2_with fail
   refine (bK W (B+1) G (some r) HGW.out).mono ?_;rintro e w6 ⟨rfl,rfl⟩
   have HRA:=yA (show ∃ ao' c',nT w6 (B+1) ao' r.length c' 0 false from by
    obtain ⟨t,wide,h1,h2,⟨l',h3,rfl,rfl⟩ | ⟨h3,_⟩⟩:=HGW.out
    · cases h3
      obtain ⟨ao',c',h4,_⟩:=h1;exact ⟨ao',c',h4⟩
    · cases h3)
   obtain ⟨ao',c',hra⟩:=HRA.out;obtain ⟨g0,g1,g2,gf⟩:=cells3 hra;clear hra HRA
   have HVAL:=yA (show eT l=some ((⟨x0,x1,x2,x3,x4⟩:ae),r) from by
    have h1:=HSTC.out.1;have h2:=HSTC.out.2;simp only [Option.bind_some] at h1 h2;cases hv:eT l with
    | none=>rw [hv] at h1;cases h1
    | some y=>
      obtain ⟨y,r'⟩:=y;rw [hv] at h1;have:=h2 y r' hv;simp at h1;rw [this,h1])
   cases r with
   | cons z r=>
     have b1:decide ((0:Int)<(((z::r).length:Nat):Int))=true:=decide_eq_true (by rw [List.length_cons];omega);have b1':decide (0<(z::r).length)=true:=decide_eq_true (by simp);have HNO:=yA (show ∀ x,eT l=some (x,[])→al x≠0 from fun x hx=>by rw [HVAL.out] at hx;cases hx);obtain ⟨k,hk⟩:∃ k,(z::r).length=k:=⟨_,rfl⟩;rw [hk] at g0 b1 b1';clear hk;have HTH:=yA (show w6.there B 0 (#[.int .i64 0,.int .i64 0,.int .i64 0,.int .i64 0,.int .i64 0]:Array Value).size from aw HTW.out (yB 5));have szc:(Tryz.prog.info? 23).map (·.size)=some (#[.int .i64 0,.int .i64 0,.int .i64 0,.int .i64 0,.int .i64 0]:Array Value).size:=aE
     go_wp2_with (first | ((with_reducible refine ze (op:=⟨none,.store 23 (.tmp 2) (.tmp 45),_,_,_,_⟩) ?_ 23 (.tmp 2) (.tmp 45) ?_ B 0 #[.int .i64 0,.int .i64 0,.int .i64 0,.int .i64 0,.int .i64 0] ?_ ?_ HTH.out szc ?_ ?_);rfl;rfl;rfl;rfl;exact yU (dy ⟨0,0,0,0,0⟩)))
     exact yS (v:=.tuple #[.agg #[.int .i64 0,.int .i64 0,.int .i64 0,.int .i64 0,.int .i64 0],.bool false]) (results_cell_tmp 2 3 23 Tryz.results114 B rfl _ rfl (ae.cells ⟨0,0,0,0,0⟩) _ rfl _ (yJ w6 B 0 (ae.cells ⟨0,0,0,0,0⟩) HTH.out) Tryz.underlying23 rfl aE) rfl ⟨HBW.out.trans ((Keep.setCells w6 B 0 _).below (by have:=HBW.out.size;have:=HBE.out;omega) (fun i hi he=>by have:=HBE.out;omega)),⟨0,0,0,0,0⟩,false,rfl,⟨fun h=>(by cases h),fun h=>absurd h.2 (HNO.out _ h.1)⟩,fun _=>HNO.out⟩
   | nil=>
     have g0':w6.cell? ⟨B+1,0,none⟩=some (.slice ao' 0 c'):=g0;clear g0;have HCW6:=HCW;obtain ⟨k0,k1,k2,k3,k4⟩:=aL (c:=⟨x0,x1,x2,x3,x4⟩) HCW.out;go_wp2_with fail
     clear k0 k1 k2 k3 k4;refine (eM w6 ⟨x0,x1,x2,x3,x4⟩).mono ?_;rintro e w7 ⟨rfl,hb7⟩;have hk7:=Keep.of_below hb7 (yB _) (fun _=>False);have HTW7:=yA (hk7.old HTW.out id);have HBW7:=yA (HBW.out.trans (hk7.below HBW.out.size (fun _ _ h=>h)));have HCC7:=yA (fun (j:Nat) (u:Value) (hu:(ae.cells ⟨x0,x1,x2,x3,x4⟩)[j]?=some u)=>show w7.cell? ⟨CB,0+j,none⟩=some u from hk7.cell (HCC.out j u hu) id);clear hb7 hk7 HCC HTW HBW g0' g1 g2 gf HGW HCW;have HTW:=HTW7;have HBW:=HBW7;have HCC:=HCC7;by_cases hE:al ⟨x0,x1,x2,x3,x4⟩=0
     · have b1:(al ⟨x0,x1,x2,x3,x4⟩ != 0)=false:=by simp [hE]
       have HEZ:=yA hE;clear hE;have HTH:=yA (show w7.there B 0 (#[.int .i64 x0,.int .i64 x1,.int .i64 x2,.int .i64 x3,.int .i64 x4]:Array Value).size from aw HTW.out (yB 5));have szc:(Tryz.prog.info? 23).map (·.size)=some (#[.int .i64 x0,.int .i64 x1,.int .i64 x2,.int .i64 x3,.int .i64 x4]:Array Value).size:=aE
       go_wp2_with (first | ((with_reducible refine aa (o:=⟨some 46,_,_,_,_,_⟩) ?_ 23 (.tmp 9) ?_ CB (0) ?_ (⟨x0,x1,x2,x3,x4⟩:ae).cells #[.int .i64 (⟨x0,x1,x2,x3,x4⟩:ae).q,.int .i64 (⟨x0,x1,x2,x3,x4⟩:ae).d,.int .i64 (⟨x0,x1,x2,x3,x4⟩:ae).w,.int .i64 (⟨x0,x1,x2,x3,x4⟩:ae).ttl,.int .i64 (⟨x0,x1,x2,x3,x4⟩:ae).b] ?_ _ HCC.out Tryz.underlying23 ?_ ?_ ?_);rfl;rfl;rfl;rfl;rfl;exact aE) | ((with_reducible refine ze (op:=⟨none,.store 23 (.tmp 2) (.tmp 46),_,_,_,_⟩) ?_ 23 (.tmp 2) (.tmp 46) ?_ B 0 #[.int .i64 x0,.int .i64 x1,.int .i64 x2,.int .i64 x3,.int .i64 x4] ?_ ?_ HTH.out szc ?_ ?_);rfl;rfl;rfl;rfl;exact yU (dy ⟨x0,x1,x2,x3,x4⟩)))
       exact yS (v:=.tuple #[.agg #[.int .i64 x0,.int .i64 x1,.int .i64 x2,.int .i64 x3,.int .i64 x4],.bool true]) (results_cell_tmp 2 3 23 Tryz.results114 B rfl _ rfl (ae.cells ⟨x0,x1,x2,x3,x4⟩) _ rfl _ (yJ w7 B 0 (ae.cells ⟨x0,x1,x2,x3,x4⟩) HTH.out) Tryz.underlying23 rfl aE) rfl ⟨HBW.out.trans ((Keep.setCells w7 B 0 _).below (by have:=HBW.out.size;have:=HBE.out;omega) (fun i hi he=>by have:=HBE.out;omega)),⟨x0,x1,x2,x3,x4⟩,true,rfl,⟨fun _=>⟨HVAL.out,HEZ.out⟩,fun _=>rfl⟩,fun h=>(by cases h)⟩
     · have b1:(al ⟨x0,x1,x2,x3,x4⟩ != 0)=true:=by simp [hE]
       have HNO:=yA (show ∀ x,eT l=some (x,[])→al x≠0 from fun x hx=>by rw [HVAL.out] at hx;cases hx;exact hE);clear hE;have HTH:=yA (show w7.there B 0 (#[.int .i64 0,.int .i64 0,.int .i64 0,.int .i64 0,.int .i64 0]:Array Value).size from aw HTW.out (yB 5));have szc:(Tryz.prog.info? 23).map (·.size)=some (#[.int .i64 0,.int .i64 0,.int .i64 0,.int .i64 0,.int .i64 0]:Array Value).size:=aE
       go_wp2_with (first | ((with_reducible refine ze (op:=⟨none,.store 23 (.tmp 2) (.tmp 45),_,_,_,_⟩) ?_ 23 (.tmp 2) (.tmp 45) ?_ B 0 #[.int .i64 0,.int .i64 0,.int .i64 0,.int .i64 0,.int .i64 0] ?_ ?_ HTH.out szc ?_ ?_);rfl;rfl;rfl;rfl;exact yU (dy ⟨0,0,0,0,0⟩)))
       exact yS (v:=.tuple #[.agg #[.int .i64 0,.int .i64 0,.int .i64 0,.int .i64 0,.int .i64 0],.bool false]) (results_cell_tmp 2 3 23 Tryz.results114 B rfl _ rfl (ae.cells ⟨0,0,0,0,0⟩) _ rfl _ (yJ w7 B 0 (ae.cells ⟨0,0,0,0,0⟩) HTH.out) Tryz.underlying23 rfl aE) rfl ⟨HBW.out.trans ((Keep.setCells w7 B 0 _).below (by have:=HBW.out.size;have:=HBE.out;omega) (fun i hi he=>by have:=HBE.out;omega)),⟨0,0,0,0,0⟩,false,rfl,⟨fun h=>(by cases h),fun h=>absurd h.2 (HNO.out _ h.1)⟩,fun _=>HNO.out⟩
end Go.Proofs.YtcaicgipibcicaaGreat
