/- Two auditors answer alike: the program's, who keeps where each request stood last, and the reference's, who keeps all records. No program in sight. -/
import Derived.Test.YtcaicgipibcicaaGreatQAuRef6
import Derived.BigRegion
import Derived.Test.YtcaicgipibcicaaGreatQApp
import Derived.Test.YtcaicgipibcicaaGreatQSumA
import Derived.Laws.MakeOwn
import Derived.Test.YtcaicgipibcicaaGreatQAuMap
import Derived.Test.YtcaicgipibcicaaGreatQMem
import Derived.WideShapes
import Derived.OpenShut
set_option maxRecDepth 100000
set_option maxHeartbeats 16000000
set_option linter.unusedSimpArgs false
set_option linter.unusedVariables false
open Bool renaming and_eq_true→xn
open Go renaming cell_of_row→wG,frozen_of_row→wZ,heap_alloc_new→wF
open Go.Lib renaming hid→wB
open Go.RowKit.Below renaming refl→wI
open List renaming getElem?_append_right→xo,getElem?_eq_getElem→wE,getElem?_eq_some_iff→wD,mem_cons→xg,mem_of_getElem?→wM,not_mem_nil→xa,setIfInBounds_toArray→wU,set_cons_succ→xj,set_cons_zero→xi
open Nat renaming le_refl→wC
namespace Go.Proofs.YtcaicgipibcicaaGreat
open Go.RowKit
theorem u6 {ids:List (List Int)} (h:eW ids=true) {i j:Nat} {a:List Int} (hi:ids[i]?=some a) (hj:ids[j]?=some a):i=j:=by
 have key:∀ i j:Nat,i<j→ids[i]?=some a→ids[j]?=some a→False:=by
  intro i j hlt hi hj;have h1:=dU h (wD.1 hj).1;simp only [newAt,hj] at h1;have h2:=dU h1 hlt;simp [hi] at h2
 rcases Nat.lt_trichotomy i j with h | h | h
 · exact (key i j h hi hj).elim
 · exact h
 · exact (key j i h hj hi).elim
theorem pC {c:ag} {x:aw} (hc:aG c=true) (h:aL c x=0):bO c x=true:=by
 unfold aL at h;have hc0:¬ aA c≠0:=by simp [aA,hc]
 rw [if_neg hc0] at h;split at h
 · omega
 · split at h
   · rename_i h1;exact absurd h h1
   · split at h
     · omega
     · rename_i h1;simpa using h1
structure u7 (x:aw):Prop where
 inj:∀ (i j:Nat) (y z:aa),x.ws[i]?=some y→x.ws[j]?=some z→idR y.r=idR z.r→i=j
 pos:∀ p ∈ x.ps,0≤p.r
 since:∀ y ∈ x.ws,0≤y.since
theorem pD {c:ag} {x:aw} (hc:aG c=true) (h:aL c x=0):u7 x:=by
 have hr:=iy hc h;have hl:=pC hc h;obtain ⟨h1,h2,h3,h4,h5,h6⟩:=bN hr;refine ⟨fun i j y z hi hj he=>?_,fun p hp=>?_,fun y hy=>?_⟩
 · unfold bO at hl
   simp only [xn] at hl;exact u6 hl.1.2 (a:=idR y.r) (by rw [List.getElem?_map,hi];rfl) (by rw [List.getElem?_map,hj,he];rfl)
 · obtain ⟨j,hj⟩:=List.getElem?_of_mem hp
   have:=iH (gz hr).1 h5 j p hj;omega
 · obtain ⟨j,hj⟩:=List.getElem?_of_mem hy
   have:=dU h2 (wD.1 hj).1;rw [eD hj] at this;exact (of_decide_eq_true this).2.1
theorem f7 (k:List Int) (s:aN) (m:List (List Int × aN)) (id:List Int):bm ((k,s)::m) id=if k=id then some s else bm m id:=by
 unfold bm;by_cases h:k=id
 · simp [List.find?_cons,h]
 · simp [List.find?_cons,h]
theorem mX (t:Int) (y:aa) (ws:List aa) (m:List (List Int × aN)):fv t (y::ws) m=fv t ws ((idR y.r,⟨y,t,true⟩)::m):=rfl
theorem jk (t:Int) (id:List Int):∀ (ws:List aa) (m:List (List Int × aN)),(∀ y ∈ ws,idR y.r≠id)→bm (fv t ws m) id=bm m id:=by
 intro ws
 induction ws with
 | nil=>intro m _;rfl
 | cons y ws ih=>
   intro m h;rw [mX,ih _ (fun z hz=>h z (List.mem_cons_of_mem _ hz)),f7,if_neg (h y List.mem_cons_self)]
theorem mq (t:Int) (id:List Int) (y:aa) (hid:idR y.r=id):∀ (ws:List aa) (m:List (List Int × aN)),y ∈ ws→(∀ z ∈ ws,idR z.r=id→z=y)→bm (fv t ws m) id=some ⟨y,t,true⟩:=by
 intro ws
 induction ws with
 | nil=>intro m h;cases h
 | cons z ws ih=>
   intro m hm hu;rw [mX];by_cases hin:∃ z ∈ ws,idR z.r=id
   · obtain ⟨q,hq,he⟩:=hin
     exact ih _ (by rw [←hu q (List.mem_cons_of_mem _ hq) he];exact hq) (fun z hz=>hu z (List.mem_cons_of_mem _ hz))
   · rw [jk t id ws _ (fun q hq e=>hin ⟨q,hq,e⟩),f7]
     rcases xg.1 hm with rfl | h
     · rw [if_pos hid]
     · exact (hin ⟨y,h,hid⟩).elim
def ra (t:Int) (ws:List aa) (m:List (List Int × aN)) (p:ai):List (List Int × aN):=match ws[p.r.toNat]? with | none=>m | some y=>(idR y.r,⟨y,t,false⟩)::m
theorem mY (t:Int) (ws:List aa) (p:ai) (ps:List ai) (m:List (List Int × aN)):ij t ws (p::ps) m=ij t ws ps (ra t ws m p):=rfl
theorem ga (t:Int) (id:List Int) (ws:List aa):∀ (ps:List ai) (m:List (List Int × aN)),(∀ p ∈ ps,∀ y,ws[p.r.toNat]?=some y→idR y.r≠id)→bm (ij t ws ps m) id=bm m id:=by
 intro ps
 induction ps with
 | nil=>intro m _;rfl
 | cons p ps ih=>
   intro m h;rw [mY,ih _ (fun z hz=>h z (List.mem_cons_of_mem _ hz))];unfold ra;split
   · rfl
   · rename_i y hy
     rw [f7,if_neg (h p List.mem_cons_self y hy)]
theorem mr (t:Int) (id:List Int) (ws:List aa) (y:aa) (hid:idR y.r=id) (hu:∀ z ∈ ws,idR z.r=id→z=y):∀ (ps:List ai) (m:List (List Int × aN)),(∃ p ∈ ps,ws[p.r.toNat]?=some y)→bm (ij t ws ps m) id=some ⟨y,t,false⟩:=by
 intro ps
 induction ps with
 | nil=>rintro m ⟨p,h,_⟩;cases h
 | cons p ps ih=>
   rintro m ⟨q,hq,hy⟩;rw [mY];by_cases hin:∃ q ∈ ps,∃ z,ws[q.r.toNat]?=some z∧idR z.r=id
   · obtain ⟨q,hq,z,hz,he⟩:=hin
     exact ih _ ⟨q,hq,by rw [hz,hu z (wM hz) he]⟩
   · rw [ga t id ws ps _ (fun q hq z hz e=>hin ⟨q,hq,z,hz,e⟩)]
     rcases xg.1 hq with rfl | h
     · unfold ra
       rw [hy];simp only [f7,if_pos hid]
     · exact (hin ⟨q,h,y,hy,hid⟩).elim
theorem pE {x:aw} (hx:u7 x) (t:Int) (m:List (List Int × aN)) {i:Nat} {y:aa} (hy:x.ws[i]?=some y):bm (ij t x.ws x.ps (fv t x.ws m)) (idR y.r)=some ⟨y,t,iS x.ps i⟩:=by
 have hu:∀ z ∈ x.ws,idR z.r=idR y.r→z=y:=by
  intro z hz he;obtain ⟨j,hj⟩:=List.getElem?_of_mem hz;have:=hx.inj j i z y hj hy he;subst this;rw [hy] at hj;exact (Option.some.inj hj).symm
 cases hf:iS x.ps i with
 | true=>
   rw [ga,mq t _ y rfl x.ws m (wM hy) hu];intro p hp z hz he;have h1:=hx.inj _ _ z y hz hy he;unfold iS at hf;rw [List.all_eq_true] at hf;have h2:=hf p hp;have h3:=hx.pos p hp;simp at h2;omega
 | false=>
   refine mr t _ x.ws y rfl hu x.ps _ ?_;unfold iS at hf;rw [List.all_eq_false] at hf;obtain ⟨p,hp,h⟩:=hf;simp at h;exact ⟨p,hp,by rw [h];simpa using hy⟩
theorem kB {x:aw} (t:Int) (m:List (List Int × aN)) {id:List Int} (h:cM x id=false):bm (ij t x.ws x.ps (fv t x.ws m)) id=bm m id:=by
 have hn:∀ y ∈ x.ws,idR y.r≠id:=by
  intro y hy he;unfold cM at h;rw [List.any_eq_false] at h;exact h y hy (by simpa using he)
 rw [ga _ _ _ _ _ (fun p hp y hy=>hn y (wM hy)),jk _ _ _ _ hn]
theorem mZ {x:aw} {id:List Int} (h:cM x id=true):∃ (i:Nat) (y:aa),x.ws[i]?=some y∧idR y.r=id:=by
 unfold cM at h;rw [List.any_eq_true] at h;obtain ⟨y,hy,he⟩:=h;obtain ⟨i,hi⟩:=List.getElem?_of_mem hy;exact ⟨i,y,hi,by simpa using he⟩
structure Alike (a:PAu) (ts:List RV):Prop where
 cf:aG a.c=true
 tick:a.tick=lastT ts
 range:0≤a.tick∧a.tick≤1099511627776
 good:∀ u ∈ ts,aL a.c u.x=0
 known:∀ id,(bm a.m id).isSome=ts.any (fun u=>cM u.x id)
 look:∀ id s,bm a.m id=some s→s.tick≤a.tick∧∀ u,ts.getLast?=some u→
  (cM u.x id=true→s.tick=a.tick∧∃ (i:Nat) (y:aa),u.x.ws[i]?=some y∧idR y.r=id∧s.w=y∧s.left=iS u.x.ps i)∧(cM u.x id=false→s.tick<a.tick)
theorem Alike.new {c:ag} (hc:aG c=true):Alike ⟨c,0,[]⟩ []:=
 ⟨hc,rfl,⟨Int.le_refl 0,(by show (0:Int)≤1099511627776;decide)⟩,(fun _ h=>by cases h),(fun id=>rfl),(fun id s h=>by simp [bm] at h)⟩
theorem u9 {x:aw} (hx:u7 x) {i:Nat} {y z:aa} (hy:x.ws[i]?=some y) (hid:idR y.r=idR z.r):jU x z=(iS x.ps i && bqW y z):=by
 cases hb:(iS x.ps i && bqW y z) with
 | true=>exact rQ (wD.1 hy).1 (by rw [js hy];exact hb)
 | false=>
   refine nW fun k hk=>?_
   obtain ⟨q,hq⟩:∃ q,x.ws[k]?=some q:=⟨_,wE hk⟩;rw [js hq];cases hbq:bqW q z with
   | false=>simp
   | true=>
     have he:=(rr q z).1 hbq;subst he;have:=hx.inj k i q y hq hy hid.symm;subst this;rw [hy] at hq;cases hq
     rw [←hb,hbq]
theorem rc {x:aw} {z:aa} (h:cM x (idR z.r)=false):jU x z=false:=by
 refine nW fun k hk=>?_
 obtain ⟨q,hq⟩:∃ q,x.ws[k]?=some q:=⟨_,wE hk⟩;rw [js hq];cases hbq:bqW q z with
 | false=>simp
 | true=>
   have he:=(rr q z).1 hbq;subst he;rw [pX hq rfl] at h;cases h
theorem Alike.could {a:PAu} {ts:List RV} (h:Alike a ts) {x:aw} {y:aa} (hy:0≤y.since):dn a y x.tick=!eG ts x y:=by
 by_cases h1:x.tick≤y.since
 · rw [kV h1,pY h1];rfl
 · have hk:=h.known (idR y.r)
   cases hl:bm a.m (idR y.r) with
   | none=>
     rw [hl] at hk;rw [mv h1 hl];cases hg:ts.getLast? with
     | none=>
       rw [List.getLast?_eq_none_iff] at hg;subst hg;rw [nX h1];have:=h.tick;rw [rT] at this;rw [this];simp [hy]
     | some u=>
       rw [rS h1 hg hk.symm];have ht:a.tick=u.x.tick:=by rw [h.tick];unfold lastT;rw [hg]
       rw [ht,←decide_not];simp
   | some s=>
     rw [hl] at hk;rw [mw h1 hl];obtain ⟨hs,hu⟩:=h.look _ _ hl;cases hg:ts.getLast? with
     | none=>
       rw [List.getLast?_eq_none_iff] at hg;subst hg;simp at hk
     | some u=>
       rw [rR h1 hg hk.symm];obtain ⟨hu1,hu2⟩:=hu u hg;have hgood:=pD h.cf (h.good u (List.mem_of_getLast? hg));cases hst:cM u.x (idR y.r) with
       | true=>
         obtain ⟨e1,i,z,hz,hid,hw,hleft⟩:=hu1 hst;rw [u9 hgood hz hid,e1,hleft,hw];simp
       | false=>
         have:=hu2 hst;rw [rc hst];have:¬ s.tick=a.tick:=by omega
         simp [this]
theorem Alike.see {a:PAu} {ts:List RV} (h:Alike a ts) (v:RV):(db a v.x).1=(gp a.c ts v).1∧Alike (db a v.x).2 (gp a.c ts v).2∧(db a v.x).2.c=a.c∧(gp a.c ts v).2.length≤ts.length+1:=by
 by_cases h0:aL a.c v.x=0
 · have hx:=pD h.cf h0
   by_cases h1:v.x.tick=a.tick+a.c.w
   · have h1':v.x.tick - lastT ts=a.c.w:=by rw [←h.tick];omega
     have hall:eH a v.x=cV v.x.ws.length (gP ts v.x):=by
      unfold eH;refine qq fun j hj=>?_
      obtain ⟨y,hy⟩:∃ y,v.x.ws[j]?=some y:=⟨_,wE hj⟩;rw [ix hy,pZ hy,h.could (hx.since y (wM hy))]
     cases h2:eH a v.x with
     | false=>
       rw [tG h0 h1 h2,rsee_3 h0 h1' (by rw [←hall];exact h2)];exact ⟨rfl,h,rfl,Nat.le_succ _⟩
     | true=>
       rw [qb h0 h1 h2,rsee_4 h0 h1' (by rw [←hall];exact h2)]
       have hcw:1≤a.c.w∧a.c.w≤1048576:=by
        have:=h.cf;unfold aG at this;simp only [xn] at this;exact of_decide_eq_true this.1.1.2
       have hlast:(ts++[v]).getLast?=some v:=by simp
       have htk:=n8 (iy h.cf h0);have hr:=h.range;refine ⟨rfl,⟨h.cf,?_,⟨by simp only;omega,by simp only;omega⟩,?_,?_,?_⟩,rfl,by simp⟩
       · unfold lastT;rw [hlast]
       · intro u hu
         rcases List.mem_append.1 hu with hu | hu
         · exact h.good u hu
         · cases List.mem_singleton.1 hu;exact h0
       · intro id
         rw [List.any_append];cases hst:cM v.x id with
         | true=>
           obtain ⟨i,y,hy,rfl⟩:=mZ hst;simp only;rw [pE hx _ _ hy];simp [hst]
         | false=>
           simp only;rw [kB _ _ hst,h.known id];simp [hst]
       · intro id s hs
         simp only at hs;cases hst:cM v.x id with
         | true=>
           obtain ⟨i,y,hy,rfl⟩:=mZ hst;rw [pE hx _ _ hy] at hs;cases hs
           refine ⟨by simp,fun u hu=>?_⟩;rw [hlast] at hu;cases hu
           exact ⟨(fun _=>⟨rfl,i,y,hy,rfl,rfl,rfl⟩),(fun e=>by rw [hst] at e;cases e)⟩
         | false=>
           rw [kB _ _ hst] at hs;have hle:=(h.look id s hs).1;refine ⟨by simp only;omega,fun u hu=>?_⟩;rw [hlast] at hu;cases hu
           exact ⟨(fun e=>by rw [hst] at e;cases e),(fun _=>by simp only;omega)⟩
   · have h1':v.x.tick - lastT ts≠a.c.w:=by rw [←h.tick];omega
     rw [qa h0 h1,rsee_2 h0 h1'];exact ⟨rfl,h,rfl,Nat.le_succ _⟩
 · rw [tF h0,rsee_1 h0]
   exact ⟨rfl,h,rfl,Nat.le_succ _⟩
end Go.Proofs.YtcaicgipibcicaaGreat
namespace Go.Proofs.YtcaicgipibcicaaGreat
open Go.RowKit Go.Sort
theorem pF (w:World):∃ W,((((((((((((w.alloc (.cells #[.int .i64 0,.int .i64 0,.int .i64 0,.int .i64 0,.int .i64 0] 23)).alloc (.cells #[.int .i64 0,.slice none 0 0,.slice none 0 0,.int .i64 0,.int .i64 0,.slice none 0 0,.slice none 0 0,.slice none 0 0,.slice none 0 0] 34)).alloc (.cells #[.int .i64 2,.int .i64 2,.int .i64 2,.int .i64 10,.int .i64 5] 23)).alloc (.cells #[.int .u8 0,.int .u8 0,.int .u8 0,.int .u8 0,.int .u8 0,.int .u8 0,.int .u8 0,.int .u8 1,.int .i16 0,.int .i16 0,.int .i16 0,.int .i16 0,.int .u8 1,.int .u8 1,.int .i64 0,.int .i64 10] 77)).alloc (.cells #[.int .u8 0,.int .u8 0,.int .u8 0,.int .u8 0,.int .u8 0,.int .u8 0,.int .u8 0,.int .u8 2,.int .i16 1,.int .i16 0,.int .i16 0,.int .i16 0,.int .u8 1,.int .u8 1,.int .i64 5,.int .i64 10] 77)).alloc (.cells #[.int .u8 0,.int .u8 0,.int .u8 0,.int .u8 0,.int .u8 0,.int .u8 0,.int .u8 0,.int .u8 1,.int .i16 0,.int .i16 0,.int .i16 0,.int .i16 0,.int .u8 1,.int .u8 1,.int .i64 0,.int .i64 10,.int .i64 0,.int .i64 0,.int .u8 0,.int .u8 0,.int .u8 0,.int .u8 0,.int .u8 0,.int .u8 0,.int .u8 0,.int .u8 2,.int .i16 1,.int .i16 0,.int .i16 0,.int .i16 0,.int .u8 1,.int .u8 1,.int .i64 5,.int .i64 10,.int .i64 0,.int .i64 1] 79)).alloc (.cells #[.int .i64 2,.slice (some ⟨w.heap.size+1+1+1+1+1,0,none⟩) 2 2,.slice (some ⟨w.heap.size+1+1+1+1+1+1+1,0,none⟩) 1 1,.int .i64 2,.int .i64 1,.slice (some ⟨w.heap.size+1+1+1+1+1+1+1+1,0,none⟩) 2 2,.slice (some ⟨w.heap.size+1+1+1+1+1+1+1+1+1,0,none⟩) 1 1,.slice (some ⟨w.heap.size+1+1+1+1+1+1+1+1+1+1,0,none⟩) 2 2,.slice (some ⟨w.heap.size+1+1+1+1+1+1+1+1+1+1+1,0,none⟩) 1 1] 34)).alloc (.cells #[.int .u8 0,.int .u8 0,.int .u8 0,.int .u8 0,.int .u8 0,.int .u8 0,.int .u8 0,.int .u8 7,.int .i16 0,.int .i16 2,.int .u8 4,.int .u8 0,.int .i64 3,.int .i64 0] 83)).alloc (.cells #[.int .i64 0,.int .i64 0,.int .i64 13,.int .i64 1,.int .i64 0,.int .i64 18] 114)).alloc (.cells #[.int .i64 1,.int .i64 0] 69)).alloc (.cells #[.int .i64 0,.int .i64 5] 3)).alloc (.cells #[.int .i64 13] 3))=W∧W.heap[w.heap.size]?=some (.cells #[.int .i64 0,.int .i64 0,.int .i64 0,.int .i64 0,.int .i64 0] 23 (0,0))∧W.heap[w.heap.size+1]?=some (.cells #[.int .i64 0,.slice none 0 0,.slice none 0 0,.int .i64 0,.int .i64 0,.slice none 0 0,.slice none 0 0,.slice none 0 0,.slice none 0 0] 34 (0,0))∧W.heap[w.heap.size+1+1]?=some (.cells #[.int .i64 2,.int .i64 2,.int .i64 2,.int .i64 10,.int .i64 5] 23 (0,0))∧W.heap[w.heap.size+1+1+1+1+1+1]?=some (.cells #[.int .i64 2,.slice (some ⟨w.heap.size+1+1+1+1+1,0,none⟩) 2 2,.slice (some ⟨w.heap.size+1+1+1+1+1+1+1,0,none⟩) 1 1,.int .i64 2,.int .i64 1,.slice (some ⟨w.heap.size+1+1+1+1+1+1+1+1,0,none⟩) 2 2,.slice (some ⟨w.heap.size+1+1+1+1+1+1+1+1+1,0,none⟩) 1 1,.slice (some ⟨w.heap.size+1+1+1+1+1+1+1+1+1+1,0,none⟩) 2 2,.slice (some ⟨w.heap.size+1+1+1+1+1+1+1+1+1+1+1,0,none⟩) 1 1] 34 (0,0))∧W.heap[w.heap.size+1+1+1+1+1]?=some (.cells #[.int .u8 0,.int .u8 0,.int .u8 0,.int .u8 0,.int .u8 0,.int .u8 0,.int .u8 0,.int .u8 1,.int .i16 0,.int .i16 0,.int .i16 0,.int .i16 0,.int .u8 1,.int .u8 1,.int .i64 0,.int .i64 10,.int .i64 0,.int .i64 0,.int .u8 0,.int .u8 0,.int .u8 0,.int .u8 0,.int .u8 0,.int .u8 0,.int .u8 0,.int .u8 2,.int .i16 1,.int .i16 0,.int .i16 0,.int .i16 0,.int .u8 1,.int .u8 1,.int .i64 5,.int .i64 10,.int .i64 0,.int .i64 1] 79 (0,0))∧W.heap[w.heap.size+1+1+1+1+1+1+1]?=some (.cells #[.int .u8 0,.int .u8 0,.int .u8 0,.int .u8 0,.int .u8 0,.int .u8 0,.int .u8 0,.int .u8 7,.int .i16 0,.int .i16 2,.int .u8 4,.int .u8 0,.int .i64 3,.int .i64 0] 83 (0,0))∧W.heap[w.heap.size+1+1+1+1+1+1+1+1]?=some (.cells #[.int .i64 0,.int .i64 0,.int .i64 13,.int .i64 1,.int .i64 0,.int .i64 18] 114 (0,0))∧W.heap[w.heap.size+1+1+1+1+1+1+1+1+1]?=some (.cells #[.int .i64 1,.int .i64 0] 69 (0,0))∧W.heap[w.heap.size+1+1+1+1+1+1+1+1+1+1]?=some (.cells #[.int .i64 0,.int .i64 5] 3 (0,0))∧W.heap[w.heap.size+1+1+1+1+1+1+1+1+1+1+1]?=some (.cells #[.int .i64 13] 3 (0,0))∧Below w.heap.size w W:=by
 have step:∀ (V:World) (o:Obj) (k:Nat),V.heap.size=k→(V.alloc o).heap[k]?=some o∧(V.alloc o).heap.size=k+1∧(∀ (j:Nat) (p:Obj),V.heap[j]?=some p→(V.alloc o).heap[j]?=some p)∧(w.heap.size≤V.heap.size→Below w.heap.size w V→Below w.heap.size w (V.alloc o)):=by
  intro V o k hk;exact ⟨by rw [←hk];exact wF V o,by rw [←hk];simp,fun j p hp=>(Keep.alloc (fun _=>False) V o).old hp id,fun h1 h2=>h2.alloc h1 _⟩
 obtain ⟨a0,s0,k0,q0⟩:=step w (.cells #[.int .i64 0,.int .i64 0,.int .i64 0,.int .i64 0,.int .i64 0] 23) _ rfl;have b0:=q0 (wC _) (wI _ _);generalize w.alloc (.cells #[.int .i64 0,.int .i64 0,.int .i64 0,.int .i64 0,.int .i64 0] 23)=V0 at *;obtain ⟨a1,s1,k1,q1⟩:=step V0 (.cells #[.int .i64 0,.slice none 0 0,.slice none 0 0,.int .i64 0,.int .i64 0,.slice none 0 0,.slice none 0 0,.slice none 0 0,.slice none 0 0] 34) _ s0;have b1:=q1 (by rw [s0];omega) b0;have a0:=k1 _ _ a0;generalize V0.alloc (.cells #[.int .i64 0,.slice none 0 0,.slice none 0 0,.int .i64 0,.int .i64 0,.slice none 0 0,.slice none 0 0,.slice none 0 0,.slice none 0 0] 34)=V1 at *;obtain ⟨a2,s2,k2,q2⟩:=step V1 (.cells #[.int .i64 2,.int .i64 2,.int .i64 2,.int .i64 10,.int .i64 5] 23) _ s1;have b2:=q2 (by rw [s1];omega) b1;have a0:=k2 _ _ a0;have a1:=k2 _ _ a1;generalize V1.alloc (.cells #[.int .i64 2,.int .i64 2,.int .i64 2,.int .i64 10,.int .i64 5] 23)=V2 at *;obtain ⟨a3,s3,k3,q3⟩:=step V2 (.cells #[.int .u8 0,.int .u8 0,.int .u8 0,.int .u8 0,.int .u8 0,.int .u8 0,.int .u8 0,.int .u8 1,.int .i16 0,.int .i16 0,.int .i16 0,.int .i16 0,.int .u8 1,.int .u8 1,.int .i64 0,.int .i64 10] 77) _ s2;have b3:=q3 (by rw [s2];omega) b2;have a0:=k3 _ _ a0;have a1:=k3 _ _ a1;have a2:=k3 _ _ a2;generalize V2.alloc (.cells #[.int .u8 0,.int .u8 0,.int .u8 0,.int .u8 0,.int .u8 0,.int .u8 0,.int .u8 0,.int .u8 1,.int .i16 0,.int .i16 0,.int .i16 0,.int .i16 0,.int .u8 1,.int .u8 1,.int .i64 0,.int .i64 10] 77)=V3 at *;obtain ⟨a4,s4,k4,q4⟩:=step V3 (.cells #[.int .u8 0,.int .u8 0,.int .u8 0,.int .u8 0,.int .u8 0,.int .u8 0,.int .u8 0,.int .u8 2,.int .i16 1,.int .i16 0,.int .i16 0,.int .i16 0,.int .u8 1,.int .u8 1,.int .i64 5,.int .i64 10] 77) _ s3;have b4:=q4 (by rw [s3];omega) b3;have a0:=k4 _ _ a0;have a1:=k4 _ _ a1;have a2:=k4 _ _ a2;generalize V3.alloc (.cells #[.int .u8 0,.int .u8 0,.int .u8 0,.int .u8 0,.int .u8 0,.int .u8 0,.int .u8 0,.int .u8 2,.int .i16 1,.int .i16 0,.int .i16 0,.int .i16 0,.int .u8 1,.int .u8 1,.int .i64 5,.int .i64 10] 77)=V4 at *;obtain ⟨a5,s5,k5,q5⟩:=step V4 (.cells #[.int .u8 0,.int .u8 0,.int .u8 0,.int .u8 0,.int .u8 0,.int .u8 0,.int .u8 0,.int .u8 1,.int .i16 0,.int .i16 0,.int .i16 0,.int .i16 0,.int .u8 1,.int .u8 1,.int .i64 0,.int .i64 10,.int .i64 0,.int .i64 0,.int .u8 0,.int .u8 0,.int .u8 0,.int .u8 0,.int .u8 0,.int .u8 0,.int .u8 0,.int .u8 2,.int .i16 1,.int .i16 0,.int .i16 0,.int .i16 0,.int .u8 1,.int .u8 1,.int .i64 5,.int .i64 10,.int .i64 0,.int .i64 1] 79) _ s4;have b5:=q5 (by rw [s4];omega) b4;have a0:=k5 _ _ a0;have a1:=k5 _ _ a1;have a2:=k5 _ _ a2;generalize V4.alloc (.cells #[.int .u8 0,.int .u8 0,.int .u8 0,.int .u8 0,.int .u8 0,.int .u8 0,.int .u8 0,.int .u8 1,.int .i16 0,.int .i16 0,.int .i16 0,.int .i16 0,.int .u8 1,.int .u8 1,.int .i64 0,.int .i64 10,.int .i64 0,.int .i64 0,.int .u8 0,.int .u8 0,.int .u8 0,.int .u8 0,.int .u8 0,.int .u8 0,.int .u8 0,.int .u8 2,.int .i16 1,.int .i16 0,.int .i16 0,.int .i16 0,.int .u8 1,.int .u8 1,.int .i64 5,.int .i64 10,.int .i64 0,.int .i64 1] 79)=V5 at *;obtain ⟨a6,s6,k6,q6⟩:=step V5 (.cells #[.int .i64 2,.slice (some ⟨w.heap.size+1+1+1+1+1,0,none⟩) 2 2,.slice (some ⟨w.heap.size+1+1+1+1+1+1+1,0,none⟩) 1 1,.int .i64 2,.int .i64 1,.slice (some ⟨w.heap.size+1+1+1+1+1+1+1+1,0,none⟩) 2 2,.slice (some ⟨w.heap.size+1+1+1+1+1+1+1+1+1,0,none⟩) 1 1,.slice (some ⟨w.heap.size+1+1+1+1+1+1+1+1+1+1,0,none⟩) 2 2,.slice (some ⟨w.heap.size+1+1+1+1+1+1+1+1+1+1+1,0,none⟩) 1 1] 34) _ s5;have b6:=q6 (by rw [s5];omega) b5;have a0:=k6 _ _ a0;have a1:=k6 _ _ a1;have a2:=k6 _ _ a2;have a5:=k6 _ _ a5
 generalize V5.alloc (.cells #[.int .i64 2,.slice (some ⟨w.heap.size+1+1+1+1+1,0,none⟩) 2 2,.slice (some ⟨w.heap.size+1+1+1+1+1+1+1,0,none⟩) 1 1,.int .i64 2,.int .i64 1,.slice (some ⟨w.heap.size+1+1+1+1+1+1+1+1,0,none⟩) 2 2,.slice (some ⟨w.heap.size+1+1+1+1+1+1+1+1+1,0,none⟩) 1 1,.slice (some ⟨w.heap.size+1+1+1+1+1+1+1+1+1+1,0,none⟩) 2 2,.slice (some ⟨w.heap.size+1+1+1+1+1+1+1+1+1+1+1,0,none⟩) 1 1] 34)=V6 at *;obtain ⟨a7,s7,k7,q7⟩:=step V6 (.cells #[.int .u8 0,.int .u8 0,.int .u8 0,.int .u8 0,.int .u8 0,.int .u8 0,.int .u8 0,.int .u8 7,.int .i16 0,.int .i16 2,.int .u8 4,.int .u8 0,.int .i64 3,.int .i64 0] 83) _ s6;have b7:=q7 (by rw [s6];omega) b6;have a0:=k7 _ _ a0;have a1:=k7 _ _ a1;have a2:=k7 _ _ a2;have a6:=k7 _ _ a6;have a5:=k7 _ _ a5;generalize V6.alloc (.cells #[.int .u8 0,.int .u8 0,.int .u8 0,.int .u8 0,.int .u8 0,.int .u8 0,.int .u8 0,.int .u8 7,.int .i16 0,.int .i16 2,.int .u8 4,.int .u8 0,.int .i64 3,.int .i64 0] 83)=V7 at *;obtain ⟨a8,s8,k8,q8⟩:=step V7 (.cells #[.int .i64 0,.int .i64 0,.int .i64 13,.int .i64 1,.int .i64 0,.int .i64 18] 114) _ s7;have b8:=q8 (by rw [s7];omega) b7;have a0:=k8 _ _ a0;have a1:=k8 _ _ a1;have a2:=k8 _ _ a2;have a6:=k8 _ _ a6;have a5:=k8 _ _ a5;have a7:=k8 _ _ a7;generalize V7.alloc (.cells #[.int .i64 0,.int .i64 0,.int .i64 13,.int .i64 1,.int .i64 0,.int .i64 18] 114)=V8 at *;obtain ⟨a9,s9,k9,q9⟩:=step V8 (.cells #[.int .i64 1,.int .i64 0] 69) _ s8;have b9:=q9 (by rw [s8];omega) b8;have a0:=k9 _ _ a0;have a1:=k9 _ _ a1;have a2:=k9 _ _ a2;have a6:=k9 _ _ a6;have a5:=k9 _ _ a5;have a7:=k9 _ _ a7;have a8:=k9 _ _ a8;generalize V8.alloc (.cells #[.int .i64 1,.int .i64 0] 69)=V9 at *;obtain ⟨a10,s10,k10,q10⟩:=step V9 (.cells #[.int .i64 0,.int .i64 5] 3) _ s9;have b10:=q10 (by rw [s9];omega) b9;have a0:=k10 _ _ a0;have a1:=k10 _ _ a1;have a2:=k10 _ _ a2;have a6:=k10 _ _ a6;have a5:=k10 _ _ a5;have a7:=k10 _ _ a7;have a8:=k10 _ _ a8;have a9:=k10 _ _ a9;generalize V9.alloc (.cells #[.int .i64 0,.int .i64 5] 3)=V10 at *;obtain ⟨a11,s11,k11,q11⟩:=step V10 (.cells #[.int .i64 13] 3) _ s10;have b11:=q11 (by rw [s10];omega) b10;have a0:=k11 _ _ a0;have a1:=k11 _ _ a1;have a2:=k11 _ _ a2;have a6:=k11 _ _ a6;have a5:=k11 _ _ a5;have a7:=k11 _ _ a7;have a8:=k11 _ _ a8;have a9:=k11 _ _ a9;have a10:=k11 _ _ a10;generalize V10.alloc (.cells #[.int .i64 13] 3)=V11 at *;exact ⟨_,rfl,a0,a1,a2,a6,a5,a7,a8,a9,a10,a11,b11⟩
theorem put5 {w:World} {B:Nat} {t:TypeId} {z0 z1 z2 z3 z4:Value} (h:w.heap[B]?=some (.cells #[z0,z1,z2,z3,z4] t (0,0))) (c0 c1 c2 c3 c4:Value) :
 (((((w.setCell ⟨B,0,none⟩ (c0)).setCell ⟨B,1,none⟩ (c1)).setCell ⟨B,2,none⟩ (c2)).setCell ⟨B,3,none⟩ (c3)).setCell ⟨B,4,none⟩ (c4)).heap[B]?=some (.cells #[c0,c1,c2,c3,c4] t (0,0))∧Keep (fun k=>k=B) w (((((w.setCell ⟨B,0,none⟩ (c0)).setCell ⟨B,1,none⟩ (c1)).setCell ⟨B,2,none⟩ (c2)).setCell ⟨B,3,none⟩ (c3)).setCell ⟨B,4,none⟩ (c4)):=by
 have q:=(ae (ae (ae (ae (ae h 0 (c0)) 1 (c1)) 2 (c2)) 3 (c3)) 4 (c4));exact ⟨by simpa only [wU,xi,xj] using q,Keep.setCells w B 0 [c0,c1,c2,c3,c4]⟩
theorem put9 {w:World} {B:Nat} {t:TypeId} {z0 z1 z2 z3 z4 z5 z6 z7 z8:Value} (h:w.heap[B]?=some (.cells #[z0,z1,z2,z3,z4,z5,z6,z7,z8] t (0,0))) (a0 a1 a2 a3 a4 a5 a6 a7 a8:Value) :
 (((((((((w.setCell ⟨B,0,none⟩ (a0)).setCell ⟨B,1,none⟩ (a1)).setCell ⟨B,2,none⟩ (a2)).setCell ⟨B,3,none⟩ (a3)).setCell ⟨B,4,none⟩ (a4)).setCell ⟨B,5,none⟩ (a5)).setCell ⟨B,6,none⟩ (a6)).setCell ⟨B,7,none⟩ (a7)).setCell ⟨B,8,none⟩ (a8)).heap[B]?=some (.cells #[a0,a1,a2,a3,a4,a5,a6,a7,a8] t (0,0))∧Keep (fun k=>k=B) w (((((((((w.setCell ⟨B,0,none⟩ (a0)).setCell ⟨B,1,none⟩ (a1)).setCell ⟨B,2,none⟩ (a2)).setCell ⟨B,3,none⟩ (a3)).setCell ⟨B,4,none⟩ (a4)).setCell ⟨B,5,none⟩ (a5)).setCell ⟨B,6,none⟩ (a6)).setCell ⟨B,7,none⟩ (a7)).setCell ⟨B,8,none⟩ (a8)):=by
 have q:=(ae (ae (ae (ae (ae (ae (ae (ae (ae h 0 (a0)) 1 (a1)) 2 (a2)) 3 (a3)) 4 (a4)) 5 (a5)) 6 (a6)) 7 (a7)) 8 (a8));exact ⟨by simpa only [wU,xi,xj] using q,Keep.setCells w B 0 [a0,a1,a2,a3,a4,a5,a6,a7,a8]⟩
structure nJ (B:Nat) (w:World):Prop where
 ws:w.heap[B+5]?=some (.cells #[.int .u8 0,.int .u8 0,.int .u8 0,.int .u8 0,.int .u8 0,.int .u8 0,.int .u8 0,.int .u8 1,.int .i16 0,.int .i16 0,.int .i16 0,.int .i16 0,.int .u8 1,.int .u8 1,.int .i64 0,.int .i64 10,.int .i64 0,.int .i64 0,.int .u8 0,.int .u8 0,.int .u8 0,.int .u8 0,.int .u8 0,.int .u8 0,.int .u8 0,.int .u8 2,.int .i16 1,.int .i16 0,.int .i16 0,.int .i16 0,.int .u8 1,.int .u8 1,.int .i64 5,.int .i64 10,.int .i64 0,.int .i64 1] 79 (0,0))
 ds:w.heap[B+7]?=some (.cells #[.int .u8 0,.int .u8 0,.int .u8 0,.int .u8 0,.int .u8 0,.int .u8 0,.int .u8 0,.int .u8 7,.int .i16 0,.int .i16 2,.int .u8 4,.int .u8 0,.int .i64 3,.int .i64 0] 83 (0,0))
 es:w.heap[B+8]?=some (.cells #[.int .i64 0,.int .i64 0,.int .i64 13,.int .i64 1,.int .i64 0,.int .i64 18] 114 (0,0))
 ps:w.heap[B+9]?=some (.cells #[.int .i64 1,.int .i64 0] 69 (0,0))
 ys:w.heap[B+10]?=some (.cells #[.int .i64 0,.int .i64 5] 3 (0,0))
 zs:w.heap[B+11]?=some (.cells #[.int .i64 13] 3 (0,0))
theorem m5 (w:World):Calls Tryz.prog 37 #[] w fun e w'=>e = .returned (.tuple #[.agg #[.int .i64 2,.int .i64 2,.int .i64 2,.int .i64 10,.int .i64 5],.agg #[.int .i64 2,.slice (some ⟨w.heap.size+5,0,none⟩) 2 2,.slice (some ⟨w.heap.size+7,0,none⟩) 1 1,.int .i64 2,.int .i64 1,.slice (some ⟨w.heap.size+8,0,none⟩) 2 2,.slice (some ⟨w.heap.size+9,0,none⟩) 1 1,.slice (some ⟨w.heap.size+10,0,none⟩) 2 2,.slice (some ⟨w.heap.size+11,0,none⟩) 1 1]])∧nJ w.heap.size w'∧Below w.heap.size w w':=by
 obtain ⟨W,hW,h0,h1,h2,h6,h5,h7,h8,h9,h10,h11,hbel⟩:=pF w;have HW:=wB hW;have H0:=wB h0;have H1:=wB h1;have H2:=wB h2;have H6:=wB h6;have HS:=wB (show nJ w.heap.size W from ⟨h5,h7,h8,h9,h10,h11⟩);have HBEL:=wB hbel;clear hW h0 h1 h2 h5 h6 h7 h8 h9 h10 h11 hbel;go_enter Tryz.func37,Tryz.ntmps37
 go_wp2_with fail
 rw [HW.out];clear HW;obtain ⟨B,hBB⟩:∃ B,w.heap.size=B:=⟨_,rfl⟩;have HBB:=wB hBB;rw [hBB] at H0 H1 H2 H6 HS ⊢;clear hBB;obtain ⟨x0,x1,x2,x3,x4⟩:=aK (c:=⟨2,2,2,10,5⟩) H2.out;obtain ⟨y0,y1,y2,y3,y4,y5,y6,y7,y8⟩:=cells9 H6.out;obtain ⟨u0,u1,u2,u3,u4⟩:=aK (c:=⟨0,0,0,0,0⟩) H0.out;have uf:=fun j=>wZ W B j _ _ H0.out
 obtain ⟨v0,v1,v2,v3,v4,v5,v6,v7,v8⟩:=cells9 H1.out;have vf:=fun j=>wZ W (B+1) j _ _ H1.out
 go_region
 all_goals
  clear x0 x1 x2 x3 x4 y0 y1 y2 y3 y4 y5 y6 y7 y8 u0 u1 u2 u3 u4 uf v0 v1 v2 v3 v4 v5 v6 v7 v8 vf;obtain ⟨p0,k0⟩:=put5 H0.out (.int .i64 2) (.int .i64 2) (.int .i64 2) (.int .i64 10) (.int .i64 5);generalize (((((W.setCell ⟨B,0,none⟩ (.int .i64 2)).setCell ⟨B,1,none⟩ (.int .i64 2)).setCell ⟨B,2,none⟩ (.int .i64 2)).setCell ⟨B,3,none⟩ (.int .i64 10)).setCell ⟨B,4,none⟩ (.int .i64 5))=W2 at *;obtain ⟨p1,k1⟩:=put9 (k0.old H1.out (by omega)) (.int .i64 2) (.slice (some ⟨B+1+1+1+1+1,0,none⟩) 2 2) (.slice (some ⟨B+1+1+1+1+1+1+1,0,none⟩) 1 1) (.int .i64 2) (.int .i64 1) (.slice (some ⟨B+1+1+1+1+1+1+1+1,0,none⟩) 2 2) (.slice (some ⟨B+1+1+1+1+1+1+1+1+1,0,none⟩) 1 1) (.slice (some ⟨B+1+1+1+1+1+1+1+1+1+1,0,none⟩) 2 2) (.slice (some ⟨B+1+1+1+1+1+1+1+1+1+1+1,0,none⟩) 1 1);generalize (((((((((W2.setCell ⟨B+1,0,none⟩ (.int .i64 2)).setCell ⟨B+1,1,none⟩ (.slice (some ⟨B+1+1+1+1+1,0,none⟩) 2 2)).setCell ⟨B+1,2,none⟩ (.slice (some ⟨B+1+1+1+1+1+1+1,0,none⟩) 1 1)).setCell ⟨B+1,3,none⟩ (.int .i64 2)).setCell ⟨B+1,4,none⟩ (.int .i64 1)).setCell ⟨B+1,5,none⟩ (.slice (some ⟨B+1+1+1+1+1+1+1+1,0,none⟩) 2 2)).setCell ⟨B+1,6,none⟩ (.slice (some ⟨B+1+1+1+1+1+1+1+1+1,0,none⟩) 1 1)).setCell ⟨B+1,7,none⟩ (.slice (some ⟨B+1+1+1+1+1+1+1+1+1+1,0,none⟩) 2 2)).setCell ⟨B+1,8,none⟩ (.slice (some ⟨B+1+1+1+1+1+1+1+1+1+1+1,0,none⟩) 1 1))=W3 at *;have k01:=k0.trans k1 (Z:=fun k=>k=B∨k=B+1) (fun _ _ h=>.inl h) (fun _ _ h=>.inr h);have HF:=wB (show nJ B W3 from ⟨k01.old HS.out.ws (by omega),k01.old HS.out.ds (by omega),k01.old HS.out.es (by omega),k01.old HS.out.ps (by omega),k01.old HS.out.ys (by omega),k01.old HS.out.zs (by omega)⟩);have HFB:=wB (show Below w.heap.size w W3 from HBEL.out.trans (k01.below HBEL.out.size (fun i hi h=>by have:=HBB.out;omega)));have p0':=k1.old p0 (by omega);obtain ⟨x0,x1,x2,x3,x4⟩:=aK (c:=⟨2,2,2,10,5⟩) p0';obtain ⟨y0,y1,y2,y3,y4,y5,y6,y7,y8⟩:=cells9 p1;clear p0 p0' p1 k0 k1 k01;go_wp2_with fail
  exact bodyPost_ret (v:=.tuple #[.agg #[.int .i64 2,.int .i64 2,.int .i64 2,.int .i64 10,.int .i64 5],.agg #[.int .i64 2,.slice (some ⟨B+1+1+1+1+1,0,none⟩) 2 2,.slice (some ⟨B+1+1+1+1+1+1+1,0,none⟩) 1 1,.int .i64 2,.int .i64 1,.slice (some ⟨B+1+1+1+1+1+1+1+1,0,none⟩) 2 2,.slice (some ⟨B+1+1+1+1+1+1+1+1+1,0,none⟩) 1 1,.slice (some ⟨B+1+1+1+1+1+1+1+1+1+1,0,none⟩) 2 2,.slice (some ⟨B+1+1+1+1+1+1+1+1+1+1+1,0,none⟩) 1 1]]) (by simp [results,Tryz.results37,go_sem,x0,x1,x2,x3,x4,y0,y1,y2,y3,y4,y5,y6,y7,y8]) rfl (by rw [HBB.out];exact ⟨rfl,⟨HF.out.ws,HF.out.ds,HF.out.es,HF.out.ps,HF.out.ys,HF.out.zs⟩,HBB.out ▸ HFB.out.drew⟩)
def aM:ag:=⟨2,2,2,10,5⟩
def bQ (n m:Int):aw:=⟨2,[⟨⟨0,0,0,0,0,0,0,1,0,0,0,0,1,1,0,10⟩,0,0⟩,⟨⟨0,0,0,0,0,0,0,2,1,0,0,0,1,1,5,10⟩,0,1⟩],[⟨⟨0,0,0,0,0,0,0,7,0,2,4,0,3⟩,0⟩],2,1,[⟨0,0,n⟩,⟨1,0,18⟩],[⟨1,0⟩],[0,m],[13]⟩
theorem ed:aL aM (bQ 13 5)=0∧aL aM (bQ 12 5)=260∧aL aM (bQ 13 6)=182:=by decide +kernel
theorem iN:aG aM=true:=by decide +kernel
theorem re:db ⟨aM,0,[]⟩ (bQ 13 5)=(0,⟨aM,2,ij 2 (bQ 13 5).ws (bQ 13 5).ps (fv 2 (bQ 13 5).ws [])⟩):=qb ed.1 (by decide +kernel) (by decide +kernel)
theorem rg (m:List (List Int × aN)):db ⟨aM,2,m⟩ (bQ 13 5)=(262,⟨aM,2,m⟩):=qa ed.1 (show (2:Int)≠2+2 by decide)
theorem pG (n m:Int) (hn:ar n) (hm:ar m):(bQ n m).Ok:=by
 have z:∀ k:Int,-1000≤k→k≤1000→ar k:=fun k h1 h2=>⟨by omega,by omega⟩
 refine ⟨z 2 (by decide) (by decide),?_,?_,z 2 (by decide) (by decide),z 1 (by decide) (by decide),?_,?_,?_,?_⟩
 · intro w hw
   simp only [bQ,xg,xa,or_false] at hw;rcases hw with rfl | rfl <;> exact ⟨⟨by unfold bp;decide,by unfold aY;decide,by unfold aY;decide,by unfold bp;decide,by unfold bp;decide,z _ (by decide) (by decide),z _ (by decide) (by decide)⟩,z _ (by decide) (by decide),z _ (by decide) (by decide)⟩
 · intro w hw
   simp only [bQ,xg,xa,or_false] at hw;subst hw;exact ⟨⟨by unfold bp;decide,by unfold aY;decide,by unfold bp;decide,by unfold bp;decide,z _ (by decide) (by decide)⟩,z _ (by decide) (by decide)⟩
 · intro w hw
   simp only [bQ,xg,xa,or_false] at hw;rcases hw with rfl | rfl
   · exact ⟨z 0 (by decide) (by decide),z 0 (by decide) (by decide),hn⟩
   · exact ⟨z _ (by decide) (by decide),z _ (by decide) (by decide),z _ (by decide) (by decide)⟩
 · intro w hw
   simp only [bQ,xg,xa,or_false] at hw;subst hw;exact ⟨z _ (by decide) (by decide),z _ (by decide) (by decide)⟩
 · intro w hw
   simp only [bQ,xg,xa,or_false] at hw;rcases hw with rfl | rfl
   · exact z _ (by decide) (by decide)
   · exact hm
 · intro w hw
   simp only [bQ,xg,xa,or_false] at hw;subst hw;exact z _ (by decide) (by decide)
def de (B:Nat) (n m:Int):RV:=⟨bQ n m,some ⟨B+5,0,none⟩,2,2,some ⟨B+7,0,none⟩,1,1,some ⟨B+8,0,none⟩,2,2,some ⟨B+9,0,none⟩,1,1,some ⟨B+10,0,none⟩,2,2,some ⟨B+11,0,none⟩,1,1⟩
structure cw (B:Nat) (n m:Int) (w:World):Prop where
 ws:w.heap[B+5]?=some (.cells #[.int .u8 0,.int .u8 0,.int .u8 0,.int .u8 0,.int .u8 0,.int .u8 0,.int .u8 0,.int .u8 1,.int .i16 0,.int .i16 0,.int .i16 0,.int .i16 0,.int .u8 1,.int .u8 1,.int .i64 0,.int .i64 10,.int .i64 0,.int .i64 0,.int .u8 0,.int .u8 0,.int .u8 0,.int .u8 0,.int .u8 0,.int .u8 0,.int .u8 0,.int .u8 2,.int .i16 1,.int .i16 0,.int .i16 0,.int .i16 0,.int .u8 1,.int .u8 1,.int .i64 5,.int .i64 10,.int .i64 0,.int .i64 1] 79 (0,0))
 ds:w.heap[B+7]?=some (.cells #[.int .u8 0,.int .u8 0,.int .u8 0,.int .u8 0,.int .u8 0,.int .u8 0,.int .u8 0,.int .u8 7,.int .i16 0,.int .i16 2,.int .u8 4,.int .u8 0,.int .i64 3,.int .i64 0] 83 (0,0))
 es:w.heap[B+8]?=some (.cells #[.int .i64 0,.int .i64 0,.int .i64 n,.int .i64 1,.int .i64 0,.int .i64 18] 114 (0,0))
 ps:w.heap[B+9]?=some (.cells #[.int .i64 1,.int .i64 0] 69 (0,0))
 ys:w.heap[B+10]?=some (.cells #[.int .i64 0,.int .i64 m] 3 (0,0))
 zs:w.heap[B+11]?=some (.cells #[.int .i64 13] 3 (0,0))
theorem cw.keep {B:Nat} {n m:Int} {w w':World} {X:Nat→Prop} (h:cw B n m w) (hk:Keep X w w') (hx:∀ k,5≤k→k≤11→¬ X (B+k)):cw B n m w':=
 ⟨hk.old h.ws (hx 5 (by omega) (by omega)),hk.old h.ds (hx 7 (by omega) (by omega)),hk.old h.es (hx 8 (by omega) (by omega)),hk.old h.ps (hx 9 (by omega) (by omega)),hk.old h.ys (hx 10 (by omega) (by omega)),hk.old h.zs (hx 11 (by omega) (by omega))⟩
theorem cw.setW {B:Nat} {n m:Int} {w:World} (h:cw B n m w) (k:Int):cw B k m (w.setCell ⟨B+8,2,none⟩ (.int .i64 k)):=by
 have hk:=aJ w (B+8) 2 (.int .i64 k);have q:=ae h.es 2 (.int .i64 k);exact ⟨hk.old h.ws (by omega),hk.old h.ds (by omega),by simpa only [wU,xi,xj] using q,hk.old h.ps (by omega),hk.old h.ys (by omega),hk.old h.zs (by omega)⟩
theorem cw.setY {B:Nat} {n m:Int} {w:World} (h:cw B n m w) (k:Int):cw B n k (w.setCell ⟨B+10,1,none⟩ (.int .i64 k)):=by
 have hk:=aJ w (B+10) 1 (.int .i64 k);have q:=ae h.ys 1 (.int .i64 k);exact ⟨hk.old h.ws (by omega),hk.old h.ds (by omega),hk.old h.es (by omega),hk.old h.ps (by omega),by simpa only [wU,xi,xj] using q,hk.old h.zs (by omega)⟩
theorem cI {w:World} {b:Nat} {vs:Array Value} {t:TypeId} (h:w.heap[b]?=some (.cells vs t (0,0))) {cs:List Value} (he:cs=vs.toList):RdC w (some ⟨b,0,none⟩) cs:=
 .inr ⟨b,0,rfl,fun j u hu=>by rw [Nat.zero_add,wG w b j vs t (0,0) h];subst he;simpa using hu⟩
theorem cw.in {B:Nat} {n m:Int} {w:World} (h:cw B n m w) (hn:ar n) (hm:ar m):(de B n m).In w:=
 ⟨rfl,cI h.ws rfl,(show (2:Nat)≤1048576 by decide),rfl,cI h.ds rfl,(show (1:Nat)≤1048576 by decide),rfl,cI h.es rfl,(show (2:Nat)≤1048576 by decide),rfl,cI h.ps rfl,(show (1:Nat)≤1048576 by decide),rfl,cI h.ys rfl,(show (2:Nat)≤1048576 by decide),rfl,cI h.zs rfl,(show (1:Nat)≤1048576 by decide),pG n m hn hm⟩
structure fe (B T:Nat) (n m:Int) (w0 wr:World):Prop where
 c:wr.heap[T]?=some (.cells #[.int .i64 2,.int .i64 2,.int .i64 2,.int .i64 10,.int .i64 5] 23 (0,0))
 x:wr.heap[T+1]?=some (.cells #[.int .i64 2,.slice (some ⟨B+5,0,none⟩) 2 2,.slice (some ⟨B+7,0,none⟩) 1 1,.int .i64 2,.int .i64 1,.slice (some ⟨B+8,0,none⟩) 2 2,.slice (some ⟨B+9,0,none⟩) 1 1,.slice (some ⟨B+10,0,none⟩) 2 2,.slice (some ⟨B+11,0,none⟩) 1 1] 34 (0,0))
 s:cw B n m wr
 below:Below w0.heap.size w0 wr
theorem fe.keep {B T:Nat} {n m:Int} {w0 wr w':World} {X:Nat→Prop} (h:fe B T n m w0 wr) (hk:Keep X wr w') (h1:∀ k,B+5≤k→k≤B+11→¬ X k) (h2:¬ X T) (h3:¬ X (T+1)) (h4:∀ k,k<w0.heap.size→¬ X k):fe B T n m w0 w':=
 ⟨hk.old h.c h2,hk.old h.x h3,h.s.keep hk (fun k hk1 hk2=>h1 _ (by omega) (by omega)),h.below.trans (hk.below h.below.size h4)⟩
theorem fe.next {B T:Nat} {n m:Int} {w0 wr w':World} (h:fe B T n m w0 wr) (hb:Below wr.heap.size wr w'):fe B T n m w0 w':=h.keep (Keep.of_below hb (wC _) (fun _=>False)) (fun _ _ _=>id) id id (fun _ _=>id)
theorem fe.setW {B T:Nat} {n m:Int} {w0 wr:World} (h:fe B T n m w0 wr) (hT:B+11<T) (hw:w0.heap.size≤B) (k:Int):fe B T k m w0 (wr.setCell ⟨B+8,2,none⟩ (.int .i64 k)):=
 ⟨(aJ wr (B+8) 2 _).old h.c (by omega),(aJ wr (B+8) 2 _).old h.x (by omega),h.s.setW k,h.below.trans ((aJ wr (B+8) 2 (.int .i64 k)).below h.below.size (fun i hi he=>by omega))⟩
theorem fe.setY {B T:Nat} {n m:Int} {w0 wr:World} (h:fe B T n m w0 wr) (hT:B+11<T) (hw:w0.heap.size≤B) (k:Int):fe B T n k w0 (wr.setCell ⟨B+10,1,none⟩ (.int .i64 k)):=
 ⟨(aJ wr (B+10) 1 _).old h.c (by omega),(aJ wr (B+10) 1 _).old h.x (by omega),h.s.setY k,h.below.trans ((aJ wr (B+10) 1 (.int .i64 k)).below h.below.size (fun i hi he=>by omega))⟩
theorem jN (w:World):Calls Tryz.prog 16 #[] w fun e w'=>e = .returned (.bool true)∧Below w.heap.size w w':=by
 go_enter Tryz.func16,Tryz.ntmps16
 go_wp2_with fail
 refine (m5 w).mono ?_;rintro e w2 ⟨rfl,hs,hb2⟩;have hlt2:w.heap.size+11<w2.heap.size:=lt_of_block hs.zs
 obtain ⟨W,hW,hc,hx,hbW⟩:∃ W,(w2.alloc (.cells #[.int .i64 2,.int .i64 2,.int .i64 2,.int .i64 10,.int .i64 5] 23)).alloc (.cells #[.int .i64 2,.slice (some ⟨w.heap.size+5,0,none⟩) 2 2,.slice (some ⟨w.heap.size+7,0,none⟩) 1 1,.int .i64 2,.int .i64 1,.slice (some ⟨w.heap.size+8,0,none⟩) 2 2,.slice (some ⟨w.heap.size+9,0,none⟩) 1 1,.slice (some ⟨w.heap.size+10,0,none⟩) 2 2,.slice (some ⟨w.heap.size+11,0,none⟩) 1 1] 34)=W∧W.heap[w2.heap.size]?=some (.cells #[.int .i64 2,.int .i64 2,.int .i64 2,.int .i64 10,.int .i64 5] 23 (0,0))∧W.heap[w2.heap.size+1]?=some (.cells #[.int .i64 2,.slice (some ⟨w.heap.size+5,0,none⟩) 2 2,.slice (some ⟨w.heap.size+7,0,none⟩) 1 1,.int .i64 2,.int .i64 1,.slice (some ⟨w.heap.size+8,0,none⟩) 2 2,.slice (some ⟨w.heap.size+9,0,none⟩) 1 1,.slice (some ⟨w.heap.size+10,0,none⟩) 2 2,.slice (some ⟨w.heap.size+11,0,none⟩) 1 1] 34 (0,0))∧Below w2.heap.size w2 W:=by
  refine ⟨_,rfl,(Keep.alloc (fun _=>False) _ _).old (wF w2 _) id,?_,((wI _ _).alloc (wC _) _).alloc (by simp) _⟩;have:=wF (w2.alloc (.cells #[.int .i64 2,.int .i64 2,.int .i64 2,.int .i64 10,.int .i64 5] 23)) (.cells #[.int .i64 2,.slice (some ⟨w.heap.size+5,0,none⟩) 2 2,.slice (some ⟨w.heap.size+7,0,none⟩) 1 1,.int .i64 2,.int .i64 1,.slice (some ⟨w.heap.size+8,0,none⟩) 2 2,.slice (some ⟨w.heap.size+9,0,none⟩) 1 1,.slice (some ⟨w.heap.size+10,0,none⟩) 2 2,.slice (some ⟨w.heap.size+11,0,none⟩) 1 1] 34);rw [show (w2.alloc (.cells #[.int .i64 2,.int .i64 2,.int .i64 2,.int .i64 10,.int .i64 5] 23)).heap.size=w2.heap.size+1 by simp] at this;exact this
 have HL:=wB (show fe w.heap.size w2.heap.size 13 5 w W from
  have hk:=Keep.of_below hbW (wC _) (fun _=>False)
  ⟨hc,hx,cw.keep (w:=w2) ⟨hs.ws,hs.ds,hs.es,hs.ps,hs.ys,hs.zs⟩ hk (fun _ _ _=>id),Below.next hb2 hbW⟩)
 have HW:=wB hW;have HLT:=wB hlt2;have HTW:=wB (lt_of_block hx);clear hs hb2 hlt2 hW hc hx hbW;go_wp2_with fail
 rw [HW.out];obtain ⟨B,hB⟩:∃ B,w.heap.size=B:=⟨_,rfl⟩;obtain ⟨T,hT⟩:∃ T,w2.heap.size=T:=⟨_,rfl⟩;have HBB:=wB hB;rw [hB] at HL HLT ⊢;rw [hT] at HL HLT HTW ⊢;clear hB hT HW;have hin:=fun (n m:Int) (hn:ar n) (hm:ar m) (w':World) (h:fe B T n m w w')=>(h.s.in hn hm:(de B n m).In w')
 have HIN:=wB hin;clear hin;have z13:ar 13:=⟨by decide,by decide⟩;have z12:ar 12:=⟨by decide,by decide⟩;have z5:ar 5:=⟨by decide,by decide⟩;have z6:ar 6:=⟨by decide,by decide⟩;refine (my W aM).mono ?_;rintro e w3 (⟨hc,_⟩ | ⟨hc,A,M,rfl,hb3,hau,hA,hM,hAM⟩)
 · rw [iN] at hc;cases hc
 have HR3:=wB (HL.out.next hb3);have HAU3:=wB hau;have HA:=wB hA;have HM:=wB hM;have HAM:=wB hAM;have HX:=wB (show ∀ k,k≤T+1→¬ (k=A∨k=M) from fun k hk h=>by have:=HTW.out;omega)
 have HAP:=wB (show ∀ n m,jt (de B n m) A M from fun n m=>jt.of fun ao h b o e=>by
  have hl:=HLT.out;refine HX.out b ?_;rcases h with rfl | rfl | rfl | rfl | rfl | rfl <;> (simp only [de,Option.some.injEq,Addr.mk.injEq] at e;omega))
 clear hc hb3 hau hA hM hAM;obtain ⟨c0,c1,c2,c3,c4⟩:=aK (c:=aM) HR3.out.c;obtain ⟨x0,x1,x2,x3,x4,x5,x6,x7,x8⟩:=cells9 HR3.out.x;go_wp2_with fail
 clear c0 c1 c2 c3 c4 x0 x1 x2 x3 x4 x5 x6 x7 x8;refine (cC w3 aM (de B 13 5) (HIN.out 13 5 z13 z5 _ HR3.out)).mono ?_;rintro e w4 ⟨rfl,hb4⟩;have HR4:=wB (HR3.out.next hb4);have HAU4:=wB (HAU3.out.keep hb4);rw [show aL aM (de B 13 5).x=0 from ed.1];clear hb4;obtain ⟨c0,c1,c2,c3,c4⟩:=aK (c:=aM) HR4.out.c;obtain ⟨x0,x1,x2,x3,x4,x5,x6,x7,x8⟩:=cells9 HR4.out.x;go_wp2_with fail
 clear c0 c1 c2 c3 c4 x0 x1 x2 x3 x4 x5 x6 x7 x8;refine (nf w4 ⟨aM,0,[]⟩ A M 0 (de B 13 5) HAU4.out (HIN.out 13 5 z13 z5 _ HR4.out) (HAP.out 13 5) HAM.out iN ⟨by decide,by decide⟩ (by decide)).mono ?_;rintro e w5 ⟨rfl,hau5,k5⟩;rw [show db ⟨aM,0,[]⟩ (de B 13 5).x=_ from re] at hau5 ⊢;have HR5:=wB (HR4.out.keep k5 (fun k h1 h2=>HX.out k (by have:=HLT.out;omega)) (HX.out T (by omega)) (HX.out (T+1) (by omega)) (fun k hk=>HX.out k (by have:=HBB.out;have:=HLT.out;omega)));have HAU5:=wB hau5;clear hau5 k5;generalize ij 2 (bQ 13 5).ws (bQ 13 5).ps (fv 2 (bQ 13 5).ws [])=m at *;obtain ⟨c0,c1,c2,c3,c4⟩:=aK (c:=aM) HR5.out.c;obtain ⟨x0,x1,x2,x3,x4,x5,x6,x7,x8⟩:=cells9 HR5.out.x;go_wp2_with fail
 clear c0 c1 c2 c3 c4 x0 x1 x2 x3 x4 x5 x6 x7 x8;refine (nf w5 ⟨aM,2,m⟩ A M (0+128) (de B 13 5) HAU5.out (HIN.out 13 5 z13 z5 _ HR5.out) (HAP.out 13 5) HAM.out iN ⟨show (0:Int)≤2 by decide,show (2:Int)≤1099511627776 by decide⟩ (by decide)).mono ?_;rintro e w6 ⟨rfl,hau6,k6⟩;rw [show db ⟨aM,2,m⟩ (de B 13 5).x=_ from rg m] at hau6 ⊢;have HR6:=wB (HR5.out.keep k6 (fun k h1 h2=>HX.out k (by have:=HLT.out;omega)) (HX.out T (by omega)) (HX.out (T+1) (by omega)) (fun k hk=>HX.out k (by have:=HBB.out;have:=HLT.out;omega)));clear hau6 k6;have HR7:=wB (HR6.out.setW HLT.out (by have:=HBB.out;omega) 12);obtain ⟨c0,c1,c2,c3,c4⟩:=aK (c:=aM) HR6.out.c;obtain ⟨x0,x1,x2,x3,x4,x5,x6,x7,x8⟩:=cells9 HR6.out.x;have e2:w6.cell? ⟨B+8,2,none⟩=some (.int .i64 13):=by rw [wG w6 _ _ _ _ (0,0) HR6.out.s.es];rfl
 have ef:=fun j=>wZ w6 (B+8) j _ _ HR6.out.s.es
 obtain ⟨d0,d1,d2,d3,d4⟩:=aK (c:=aM) HR7.out.c;obtain ⟨y0,y1,y2,y3,y4,y5,y6,y7,y8⟩:=cells9 HR7.out.x;go_wp2_with fail
 clear c0 c1 c2 c3 c4 x0 x1 x2 x3 x4 x5 x6 x7 x8 d0 d1 d2 d3 d4 y0 y1 y2 y3 y4 y5 y6 y7 y8 e2 ef;generalize w6.setCell ⟨B+8,2,none⟩ (.int .i64 12)=w7 at *;refine (cC w7 aM (de B 12 5) (HIN.out 12 5 z12 z5 _ HR7.out)).mono ?_;rintro e w8 ⟨rfl,hb8⟩;have HR8:=wB (HR7.out.next hb8);rw [show aL aM (de B 12 5).x=260 from ed.2.1];clear hb8;have HR9:=wB (HR8.out.setW HLT.out (by have:=HBB.out;omega) 13);have HR10:=wB (HR9.out.setY HLT.out (by have:=HBB.out;omega) 6);obtain ⟨c0,c1,c2,c3,c4⟩:=aK (c:=aM) HR8.out.c;obtain ⟨x0,x1,x2,x3,x4,x5,x6,x7,x8⟩:=cells9 HR8.out.x;have e2:w8.cell? ⟨B+8,2,none⟩=some (.int .i64 12):=by rw [wG w8 _ _ _ _ (0,0) HR8.out.s.es];rfl
 have ef:=fun j=>wZ w8 (B+8) j _ _ HR8.out.s.es
 have u1:w8.cell? ⟨B+10,1,none⟩=some (.int .i64 5):=by rw [wG w8 _ _ _ _ (0,0) HR8.out.s.ys];rfl
 have uf:=fun j=>wZ w8 (B+10) j _ _ HR8.out.s.ys
 obtain ⟨d0,d1,d2,d3,d4⟩:=aK (c:=aM) HR9.out.c;obtain ⟨y0,y1,y2,y3,y4,y5,y6,y7,y8⟩:=cells9 HR9.out.x;obtain ⟨g0,g1,g2,g3,g4⟩:=aK (c:=aM) HR10.out.c;obtain ⟨h0,h1,h2,h3,h4,h5,h6,h7,h8⟩:=cells9 HR10.out.x;go_wp2_with fail
 clear c0 c1 c2 c3 c4 x0 x1 x2 x3 x4 x5 x6 x7 x8 d0 d1 d2 d3 d4 y0 y1 y2 y3 y4 y5 y6 y7 y8 g0 g1 g2 g3 g4 h0 h1 h2 h3 h4 h5 h6 h7 h8 e2 ef u1 uf;generalize (w8.setCell ⟨B+8,2,none⟩ (.int .i64 13)).setCell ⟨B+10,1,none⟩ (.int .i64 6)=w9 at *;refine (cC w9 aM (de B 13 6) (HIN.out 13 6 z13 z6 _ HR10.out)).mono ?_;rintro e w10 ⟨rfl,hb10⟩;have HR11:=wB (HR10.out.next hb10);rw [show aL aM (de B 13 6).x=182 from ed.2.2];clear hb10;have hev:∀ w,(Op.equalIn 10000 62 (.agg #[.int .i64 0,.int .i64 0,.int .i64 250]) (.agg #[.int .i64 0,.int .i64 0,.int .i64 250])).run Tryz.prog w = .ok true w:=fun w=>by kernel_rfl
 go_wp2_with fail
 refine (vA w10).mono ?_;rintro e w11 ⟨rfl,hb11⟩;have HR12:=wB (HR11.out.next hb11);clear hb11;go_wp2_with fail
 go_ret
 exact ⟨rfl,HR12.out.below⟩
end Go.Proofs.YtcaicgipibcicaaGreat
namespace Go.Proofs.YtcaicgipibcicaaGreat
open Go.RowKit
theorem Rd.placeB1 {w:World} {ao:Option Addr} {l:List UInt8} (hr:Rd w ao l) (h:0<l.length):∃ b o,ao=some ⟨b,o,none⟩∧b<w.heap.size:=by
 rcases hr with rfl | ⟨b,o,rfl,hc⟩
 · cases h
 · exact ⟨b,o,rfl,World.block_lt_of_cell? w ⟨b,o,none⟩ (by have:=hc 0 h;simpa using this)⟩
theorem Row.setB1 {w:World} {g cap size:Nat} {xs:List Value} (h:Row w g cap size xs) (i:Nat) (v:Value) (hi:i<cap*size):Row (w.setCell ⟨g,i,none⟩ v) g cap size (xs.set i v):=by
 have hK:=Keep.setCells w g i [v];have hsc:w.setCells g i [v]=w.setCell ⟨g,i,none⟩ v:=rfl;rw [←hsc];refine ⟨Nat.lt_of_lt_of_le h.lt hK.size,fun j u hu=>?_,fun j hj=>World.isSome_setCells g [v] _ w _ (h.there j hj),fun j hj=>by rw [World.frozen?_setCells];exact h.free j hj⟩;by_cases hj:j=i
 · subst hj
   have h1:=World.cell?_setCells_in g [v] j w (fun k hk=>by simp at hk;subst hk;exact h.there _ (by simpa using hi)) 0 (by simp);rw [List.getElem?_set] at hu;simp only [if_true] at hu;split at hu
   · cases hu;simpa using h1
   · cases hu
 · rw [World.cell?_setCells_out g [v] _ w ⟨g,j,none⟩ (fun _ _=>by simp;omega)]
   rw [List.getElem?_set_ne (fun e=>hj e.symm)] at hu;exact h.cell j u hu
theorem jl (l:List UInt8) (i:Nat) (b:UInt8):aS (l.set i b)=(aS l).set i (.int .u8 (b.toNat:Int)):=by simp [aS]
theorem ms (n:Nat) (w:World) (hn:n≤1000000000000):Calls Tryz.prog 65 #[.int .i64 n] w fun e w'=>e = .returned (.int .u8 ((1+n % 255:Nat):Int))∧w=w':=by
 go_enter Tryz.func65,Tryz.ntmps65
 go_wp2_with fail
 go_ret
 exact ⟨by show Ending.returned (.int .u8 (1+(n:Int) % 255))=_;congr 2,rfl⟩
def kS:UInt8:=128
theorem jO (w:World) (ao:Option Addr) (k c:Nat) (b:List UInt8) (hbk:b.length=k) (hrb:Rd w ao b) (hk:k≤100000000000) :
 Calls Tryz.prog 23 #[.slice ao k c] w fun e w'=>e = .returned (.slice (some ⟨w.heap.size,0,none⟩) k (k+1))∧Row w' w.heap.size (k+1) 1 (aS (b++[kS]))∧Below w.heap.size w w':=by
 obtain ⟨i5,hi,hz0,hz1,hz2⟩:=dF kM
 have hmk:(Instr.makeSlice 59 (.int .i64 ((k:Int)+1)) (.int .i64 ((k:Int)+1))).run Tryz.prog w = .ok (.slice (some ⟨w.heap.size,0,none⟩) (k+1) (k+1)) (w.alloc (.cells (aS (List.replicate (k+1) 0)).toArray 5)):=by
  have h:=run_make (P:=Tryz.prog) w 59 5 i5 (.int .u8 0) Tryz.underlying59 hi hz0 .i64 .i64 ((k:Int)+1) ((k:Int)+1) (by omega) (by omega) (by rw [hz2];omega) (by omega);have e:((k:Int)+1).toNat=k+1:=by omega
  rw [e] at h;rw [h]
  have hc:madeCells (Value.int .u8 0).cells ((k+1)*i5.size)=(aS (List.replicate (k+1) 0)).toArray:=by
   apply Array.ext
   · rw [size_madeCells,hz1];simp [aS]
   · intro j h1 h2
     simp [madeCells,aS,Value.cells,Nat.mod_one]
  rw [hc]
 have hrow0:Row (w.alloc (.cells (aS (List.replicate (k+1) 0)).toArray 5)) w.heap.size (k+1) 1 (aS (List.replicate (k+1) 0)):=by
  refine Row.made w _ 5 (0,0) (k+1) 1 _ (by simp [aS]) (.inl rfl) (fun j u hu=>by simpa using hu)
 have hb0:=(wI w.heap.size w).alloc (wC _) (.cells (aS (List.replicate (k+1) 0)).toArray 5);generalize w.alloc (.cells (aS (List.replicate (k+1) 0)).toArray 5)=W at *;have hst:=wB (show Row W w.heap.size (k+1) 1 (aS (b.take 0++List.replicate (k+1 - 0) 0))∧Below w.heap.size w W from ⟨by simpa using hrow0,hb0⟩);have HL:=wB hbk;have HR:=wB hrb;clear hrow0 hb0 hbk hrb;go_enter Tryz.func23,Tryz.ntmps23
 go_wp2_with fail
 go_loopw [4] (fun i wr=>Hid (∃ j:Nat,i = .int .i64 j∧j≤k∧Row wr w.heap.size (k+1) 1 (aS (b.take j++List.replicate (k+1 - j) 0))∧Below w.heap.size w wr)) (fun i _=>k - (intOf i).toNat)
 case atStart=>exact wB ⟨0,rfl,Nat.zero_le _,hst.out.1,hst.out.2⟩
 case round=>
  obtain ⟨j,rfl,hj,hr,hbr⟩:=hrel.out;have HRR:=wB hr;have HBR:=wB hbr;clear hr hbr hrel;by_cases hlt:j<k
  · have hj':j<b.length:=by rw [HL.out];exact hlt
    obtain ⟨b',o,rfl,hbw⟩:=HR.out.placeB1 (by rw [HL.out];omega)
    have hcb:wr.cell? ⟨b',o+j,none⟩=some (.int .u8 ((b[j]).toNat:Int)):=by
     rcases Below.rd HBR.out HR.out (wC _) with h | ⟨b2,o2,h,hc⟩
     · rw [h] at hj';simp at hj'
     · cases h;exact hc j hj'
    have hlen:(b.take j).length=j:=by rw [List.length_take];omega
    have hget:((b.take j)++List.replicate (k+1 - j) (0:UInt8))[j]?=some 0:=by
     rw [xo (by omega),hlen,Nat.sub_self,List.getElem?_replicate,if_pos (by omega)]
    have hc0:wr.cell? ⟨w.heap.size,j,none⟩=some (.int .u8 0):=HRR.out.cell j _ (by simp only [aS,List.getElem?_map,hget,Option.map_some];rfl);have hf0:wr.frozen? ⟨w.heap.size,j,none⟩=false:=HRR.out.free j (by omega)
    have hnext:b.take (j+1)++List.replicate (k+1 - (j+1)) (0:UInt8)=(b.take j++List.replicate (k+1 - j) 0).set j b[j]:=by
     rw [List.take_succ_eq_append_getElem hj',List.set_append_right _ _ (by omega),hlen,Nat.sub_self,show k+1 - j=(k+1 - (j+1))+1 by omega,List.replicate_succ,List.append_assoc];rfl
    have HS:=wB (HRR.out.setB1 j (.int .u8 ((b[j]).toNat:Int)) (by omega));have HBS:=wB (HBR.out.setCell (p:=⟨w.heap.size,j,none⟩) (wC _) (.int .u8 ((b[j]).toNat:Int)))
    have hN:Row (wr.setCell ⟨w.heap.size,j,none⟩ (.int .u8 ((b[j]).toNat:Int))) w.heap.size (k+1) 1 (aS (b.take (j+1)++List.replicate (k+1 - (j+1)) 0)):=by
     rw [hnext,jl];exact HS.out
    have HN2:=wB hN;have hb8:=(b[j]).toNat_lt;clear hN hget hlen hnext;generalize (b[j]).toNat=z at *;go_wp2_with fail
    go_roundw
    case rel=>exact wB ⟨j+1,by go_num,by omega,HN2.out,HBS.out⟩
    case measure=>simp [intOf];omega
  · obtain rfl:j=k:=by omega
    have htk:b.take j=b:=List.take_of_length_le (by rw [HL.out];exact wC _);have hone:List.replicate (j+1 - j) (0:UInt8)=[0]:=by rw [show j+1 - j=1 by omega];rfl
    have hrw:=HRR.out;rw [htk,hone] at hrw;have hget:(b++[(0:UInt8)])[j]?=some 0:=by rw [xo (by rw [HL.out];exact wC _),HL.out,Nat.sub_self];rfl
    have hc0:wr.cell? ⟨w.heap.size,j,none⟩=some (.int .u8 0):=hrw.cell j _ (by simp only [aS,List.getElem?_map,hget,Option.map_some];rfl);have hf0:wr.frozen? ⟨w.heap.size,j,none⟩=false:=hrw.free j (by omega)
    have hset:(b++[(0:UInt8)]).set j kS=b++[kS]:=by
     rw [List.set_append_right _ _ (by rw [HL.out];exact wC _),HL.out,Nat.sub_self];rfl
    have hs:=hrw.setB1 j (.int .u8 128) (by omega)
    have hs':Row (wr.setCell ⟨w.heap.size,j,none⟩ (.int .u8 128)) w.heap.size (j+1) 1 (aS (b++[kS])):=by
     rw [←hset,jl];exact hs
    have HS:=wB hs';have HBS:=wB (HBR.out.setCell (p:=⟨w.heap.size,j,none⟩) (wC _) (.int .u8 128));have HM:=wB (fun w=>ms 7777 w (by omega));clear htk hone hrw hget hset hs hs' hst;go_wp2_with fail
    refine (HM.out _).mono ?_;rintro e w2 ⟨rfl,rfl⟩;go_wp2_with fail
    go_ret
    exact ⟨rfl,HS.out,HBS.out⟩
end Go.Proofs.YtcaicgipibcicaaGreat
namespace Go.Proofs.YtcaicgipibcicaaGreat
open Go.RowKit Go.Sort
theorem m6 (w:World) (at_:Int) (n:Nat) (h1:1≤n) (h2:n≤4611686018427387903) (hat:ar at_) :
 Calls Tryz.prog 27 #[.int .i64 at_,.int .i64 n] w fun e w'=>(∃ k:Nat,k<n∧e = .returned (.int .i64 k))∧Below w.heap.size w w':=by
 have hlt:=Int.tmod_lt_of_pos at_ (show (0:Int)<n by omega)
 have hgt:-(n:Int)<at_.tmod n:=by
  have:=Int.lt_tmod_of_pos at_ (show (0:Int)<n by omega);omega
 have hn0:¬ (n:Int)=0:=by omega
 unfold ar at hat
 go_enter Tryz.func27,Tryz.ntmps27
 go_wp2_with fail
 · go_ret
   exact ⟨⟨(at_.tmod n+n).toNat,by omega,by rw [Int.toNat_of_nonneg (by omega)];rfl⟩,wI _ _⟩
 · go_ret
   exact ⟨⟨(at_.tmod n).toNat,by omega,by rw [Int.toNat_of_nonneg (by omega)];rfl⟩,wI _ _⟩
end Go.Proofs.YtcaicgipibcicaaGreat
namespace Go.Proofs.YtcaicgipibcicaaGreat
open Go.RowKit
def rH (k:IntKind) (w:World) (a:Option Addr) (len cap:Nat) (zs:List Int):Prop:=
 (a=none∧len=0∧cap=0∧zs=[])∨
 ∃ x,a=some x∧len≤cap∧cap≤maxLen∧zs.length=cap∧(∀ i,i<zs.length→w.cell? (x.add i)=some (.int k (zs.getD i 0)))∧∀ n ∈ zs,(Lit.int k n).wf=true
theorem u8_of (n:Int) (h:(Lit.int .u8 n).wf=true):((UInt8.ofNat n.toNat).toNat:Int)=n:=by
 simp only [Lit.wf,xn,decide_eq_true_eq] at h;have h1:(0:Int)≤n:=h.1;have h2:n≤(255:Int):=h.2;simp [UInt8.toNat_ofNat'];omega
theorem va {w:World} {a:Option Addr} {len cap:Nat} {zs:List Int} (h:rH .u8 w a len cap zs):∃ l:List UInt8,l.length=len∧Rd w a l∧len≤cap:=by
 rcases h with ⟨rfl,rfl,rfl,rfl⟩ | ⟨x,rfl,hl,hm,hz,hc,hw⟩
 · exact ⟨[],rfl,.inl rfl,wC _⟩
 · refine ⟨(zs.take len).map fun n=>UInt8.ofNat n.toNat,by simp;omega,?_,hl⟩
   by_cases h0:len=0
   · subst h0;exact .inl (by simp)
   · obtain ⟨b,off,spot⟩:=x
     have hc0:=hc 0 (by omega);have hspot:spot=none:=by simpa [Addr.add] using World.cell?_spot hc0
     subst hspot;refine .inr ⟨b,off,rfl,fun i hi=>?_⟩;simp at hi;have hadd:(⟨b,off,none⟩:Addr).add i=⟨b,off+i,none⟩:=by unfold Addr.add;split <;> simp_all
     have:=hc i (by omega);rw [hadd] at this;rw [this];have hlt:i<zs.length:=by omega
     have hv:=u8_of zs[i] (hw _ (List.getElem_mem hlt));simp only [List.getElem_map,List.getElem_take];rw [hv];simp [List.getD,hlt]
theorem rI {k:IntKind} {w:World} {a:Option Addr} {len cap:Nat} {zs:List Int} (h:rH k w a len cap zs):len≤9223372036854775807:=by
 rcases h with ⟨_,rfl,_,_⟩ | ⟨x,_,hl,hm,_⟩
 · omega
 · have h2:cap≤2 ^ 63 - 1:=hm
   omega
theorem m7 {P:Program} {w:World} {base:Nat} {t e:TypeId} {a0:Option Addr} {len cap:Nat} (ht:P.underlying t=some (.slice e)) (h:Value.okWide P w .any base t (.slice a0 len cap)):∀ a,a0=some a→a.block<w.heap.size:=by
 rintro a rfl;simp only [Value.okWide,ht,Cell.okWide,Cell.ok] at h;obtain ⟨_,_,_,_,row,cells,hs,_⟩:=h;unfold World.shape? at hs;refine Nat.lt_of_not_le fun hle=>?_
 rw [Array.getElem?_eq_none hle] at hs;cases hs
end Go.Proofs.YtcaicgipibcicaaGreat
