/- Chapter 16 in the program: small sums, what a pair is worth. -/
import Derived.Test.YtcaicgipibcicaaGreatQLoadE
import Derived.Test.YtcaicgipibcicaaGreatQVals
import Derived.Test.YtcaicgipibcicaaGreatQHeldTail
import Derived.Test.YtcaicgipibcicaaGreatQRFit3
import Derived.Laws.Externs
import Derived.Test.YtcaicgipibcicaaGreatQApp
set_option maxRecDepth 100000
set_option maxHeartbeats 8000000
set_option linter.unusedSimpArgs false
set_option linter.unusedVariables false
open Go.Lib renaming hid→wB
open List renaming getElem?_eq_some_iff→wD,mem_of_getElem?→wM
open Nat renaming le_refl→wC
namespace Go.Proofs.YtcaicgipibcicaaGreat
open Go.RowKit Go.Sort
theorem pR (x y:Int) (hx:0≤x) (hy:0≤y) (hs:x+y≤9223372036854775807) (w:World) :
 (callFunc 193 #[.int .u64 x,.int .u64 y,.int .u64 0]).run Tryz.prog w = .ok (.value (.tuple #[.int .u64 (x+y),.int .u64 0])) w:=by
 rw [run_callFunc_extern Tryz.func193 (by kernel_rfl) (by kernel_rfl) (by kernel_rfl) (e:=add64Entry) (by kernel_rfl),run_add64 x y 0 hx hy (by omega) (by omega)];rw [show (x+y+0) % 18446744073709551616=x+y by omega,show (x+y+0) / 18446744073709551616=0 by omega];rfl
theorem iP {l:List Int} (h:∀ x ∈ l,0≤x):0≤l.sum:=by
 induction l with
 | nil=>simp
 | cons a l ih=>have h1:=h a (by simp);have h2:=ih (fun x hx=>h x (by simp [hx]));simp only [List.sum_cons];omega
theorem iv {l:List Int} {j:Nat} {x:Int} (hx:l[j]?=some x):(l.take (j+1)).sum=(l.take j).sum+x:=by
 rw [List.take_succ_eq_append_getElem (wD.1 hx).1,(wD.1 hx).2];simp
theorem tt {l:List Int} (hp:∀ x ∈ l,0≤x) (hs:l.sum≤4611686018427387903) {j:Nat} {x:Int} (hx:l[j]?=some x):x≤4611686018427387903∧0≤(l.take j).sum∧(l.take j).sum+x≤4611686018427387903:=by
 have h0:=iP (l:=l.take j) (fun y hy=>hp y (List.mem_of_mem_take hy));have h1:=iP (l:=l.drop (j+1)) (fun y hy=>hp y (List.mem_of_mem_drop hy));have h2:=iv hx;have h3:l.sum=(l.take (j+1)).sum+(l.drop (j+1)).sum:=by rw [←List.sum_append,List.take_append_drop]
 have h4:=hp x (wM hx);omega
theorem tu (w:World) (b n c:Nat) (l:List Int) (hl:l.length=n) (hr:RdC w (some ⟨b,0,none⟩) (cellsOf bL l)) (hn:n≤9007199254740992) (hp:∀ x ∈ l,0≤x) (hs:l.sum≤4611686018427387903) :
 Calls Tryz.prog 173 #[.slice (some ⟨b,0,none⟩) n c] w fun e w'=>e = .returned (.tuple #[.int .i64 l.sum,.bool true])∧w=w':=by
 have HL:=wB hl;have HR:=wB hr;have HP:=wB hp;have HS:=wB hs;clear hl hr hp hs;go_enter Tryz.func173,Tryz.ntmps173
 go_wp2_with fail
 go_loop [4,5,12] (fun a v i=>Hid (∃ j:Nat,a = .int .u64 0∧v = .int .u64 (l.take j).sum∧i = .int .i64 j∧j≤n)) (fun _ _ i=>n - (intOf i).toNat)
 case atStart=>exact wB ⟨0,rfl,rfl,rfl,Nat.zero_le _⟩
 case round=>
  obtain ⟨j,rfl,rfl,rfl,hj⟩:=hrel.out;clear hrel;by_cases hlt:j<n
  · obtain ⟨x,hx⟩:∃ x,l[j]?=some x:=⟨l[j]'(by rw [HL.out];exact hlt),List.getElem?_eq_getElem _⟩
    have hc:=vu HR.out hx;have hx0:=HP.out x (wM hx);have HX:=wB hx;clear hx;obtain ⟨hx1,hx2,hx3⟩:=tt HP.out HS.out HX.out;have HT:=wB (iv HX.out);generalize (l.take j).sum=s at *;go_wp2_with fail
    refine (jn _ x hx0 hx1).mono ?_;rintro e w1 ⟨rfl,rfl⟩;have hadd:=pR s x hx2 hx0 (by omega);have hsh:x / 9223372036854775808=0:=by omega
    go_wp2_with fail
    go_round
    case rel=>exact wB ⟨j+1,rfl,by rw [HT.out],by go_num,by omega⟩
    case measure=>simp [intOf];omega
  · obtain rfl:n=j:=by omega
    have HFULL:=wB (show (l.take n).sum=l.sum by rw [List.take_of_length_le (by rw [HL.out];exact wC _)]);have h1:0≤l.sum:=iP HP.out;have h2:=HS.out;rw [HFULL.out];obtain ⟨s,hsm⟩:∃ s,l.sum=s:=⟨_,rfl⟩;rw [hsm] at h1 h2 ⊢;have HSM:=wB hsm;clear hsm;have hsh:s / 9223372036854775808=0:=by omega
    go_wp2_with fail
    refine (jn _ s h1 h2).mono ?_;rintro e w1 ⟨rfl,rfl⟩;go_wp2_with fail
    go_ret2
    exact ⟨by rw [HSM.out];rfl,rfl⟩
def wtP (c:ag) (now:Int) (w:aa):Int × Int:=eV c now w (bt c w.r)
theorem tv {c:ag} {now:Int} {w:aa} (h:bt c w.r≠0):wtP c now w=(0,bt c w.r):=by simp only [wtP,eV,if_pos h]
theorem nR {c:ag} {now:Int} {w:aa} (h0:bt c w.r=0) (h:¬ (0≤now∧now≤1099511627776∧0≤w.since∧w.since≤1099511627776∧w.since≤now)):wtP c now w=(0,1):=by
 simp only [wtP,eV,h0,ne_eq,not_true_eq_false,if_false,if_pos h]
theorem vo {c:ag} {now:Int} {w:aa} (h0:bt c w.r=0) (h:0≤now∧now≤1099511627776∧0≤w.since∧w.since≤1099511627776∧w.since≤now) (h1:w.r.ttl<now - w.since):wtP c now w=(0,131):=by
 simp only [wtP,eV,h0,ne_eq,not_true_eq_false,if_false,if_neg (fun k:¬ _=>k h),if_pos h1]
theorem vp {c:ag} {now:Int} {w:aa} (h0:bt c w.r=0) (h:0≤now∧now≤1099511627776∧0≤w.since∧w.since≤1099511627776∧w.since≤now) (h1:¬ w.r.ttl<now - w.since):wtP c now w=((now - w.since)*(c.b+1)+w.r.base+1,0):=by
 simp only [wtP,eV,h0,ne_eq,not_true_eq_false,if_false,if_neg (fun k:¬ _=>k h),if_neg h1]
theorem jo {c:ag} {r:aB} (h:bt c r=0):1≤c.b∧c.b≤1048576∧0≤r.base∧r.base≤c.b∧1≤r.ttl∧r.ttl≤c.ttl∧c.ttl≤1048576:=by
 unfold bt at h;cases hc:aG c with
 | false=>simp [hc] at h
 | true=>
   cases hm:iX c r with
   | false=>simp [hc,hm] at h
   | true=>
     unfold aG at hc;unfold iX at hm;simp only [Bool.and_eq_true] at hc hm;have h1:=of_decide_eq_true hc.2;have h2:=of_decide_eq_true hc.1.2;have h3:=of_decide_eq_true hm.2;have h4:=of_decide_eq_true hm.1.2;omega
theorem mul_bd {a b:Int} (h1:0≤a) (h2:a≤1048576) (h3:0≤b) (h4:b≤1048577):0≤a*b∧a*b≤1099512676352:=by
 obtain ⟨x,rfl⟩:=Int.eq_ofNat_of_zero_le h1;obtain ⟨y,rfl⟩:=Int.eq_ofNat_of_zero_le h3;have hlt:=Nat.mul_le_mul (show x≤1048576 by omega) (show y≤1048577 by omega);rw [show ((x:Int)*(y:Int))=((x*y:Nat):Int) by simp];omega
structure kE (w:World) (c:ag) (x:aa) (H0 H1:Nat) (wr:World):Prop where
 g:wr.heap[H0]?=some (.cells #[.int .i64 c.q,.int .i64 c.d,.int .i64 c.w,.int .i64 c.ttl,.int .i64 c.b] 23 (0,0))
 h:wr.heap[H1]?=some (.cells #[.int .u8 x.r.i0,.int .u8 x.r.i1,.int .u8 x.r.i2,.int .u8 x.r.i3,.int .u8 x.r.i4,.int .u8 x.r.i5,.int .u8 x.r.i6,.int .u8 x.r.i7,.int .i16 x.r.fx,.int .i16 x.r.fy,.int .i16 x.r.tx,.int .i16 x.r.ty,.int .u8 x.r.seats,.int .u8 x.r.classes,.int .i64 x.r.base,.int .i64 x.r.ttl,.int .i64 x.since,.int .i64 x.number] 79 (0,0))
 below:Below w.heap.size w wr
theorem kE.keep {w:World} {c:ag} {x:aa} {H0 H1:Nat} {wr w':World} (h:kE w c x H0 H1 wr) (hb:Below wr.heap.size wr w'):kE w c x H0 H1 w':=
 ⟨(Keep.of_below hb (wC _) (fun _=>False)).old h.g id,(Keep.of_below hb (wC _) (fun _=>False)).old h.h id,Below.next h.below hb⟩
theorem kE.begin (w:World) (c:ag) (x:aa):kE w c x w.heap.size (w.heap.size+1) ((w.alloc (.cells #[.int .i64 c.q,.int .i64 c.d,.int .i64 c.w,.int .i64 c.ttl,.int .i64 c.b] 23)).alloc (.cells #[.int .u8 x.r.i0,.int .u8 x.r.i1,.int .u8 x.r.i2,.int .u8 x.r.i3,.int .u8 x.r.i4,.int .u8 x.r.i5,.int .u8 x.r.i6,.int .u8 x.r.i7,.int .i16 x.r.fx,.int .i16 x.r.fy,.int .i16 x.r.tx,.int .i16 x.r.ty,.int .u8 x.r.seats,.int .u8 x.r.classes,.int .i64 x.r.base,.int .i64 x.r.ttl,.int .i64 x.since,.int .i64 x.number] 79)):=by
 refine ⟨(Keep.alloc (fun _=>False) _ _).old (heap_alloc_new w _) id,?_,((Below.refl w.heap.size w).alloc (wC _) _).alloc (by simp) _⟩;have:=heap_alloc_new (w.alloc (.cells #[.int .i64 c.q,.int .i64 c.d,.int .i64 c.w,.int .i64 c.ttl,.int .i64 c.b] 23)) (.cells #[.int .u8 x.r.i0,.int .u8 x.r.i1,.int .u8 x.r.i2,.int .u8 x.r.i3,.int .u8 x.r.i4,.int .u8 x.r.i5,.int .u8 x.r.i6,.int .u8 x.r.i7,.int .i16 x.r.fx,.int .i16 x.r.fy,.int .i16 x.r.tx,.int .i16 x.r.ty,.int .u8 x.r.seats,.int .u8 x.r.classes,.int .i64 x.r.base,.int .i64 x.r.ttl,.int .i64 x.since,.int .i64 x.number] 79);rw [show (w.alloc (.cells #[.int .i64 c.q,.int .i64 c.d,.int .i64 c.w,.int .i64 c.ttl,.int .i64 c.b] 23)).heap.size=w.heap.size+1 by simp] at this;exact this
theorem kE.cells {w:World} {c:ag} {x:aa} {H0 H1:Nat} {wr:World} (h:kE w c x H0 H1 wr):wr.cell? ⟨H0,4,none⟩=some (.int .i64 c.b)∧wr.cell? ⟨H1,14,none⟩=some (.int .i64 x.r.base)∧wr.cell? ⟨H1,15,none⟩=some (.int .i64 x.r.ttl)∧wr.cell? ⟨H1,16,none⟩=some (.int .i64 x.since):=by
 refine ⟨?_,?_,?_,?_⟩
 · rw [cell_of_row wr H0 _ _ _ (0,0) h.g];rfl
 all_goals rw [cell_of_row wr H1 _ _ _ (0,0) h.h];rfl
theorem RdC.laid (w:World) (cs:Array Value) (t:TypeId) (l:List Value) (h:cs.toList=l):RdC (w.alloc (.cells cs t)) (some ⟨w.heap.size,0,none⟩) l:=by
 refine .inr ⟨_,0,rfl,fun j u hu=>?_⟩;rw [Nat.zero_add,World.cell?_alloc_mark];subst h
 simpa using hu
theorem vq (w:World) (c:ag) (now:Int) (x:aa) (hx:x.Ok) (hnow:ar now):Calls Tryz.prog 129 #[.agg #[.int .i64 c.q,.int .i64 c.d,.int .i64 c.w,.int .i64 c.ttl,.int .i64 c.b],.int .i64 now,.agg #[.int .u8 x.r.i0,.int .u8 x.r.i1,.int .u8 x.r.i2,.int .u8 x.r.i3,.int .u8 x.r.i4,.int .u8 x.r.i5,.int .u8 x.r.i6,.int .u8 x.r.i7,.int .i16 x.r.fx,.int .i16 x.r.fy,.int .i16 x.r.tx,.int .i16 x.r.ty,.int .u8 x.r.seats,.int .u8 x.r.classes,.int .i64 x.r.base,.int .i64 x.r.ttl,.int .i64 x.since,.int .i64 x.number]] w fun e w'=>e = .returned (.tuple #[.int .i64 (wtP c now x).1,.int .i64 (wtP c now x).2])∧Below w.heap.size w w':=by
 have HXR:=wB hx.r;obtain ⟨xs1,xs2⟩:=hx.since;obtain ⟨xt1,xt2⟩:=hx.r.ttl;obtain ⟨nw1,nw2⟩:=hnow;clear hx;have HW:=wB (kE.begin w c x);obtain ⟨A,E,hAE⟩:∃ A E,wtP c now x=(A,E):=⟨_,_,rfl⟩;rw [hAE];have HAE:=wB hAE;clear hAE;go_enter Tryz.func129,Tryz.ntmps129
 go_upto_region 1 with fail
 generalize (w.alloc (.cells #[.int .i64 c.q,.int .i64 c.d,.int .i64 c.w,.int .i64 c.ttl,.int .i64 c.b] 23)).alloc (.cells #[.int .u8 x.r.i0,.int .u8 x.r.i1,.int .u8 x.r.i2,.int .u8 x.r.i3,.int .u8 x.r.i4,.int .u8 x.r.i5,.int .u8 x.r.i6,.int .u8 x.r.i7,.int .i16 x.r.fx,.int .i16 x.r.fy,.int .i16 x.r.tx,.int .i16 x.r.ty,.int .u8 x.r.seats,.int .u8 x.r.classes,.int .i64 x.r.base,.int .i64 x.r.ttl,.int .i64 x.since,.int .i64 x.number] 79)=W at *;generalize w.heap.size+1=H1 at *;have HHE:=wB (show ∃ H0,w.heap.size=H0 from ⟨_,rfl⟩);obtain ⟨H0,hH0⟩:=HHE.out;rw [hH0] at HW;rw [hH0];have HH:=wB hH0;clear hH0 HHE;go_wp2_with (first | ((with_reducible refine ad (o:=⟨some 13,_,_,_,_,_⟩) ?_ 23 (.tmp 3) ?_ H0 (0) ?_ c.cells #[.int .i64 c.q,.int .i64 c.d,.int .i64 c.w,.int .i64 c.ttl,.int .i64 c.b] ?_ _ (cq HW.out.g) Tryz.underlying23 ?_ ?_ ?_);rfl;rfl;rfl;rfl;rfl;exact cg) | ((with_reducible refine ad (o:=⟨some 15,_,_,_,_,_⟩) ?_ 77 (.tmp 14) ?_ H1 (0) ?_ x.r.cells #[.int .u8 x.r.i0,.int .u8 x.r.i1,.int .u8 x.r.i2,.int .u8 x.r.i3,.int .u8 x.r.i4,.int .u8 x.r.i5,.int .u8 x.r.i6,.int .u8 x.r.i7,.int .i16 x.r.fx,.int .i16 x.r.fy,.int .i16 x.r.tx,.int .i16 x.r.ty,.int .u8 x.r.seats,.int .u8 x.r.classes,.int .i64 x.r.base,.int .i64 x.r.ttl] ?_ _ (mN HW.out.h) Tryz.underlying77 ?_ ?_ ?_);rfl;rfl;rfl;rfl;rfl;exact uj))
 refine (check_any W c x.r).mono ?_;rintro e w1 ⟨rfl,hb1⟩;have HW1:=wB (HW.out.keep hb1);clear hb1 HW;obtain ⟨g4,k14,k15,k16⟩:=HW1.out.cells;by_cases h0:bt c x.r=0
 · have HB:=wB (jo h0)
   obtain ⟨b1,b2,b3,b4,b5,b6,b7⟩:=HB.out;have H0E:=wB h0;rw [h0];clear h0;go_wp2_with fail
   refine (mg w1 now).mono ?_;rintro e w2 ⟨rfl,rfl⟩;by_cases ht1:0≤now∧now≤1099511627776
   · obtain ⟨t1,t2⟩:=ht1
     rw [show eh now=true from decide_eq_true ⟨t1,t2⟩];go_wp2_with fail
     refine (mg w1 x.since).mono ?_;rintro e w2 ⟨rfl,rfl⟩;by_cases ht2:0≤x.since∧x.since≤1099511627776
     · obtain ⟨t3,t4⟩:=ht2
       rw [show eh x.since=true from decide_eq_true ⟨t3,t4⟩];by_cases ht3:now<x.since
       · have HE:=wB (Prod.mk.inj (HAE.out.symm.trans (nR H0E.out (by omega))))
         go_wp2_with fail
         go_ret2
         exact ⟨by rw [HE.out.1,HE.out.2];rfl,HW1.out.below⟩
       · have t5:x.since≤now:=by omega
         clear ht3;by_cases ht4:x.r.ttl<now - x.since
         · have HE:=wB (Prod.mk.inj (HAE.out.symm.trans (vo H0E.out ⟨t1,t2,t3,t4,t5⟩ ht4)))
           go_wp2_with fail
           go_ret2
           exact ⟨by rw [HE.out.1,HE.out.2];rfl,HW1.out.below⟩
         · have t6:now - x.since≤x.r.ttl:=by omega
           have HE:=wB (Prod.mk.inj (HAE.out.symm.trans (vp H0E.out ⟨t1,t2,t3,t4,t5⟩ ht4)));have hmb:=mul_bd (a:=now - x.since) (b:=c.b+1) (by omega) (by omega) (by omega) (by omega);have HM:=wB (fun w=>tr w (now - x.since) (c.b+1) (by omega) (by omega) (by omega) (by omega));obtain ⟨M,hM⟩:∃ M,(now - x.since)*(c.b+1)=M:=⟨_,rfl⟩;rw [hM] at HM hmb HE;obtain ⟨m1,m2⟩:=hmb;clear ht4 hM;go_wp2_with fail
           refine (HM.out w1).mono ?_;rintro e w2 ⟨rfl,rfl⟩;go_wp2_with fail
           have HB2:=wB (HW1.out.below.alloc HW1.out.below.size (.cells #[.int .i64 M,.int .i64 x.r.base,.int .i64 1] 3))
           refine (tu _ w1.heap.size 3 3 [M,x.r.base,1] rfl (RdC.laid w1 #[.int .i64 M,.int .i64 x.r.base,.int .i64 1] 3 _ rfl) (by omega) (fun y hy=>by
            simp only [List.mem_cons,List.not_mem_nil,or_false] at hy;rcases hy with rfl | rfl | rfl <;> omega) (by simp only [List.sum_cons,List.sum_nil];omega)).mono ?_
           rintro e w2 ⟨rfl,rfl⟩;have HS3:=wB (show [M,x.r.base,1].sum=A by rw [HE.out.1];simp only [List.sum_cons,List.sum_nil];omega);rw [HS3.out];generalize w1.alloc (.cells #[.int .i64 M,.int .i64 x.r.base,.int .i64 1] 3)=W2 at *;go_wp2_with fail
           go_ret2
           exact ⟨by rw [HE.out.2];rfl,HB2.out⟩
     · have HE:=wB (Prod.mk.inj (HAE.out.symm.trans (nR H0E.out (by omega))))
       rw [show eh x.since=false from decide_eq_false ht2];clear ht2;go_wp2_with fail
       go_ret2
       exact ⟨by rw [HE.out.1,HE.out.2];rfl,HW1.out.below⟩
   · have HE:=wB (Prod.mk.inj (HAE.out.symm.trans (nR H0E.out (by omega))))
     rw [show eh now=false from decide_eq_false ht1];clear ht1;go_wp2_with fail
     go_ret2
     exact ⟨by rw [HE.out.1,HE.out.2];rfl,HW1.out.below⟩
 · have HE:=wB (Prod.mk.inj (HAE.out.symm.trans (tv h0)))
   have b1:(bt c x.r==0)=false:=by simp [h0]
   have b2:(bt c x.r != 0)=true:=by simp [h0]
   clear h0;generalize bt c x.r=C at *;go_wp2_with fail
   go_ret2
   exact ⟨by rw [HE.out.1,HE.out.2];rfl,HW1.out.below⟩
end Go.Proofs.YtcaicgipibcicaaGreat
