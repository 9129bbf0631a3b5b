/- Graphs that are the same; windows that close. Printed by wip/gensame2.py. -/
import Derived.Test.YtcaicgipibcicaaGreatQRMatch
import Derived.Test.YtcaicgipibcicaaGreatQHeldTail
set_option maxRecDepth 100000
set_option maxHeartbeats 8000000
set_option linter.unusedSimpArgs false
set_option linter.unusedVariables false
open Go.Lib renaming hid→yA
open Go.RowKit.Below renaming refl→yH
open List renaming getElem?_eq_getElem→yC
open Nat renaming le_refl→yB
namespace Go.Proofs.YtcaicgipibcicaaGreat
open Go.RowKit Go.Sort
def iQ (l m:List ab):Bool:=decide (l=m)
theorem oO {l m:List ab} (h:l.length≠m.length):iQ l m=false:=decide_eq_false (fun e=>h (by rw [e]))
theorem rv {l m:List ab} {j:Nat} {x y:ab} (hx:l[j]?=some x) (hy:m[j]?=some y) (h:eF x.r y.r x.c y.c x.w y.w=false):iQ l m=false:=by
 refine decide_eq_false (fun e=>?_);subst e;rw [hx] at hy;cases hy
 rw [pi] at h;cases h
theorem sZ {x y:ab} (h:eF x.r y.r x.c y.c x.w y.w=true):x=y:=by
 obtain ⟨h1,h2,h3⟩:=(qm _ _ _ _ _ _).1 h;cases x;cases y;simp_all
theorem oP {l m:List ab} (hl:l.length=m.length) (h:∀ j:Nat,j<l.length→l[j]?=m[j]?):iQ l m=true:=by
 refine decide_eq_true (List.ext_getElem? (fun j=>?_));by_cases hj:j<l.length
 · exact h j hj
 · rw [List.getElem?_eq_none (by omega),List.getElem?_eq_none (by omega)]
theorem oQ {l m:List ab} {j:Nat} {x y:ab} (ha:∀ q:Nat,q<j→l[q]?=m[q]?) (hx:l[j]?=some x) (hy:m[j]?=some y) (h:eF x.r y.r x.c y.c x.w y.w=true):∀ q:Nat,q<j+1→l[q]?=m[q]?:=fun q hq=>by
 rcases Nat.lt_succ_iff_lt_or_eq.1 hq with hq | rfl
 · exact ha q hq
 · rw [hx,hy,sZ h]
theorem vg (w:World) (ao bo:Option Addr) (n c m c':Nat) (l k:List ab) (hl:l.length=n) (hr:RdC w ao (cellsOf ab.cells l)) (hn:n≤9007199254740992) (hk:k.length=m) (hkr:RdC w bo (cellsOf ab.cells k)) (hm:m≤9007199254740992) :
 Calls Tryz.prog 86 #[.slice ao n c,.slice bo m c'] w fun e w'=>e = .returned (.bool (iQ l k))∧Below w.heap.size w w':=by
 have HL:=yA hl;have HR:=yA hr;have HK:=yA hk;have HKR:=yA hkr;clear hl hr hk hkr;have heq:=ql;by_cases h1:n=m
 · subst h1
   have b1:((n:Int) != (n:Int))=false:=by simp
   go_enter Tryz.func86,Tryz.ntmps86
   go_wp2_with fail
   go_loopw [5,13] (fun z i wr=>Hid (∃ j:Nat,i = .int .i64 j∧j≤n∧(∀ q:Nat,q<j→l[q]?=k[q]?)∧Below w.heap.size w wr)) (fun _ i _=>n - (intOf i).toNat)
   case atStart=>exact yA ⟨0,rfl,Nat.zero_le _,fun q h=>absurd h (Nat.not_lt_zero q),yH _ _⟩
   case round=>
    obtain ⟨j,rfl,hj,hall,hbel⟩:=hrel.out;clear hrel;have HB:=yA hbel;have HALL:=yA hall;clear hbel hall;by_cases hlt:j<n
    · obtain ⟨x,hx⟩:∃ x,l[j]?=some x:=⟨l[j]'(by rw [HL.out];exact hlt),yC _⟩
      obtain ⟨y,hy⟩:∃ y,k[j]?=some y:=⟨k[j]'(by rw [HK.out];exact hlt),yC _⟩;obtain ⟨b,o,rfl,_⟩:=HR.out.place (by rw [cellsOf_length _ 3 ab.cells_length,HL.out];omega);obtain ⟨b',o',rfl,_⟩:=HKR.out.place (by rw [cellsOf_length _ 3 ab.cells_length,HK.out];omega);have hkb:=Keep.of_below HB.out (yB _) (fun _=>False);obtain ⟨x0,x1,x2⟩:=cH (HR.out.keep hkb (fun _ _ _=>id)) hx;obtain ⟨y0,y1,y2⟩:=cH (HKR.out.keep hkb (fun _ _ _=>id)) hy;have HX:=yA hx;have HY:=yA hy;clear hx hy hkb;cases hq:eF x.r y.r x.c y.c x.w y.w with
      | false=>
        have HF:=yA (rv HX.out HY.out hq);go_wp2_with fail
        go_quiet (fail)
        go_wp2_with fail
        go_ret
        exact ⟨by rw [HF.out];rfl,(below_drewN HB.out _)⟩
      | true=>
        have HN:=yA (oQ HALL.out HX.out HY.out hq);go_wp2_with fail
        go_quiet (fail)
        go_wp2_with fail
        go_roundw
        case rel=>exact yA ⟨j+1,by go_num,by omega,HN.out,(below_drewN HB.out _)⟩
        case measure=>simp [intOf];omega
    · obtain rfl:n=j:=by omega
      have HF:=yA (oP (l:=l) (m:=k) (by rw [HL.out,HK.out]) (fun q hq=>HALL.out q (by rw [HL.out] at hq;exact hq)));go_wp2_with fail
      go_ret
      exact ⟨by rw [HF.out];rfl,HB.out⟩
 · have HF:=yA (oO (l:=l) (m:=k) (by rw [HL.out,HK.out];exact h1))
   have b1:((n:Int) != (m:Int))=true:=by simp;omega
   go_enter Tryz.func86,Tryz.ntmps86
   go_wp2_with fail
   go_ret
   exact ⟨by rw [HF.out];rfl,yH _ _⟩
def ii (r1 c1:Int) (l:List ab) (r2 c2:Int) (m:List ab):Bool:=decide (r1=r2) && decide (c1=c2) && iQ l m
theorem yy {r1 c1 r2 c2:Int} {l m:List ab} (h:r1≠r2):ii r1 c1 l r2 c2 m=false:=by simp [ii,h]
theorem yz {r1 c1 r2 c2:Int} {l m:List ab} (h:c1≠c2):ii r1 c1 l r2 c2 m=false:=by simp [ii,h]
theorem tK {r1 c1 r2 c2:Int} {l m:List ab} (h:iQ l m=false):ii r1 c1 l r2 c2 m=false:=by simp [ii,h]
theorem vh {r1 c1 r2 c2:Int} {l m:List ab} (h1:r1=r2) (h2:c1=c2) (h:iQ l m=true):ii r1 c1 l r2 c2 m=true:=by simp [ii,h,h1,h2]
structure nI (w:World) (r1 c1:Int) (e1:Value) (r2 c2:Int) (e2:Value) (H0 H1:Nat) (wr:World):Prop where
 g:wr.heap[H0]?=some (.cells #[.int .i64 r1,.int .i64 c1,e1] 28 (0,0))
 h:wr.heap[H1]?=some (.cells #[.int .i64 r2,.int .i64 c2,e2] 28 (0,0))
 below:Below w.heap.size w wr
theorem nI.drewN {w:World} {r1 c1:Int} {e1:Value} {r2 c2:Int} {e2:Value} {H0 H1:Nat} {wr:World} (h:nI w r1 c1 e1 r2 c2 e2 H0 H1 wr) (n:Nat):nI w r1 c1 e1 r2 c2 e2 H0 H1 (wr.drewN n):=⟨h.g,h.h,below_drewN h.below n⟩
theorem nI.begin (w:World) (r1 c1:Int) (e1:Value) (r2 c2:Int) (e2:Value):nI w r1 c1 e1 r2 c2 e2 w.heap.size (w.heap.size+1) ((w.alloc (.cells #[.int .i64 r1,.int .i64 c1,e1] 28)).alloc (.cells #[.int .i64 r2,.int .i64 c2,e2] 28)):=by
 refine ⟨(Keep.alloc (fun _=>False) _ _).old (heap_alloc_new w _) id,?_,((yH w.heap.size w).alloc (yB _) _).alloc (by simp) _⟩;have:=heap_alloc_new (w.alloc (.cells #[.int .i64 r1,.int .i64 c1,e1] 28)) (.cells #[.int .i64 r2,.int .i64 c2,e2] 28);rw [show (w.alloc (.cells #[.int .i64 r1,.int .i64 c1,e1] 28)).heap.size=w.heap.size+1 by simp] at this;exact this
theorem xx (w:World) (r1 c1 r2 c2:Int) (ao bo:Option Addr) (n c m c':Nat) (l k:List ab) (hl:l.length=n) (hr:RdC w ao (cellsOf ab.cells l)) (hn:n≤9007199254740992) (hk:k.length=m) (hkr:RdC w bo (cellsOf ab.cells k)) (hm:m≤9007199254740992) :
 Calls Tryz.prog 57 #[.agg #[.int .i64 r1,.int .i64 c1,.slice ao n c],.agg #[.int .i64 r2,.int .i64 c2,.slice bo m c']] w fun e w'=>e = .returned (.bool (ii r1 c1 l r2 c2 k))∧Below w.heap.size w w':=by
 have HL:=yA hl;have HR:=yA hr;have HK:=yA hk;have HKR:=yA hkr;clear hl hr hk hkr;have heq:=ql;have HW:=yA (nI.begin w r1 c1 (.slice ao n c) r2 c2 (.slice bo m c'));by_cases h1:r1=r2
 · have b1:(r1 != r2)=false:=by simp [h1]
   have HR12:=yA h1;clear h1;by_cases h2:c1=c2
   · have b2:(c1 != c2)=false:=by simp [h2]
     have HC12:=yA h2;clear h2;by_cases h3:n=m
     · subst h3
       have b3:((n:Int) != (n:Int))=false:=by simp
       go_enter Tryz.func57,Tryz.ntmps57
       go_wp2_with fail
       generalize (w.alloc (.cells #[.int .i64 r1,.int .i64 c1,.slice ao n c] 28)).alloc (.cells #[.int .i64 r2,.int .i64 c2,.slice bo n c'] 28)=W at *;generalize w.heap.size+1=H1 at *;have HHE:=yA (show ∃ H0,w.heap.size=H0 from ⟨_,rfl⟩);obtain ⟨H0,hH0⟩:=HHE.out;rw [hH0] at HW;rw [hH0];have HH:=yA hH0;clear hH0 HHE;go_loopw [5] (fun i wr=>Hid (∃ j:Nat,i = .int .i64 j∧j≤n∧(∀ q:Nat,q<j→l[q]?=k[q]?)∧nI w r1 c1 (.slice ao n c) r2 c2 (.slice bo n c') H0 H1 wr)) (fun i _=>n - (intOf i).toNat)
       case atStart=>exact yA ⟨0,rfl,Nat.zero_le _,fun q h=>absurd h (Nat.not_lt_zero q),HW.out⟩
       case round=>
        obtain ⟨j,rfl,hj,hall,hbel⟩:=hrel.out;clear hrel;obtain ⟨g0,g1,g2,gf⟩:=cells3 hbel.g;obtain ⟨d0,d1,d2,df⟩:=cells3 hbel.h;clear gf df;have HB:=yA hbel;have HALL:=yA hall;clear hbel hall;by_cases hlt:j<n
        · obtain ⟨x,hx⟩:∃ x,l[j]?=some x:=⟨l[j]'(by rw [HL.out];exact hlt),yC _⟩
          obtain ⟨y,hy⟩:∃ y,k[j]?=some y:=⟨k[j]'(by rw [HK.out];exact hlt),yC _⟩;obtain ⟨b,o,rfl,_⟩:=HR.out.place (by rw [cellsOf_length _ 3 ab.cells_length,HL.out];omega);obtain ⟨b',o',rfl,_⟩:=HKR.out.place (by rw [cellsOf_length _ 3 ab.cells_length,HK.out];omega);have hkb:=Keep.of_below HB.out.below (yB _) (fun _=>False);obtain ⟨x0,x1,x2⟩:=cH (HR.out.keep hkb (fun _ _ _=>id)) hx;obtain ⟨y0,y1,y2⟩:=cH (HKR.out.keep hkb (fun _ _ _=>id)) hy;have HX:=yA hx;have HY:=yA hy;clear hx hy hkb;cases hq:eF x.r y.r x.c y.c x.w y.w with
          | false=>
            have HF:=yA (tK (r1:=r1) (c1:=c1) (r2:=r2) (c2:=c2) (rv HX.out HY.out hq));go_wp2_with fail
            go_quiet (fail)
            go_wp2_with fail
            go_ret
            exact ⟨by rw [HF.out];rfl,(HB.out.drewN _).below⟩
          | true=>
            have HN:=yA (oQ HALL.out HX.out HY.out hq);go_wp2_with fail
            go_quiet (fail)
            go_wp2_with fail
            go_roundw
            case rel=>exact yA ⟨j+1,by go_num,by omega,HN.out,(HB.out.drewN _)⟩
            case measure=>simp [intOf];omega
        · obtain rfl:n=j:=by omega
          have HF:=yA (vh HR12.out HC12.out (oP (l:=l) (m:=k) (by rw [HL.out,HK.out]) (fun q hq=>HALL.out q (by rw [HL.out] at hq;exact hq))));go_wp2_with fail
          go_ret
          exact ⟨by rw [HF.out];rfl,HB.out.below⟩
     · have HF:=yA (tK (r1:=r1) (c1:=c1) (r2:=r2) (c2:=c2) (oO (l:=l) (m:=k) (by rw [HL.out,HK.out];exact h3)))
       have b3:((n:Int) != (m:Int))=true:=by simp;omega
       go_enter Tryz.func57,Tryz.ntmps57
       go_wp2_with fail
       go_ret
       exact ⟨by rw [HF.out];rfl,HW.out.below⟩
   · have b2:(c1 != c2)=true:=by simp [h2]
     have HF:=yA (yz (r1:=r1) (r2:=r2) (l:=l) (m:=k) h2);clear h2;go_enter Tryz.func57,Tryz.ntmps57
     go_wp2_with fail
     go_ret
     exact ⟨by rw [HF.out];rfl,HW.out.below⟩
 · have b1:(r1 != r2)=true:=by simp [h1]
   have HF:=yA (yy (c1:=c1) (c2:=c2) (l:=l) (m:=k) h1);clear h1;go_enter Tryz.func57,Tryz.ntmps57
   go_wp2_with fail
   go_ret
   exact ⟨by rw [HF.out];rfl,HW.out.below⟩
theorem rx (w:World) (c:ae) (t:Int) (hc:aB c=true):Calls Tryz.prog 53 #[.agg #[.int .i64 c.q,.int .i64 c.d,.int .i64 c.w,.int .i64 c.ttl,.int .i64 c.b],.int .i64 t] w fun e w'=>e = .returned (.bool (bR c t))∧Below w.heap.size w w':=by
 have HB:=yA ((yH w.heap.size w).alloc (yB _) (.cells #[.int .i64 c.q,.int .i64 c.d,.int .i64 c.w,.int .i64 c.ttl,.int .i64 c.b] 23))
 have hw:1≤c.w:=by
  unfold aB at hc;simp only [Bool.and_eq_true] at hc;exact (of_decide_eq_true hc.1.1.2).1
 clear hc;by_cases h1:1≤t
 · have b1:decide (1≤t)=true:=decide_eq_true h1
   by_cases h2:t≤1099511627776
   · have b2:decide (t≤1099511627776)=true:=decide_eq_true h2
     have HE:=yA (show bR c t=(t % c.w==0) by unfold bR;rw [decide_eq_true (show 1≤t∧t≤1099511627776 from ⟨h1,h2⟩)];by_cases h:t % c.w=0 <;> simp [h]);go_enter Tryz.func53,Tryz.ntmps53
     go_wp2_with fail
     go_ret
     exact ⟨by rw [HE.out];rfl,HB.out⟩
   · have HE:=yA (show bR c t=false by unfold bR;rw [decide_eq_false (fun h=>h2 h.2)];rfl)
     have b2:decide (t≤1099511627776)=false:=decide_eq_false h2;go_enter Tryz.func53,Tryz.ntmps53
     go_wp2_with fail
     go_ret
     exact ⟨by rw [HE.out];rfl,HB.out⟩
 · have HE:=yA (show bR c t=false by unfold bR;rw [decide_eq_false (fun h=>h1 h.1)];rfl)
   have b1:decide (1≤t)=false:=decide_eq_false h1;go_enter Tryz.func53,Tryz.ntmps53
   go_wp2_with fail
   go_ret
   exact ⟨by rw [HE.out];rfl,HB.out⟩
end Go.Proofs.YtcaicgipibcicaaGreat
