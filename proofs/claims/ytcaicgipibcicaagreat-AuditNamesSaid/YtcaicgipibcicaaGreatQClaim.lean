/- Chapter 16: may a graph be? -/
import Derived.Test.YtcaicgipibcicaaGreatQHeldTail
import Derived.Test.YtcaicgipibcicaaGreatQRFit3
import Derived.WalkMore
import Derived.Deep.CutRange
import Derived.BigQuiet
import Derived.Deep.QuietTactic
set_option maxRecDepth 100000
set_option maxHeartbeats 8000000
set_option linter.unusedSimpArgs false
set_option linter.unusedVariables false
open Go renaming heap_alloc_new→wF,lt_of_block→wJ
open Go.Lib renaming hid→wB
open Go.World renaming block_lt_of_cell?→wK
open List renaming getElem?_eq_getElem→wE
open Nat renaming le_refl→wC
namespace Go.Proofs.YtcaicgipibcicaaGreat
open Go.RowKit Go.Sort
structure oz (w:World) (rows cols:Int) (ev:Value) (l:List ab) (i:Nat) (H0 H1:Nat) (wr:World):Prop where
 g:wr.heap[H0]?=some (.cells #[.int .i64 rows,.int .i64 cols,ev] 28 (0,0))
 last:wr.heap[H1]?=some (.cells #[.int .i64 (gh l i).r,.int .i64 (gh l i).c,.int .i64 (gh l i).w] 114 (0,0))
 below:Below w.heap.size w wr
 all:∀ j,j<i→bZ rows cols l j=true
theorem cells3 {w:World} {b:Nat} {a0 a1 a2:Value} {t:TypeId} (h:w.heap[b]?=some (.cells #[a0,a1,a2] t (0,0))) :
 w.cell? ⟨b,0,none⟩=some a0∧w.cell? ⟨b,1,none⟩=some a1∧w.cell? ⟨b,2,none⟩=some a2∧(∀ j,w.frozen? ⟨b,j,none⟩=false):=by
 refine ⟨?_,?_,?_,fun j=>frozen_of_row w b j _ t h⟩ <;> rw [cell_of_row w b _ _ t (0,0) h] <;> rfl
theorem oz.next {w:World} {rows cols:Int} {ev:Value} {l:List ab} {k H0 H1:Nat} {wr:World} (h:oz w rows cols ev l k H0 H1 wr) (hw:w.heap.size=H0) (hH:H0<H1) {x:ab} (hx:l[k]?=some x) {a b c:Int} (ha:a=x.r) (hb:b=x.c) (hc:c=x.w)
 (he:bZ rows cols l k=true):oz w rows cols ev l (k+1) H0 H1 ((((wr.setCell ⟨H1,0,none⟩ (.int .i64 a)).setCell ⟨H1,1,none⟩ (.int .i64 b)).setCell ⟨H1,2,none⟩ (.int .i64 c)).alloc (.cells #[.int .i64 a,.int .i64 b,.int .i64 c] 114)):=by
 subst ha;subst hb;subst hc
 have HK:Keep (fun k=>k=H1) wr ((((wr.setCell ⟨H1,0,none⟩ (.int .i64 x.r)).setCell ⟨H1,1,none⟩ (.int .i64 x.c)).setCell ⟨H1,2,none⟩ (.int .i64 x.w)).alloc (.cells #[.int .i64 x.r,.int .i64 x.c,.int .i64 x.w] 114)):=
  (((Keep.setCell _ H1 0 _).trans (Keep.setCell _ H1 1 _) (fun _ _ h=>h) (fun _ _ h=>h)).trans (Keep.setCell _ H1 2 _) (fun _ _ h=>h) (fun _ _ h=>h)).trans (Keep.alloc (fun k=>k=H1) _ _) (fun _ _ h=>h) (fun _ _ h=>h)
 refine ⟨HK.old h.g (by omega),?_,h.below.trans (HK.below h.below.size (fun i hi he=>by omega)),fun j hj=>?_⟩
 · rw [qp hx]
   exact (Keep.alloc (fun _=>False) _ _).old (ae (ae (ae h.last 0 (.int .i64 x.r)) 1 (.int .i64 x.c)) 2 (.int .i64 x.w)) id
 · rcases Nat.lt_succ_iff_lt_or_eq.1 hj with hj | rfl
   · exact h.all j hj
   · exact he
theorem ll (w:World) (rows cols:Int) (eo:Option Addr) (n c:Nat) (l:List ab) (hl:l.length=n) (hr:RdC w eo (cellsOf ab.cells l)) (hn:n≤9007199254740992) :
 Calls Tryz.prog 71 #[.agg #[.int .i64 rows,.int .i64 cols,.slice eo n c]] w fun e w'=>e = .returned (.int .i64 (bz rows cols l))∧Below w.heap.size w w':=by
 have HL:=wB hl;have HR:=wB hr;clear hl hr
 have HW:=wB (show oz w rows cols (.slice eo n c) l 0 w.heap.size (w.heap.size+1) ((w.alloc (.cells #[.int .i64 rows,.int .i64 cols,.slice eo n c] 28)).alloc (.cells #[.int .i64 (-1),.int .i64 0,.int .i64 0] 114)) from by
  refine ⟨(Keep.alloc (fun _=>False) _ _).old (wF w _) id,?_,((Below.refl w.heap.size w).alloc (wC _) _).alloc (by simp) _,fun j hj=>by omega⟩;have:=wF (w.alloc (.cells #[.int .i64 rows,.int .i64 cols,.slice eo n c] 28)) (.cells #[.int .i64 (-1),.int .i64 0,.int .i64 0] 114);rw [show (w.alloc (.cells #[.int .i64 rows,.int .i64 cols,.slice eo n c] 28)).heap.size=w.heap.size+1 by simp] at this;exact this)
 go_enter Tryz.func71,Tryz.ntmps71
 go_wp2_with fail
 go_step3
 go_upto_region 1 with fail
 have hW0:∀ W,W=w.alloc (.cells #[.int .i64 rows,.int .i64 cols,.slice eo n c] 28)→W.cell? ⟨w.heap.size,0,none⟩=some (.int .i64 rows)∧W.cell? ⟨w.heap.size,1,none⟩=some (.int .i64 cols)∧W.cell? ⟨w.heap.size,2,none⟩=some (.slice eo n c)∧W.heap.size=w.heap.size+1:=fun W h=>by subst h;exact ⟨by go_simp,by go_simp,by go_simp,by simp⟩
 generalize w.alloc (.cells #[.int .i64 rows,.int .i64 cols,.slice eo n c] 28)=W0 at *;obtain ⟨e0,e1,e2,hz⟩:=hW0 W0 rfl;have HZ:=wB hz;clear hW0 hz;go_cut [3] from 7 to 24 (fun v wx=>Hid (v = .bool (!kJ rows cols)∧wx=W0))
 case first=>
  by_cases b1:rows<0
  · have HF:=wB (show kJ rows cols=false from decide_eq_false (by omega))
    go_wp2_with fail
    go_meet
    exact wB ⟨by rw [HF.out];rfl,rfl⟩
  by_cases b2:64<rows
  · have HF:=wB (show kJ rows cols=false from decide_eq_false (by omega))
    have b1':0≤rows:=by omega
    go_wp2_with fail
    go_meet
    exact wB ⟨by rw [HF.out];rfl,rfl⟩
  by_cases b3:cols<0
  · have HF:=wB (show kJ rows cols=false from decide_eq_false (by omega))
    have b1':0≤rows:=by omega
    have b2':rows≤64:=by omega
    go_wp2_with fail
    go_meet
    exact wB ⟨by rw [HF.out];rfl,rfl⟩
  have b1':0≤rows:=by omega
  have b2':rows≤64:=by omega
  have b3':0≤cols:=by omega
  have HF:=wB (show kJ rows cols=decide (cols≤64) by
   by_cases h:cols≤64
   · rw [decide_eq_true h];exact decide_eq_true (by omega)
   · rw [decide_eq_false h];exact decide_eq_false (by omega))
  go_wp2_with fail
  go_meet
  refine wB ⟨?_,rfl⟩;rw [HF.out];by_cases h:cols≤64
  · simp [h]
  · simp [h];omega
 case rest=>
  obtain ⟨rfl,rfl⟩:=hcut.out;clear hcut;have hH:w.heap.size<wc.heap.size:=by rw [HZ.out];omega
  have HW:=wB (by rw [←HZ.out] at HW;exact HW.out);go_wp2_with fail
  go_step3
  go_wp2_with fail
  generalize wc.alloc (.cells #[.int .i64 (-1),.int .i64 0,.int .i64 0] 114)=W at *;generalize wc.heap.size=H1 at *;have HHE:=wB (show ∃ H0,w.heap.size=H0 from ⟨_,rfl⟩);obtain ⟨H0,hH0⟩:=HHE.out;rw [hH0] at HW hH ⊢;have HH:=wB hH0;clear hH0 HHE e0 e1 e2;go_loopw [3,29] (fun v i wr=>Hid (∃ k:Nat,v = .bool (!kJ rows cols)∧i = .int .i64 k∧k≤n∧oz w rows cols (.slice eo n c) l k H0 H1 wr)) (fun _ i _=>n - (intOf i).toNat)
  case atStart=>exact wB ⟨0,rfl,rfl,Nat.zero_le _,HW.out⟩
  case round=>
   obtain ⟨k,rfl,rfl,hk,hrel1⟩:=hrel.out;clear hrel;obtain ⟨g0,g1,g2,gf⟩:=cells3 hrel1.g;obtain ⟨p0,p1,p2,pf⟩:=cells3 hrel1.last;have HR1:=wB hrel1;have hs0:H0<wr.heap.size:=wJ hrel1.g;have hs1:H1<wr.heap.size:=wJ hrel1.last;clear hrel1;by_cases hlt:k<n
   · obtain ⟨x,hx⟩:∃ x,l[k]?=some x:=⟨l[k]'(by rw [HL.out];exact hlt),wE _⟩
     obtain ⟨b,o,rfl,_⟩:=HR.out.place (by rw [cellsOf_length _ 3 ab.cells_length,HL.out];omega);obtain ⟨x0,x1,x2⟩:=gN ((HR.out.keep (Keep.of_below HR1.out.below (wC _) (fun _=>False)) (fun _ _ _=>id))) hx;have HX:=wB hx;have HPV:=wB (rfl:gh l k=gh l k);generalize hpv:gh l k=pv at p0 p1 p2;have HP:=wB hpv;clear hpv HPV hx;have HNEXT:=wB (fun (a b c:Int) (ha:a=x.r) (hb:b=x.c) (hc:c=x.w) (h:bZ rows cols l k=true)=>HR1.out.next HH.out hH HX.out ha hb hc h);have HBA:=wB (fun o=>show Below w.heap.size w (wr.alloc o) from HR1.out.below.alloc HR1.out.below.size _);have HBAD:=wB (fun h=>qm (rows:=rows) (cols:=cols) (l:=l) (i:=k) (by rw [HL.out];exact hlt) h);go_wp2_with fail
     all_goals first
      | (have q:¬ (0≤x.r∧x.r<rows∧0≤x.c∧x.c<cols∧1≤x.w∧x.w≤1099513724929)∨x.r<pv.r∨(x.r=pv.r∧x.c≤pv.c):=by omega
         rw [Exit.noGoto_ret];go_ret
         refine ⟨?_,HBA.out _⟩;rw [HBAD.out (qo HX.out HP.out q)];rfl)
      | (have q1:0≤x.r∧x.r<rows∧0≤x.c∧x.c<cols∧1≤x.w∧x.w≤1099513724929:=by omega
         have q2:pv.r<x.r∨(x.r=pv.r∧pv.c<x.c):=by omega
         have HE:=wB (sE HX.out HP.out q1 q2);go_roundw
         case rel=>exact wB ⟨k+1,rfl,by go_num,by omega,HNEXT.out _ _ _ (by omega) (by omega) (by omega) HE.out⟩
         case measure=>simp [intOf];omega)
   · obtain rfl:n=k:=by omega
     have HG:=wB (fun h=>oD (rows:=rows) (cols:=cols) (l:=l) h (fun j hj=>HR1.out.all j (by rw [HL.out] at hj;exact hj)));have HN:=wB (fun h=>ql (rows:=rows) (cols:=cols) (l:=l) h);cases hh:kJ rows cols
     · go_wp2_with fail
       rw [Exit.noGoto_ret];go_ret
       exact ⟨by rw [HN.out (of_decide_eq_false hh)];rfl,HR1.out.below⟩
     · go_wp2_with fail
       rw [Exit.noGoto_ret];go_ret
       exact ⟨by rw [HG.out (of_decide_eq_true hh)];rfl,HR1.out.below⟩
theorem cN {w:World} {b:Nat} {a0 a1 a2 a3 a4 a5:Value} {t:TypeId} (h:w.heap[b]?=some (.cells #[a0,a1,a2,a3,a4,a5] t (0,0))) :
 w.cell? ⟨b,0,none⟩=some a0∧w.cell? ⟨b,1,none⟩=some a1∧w.cell? ⟨b,2,none⟩=some a2∧w.cell? ⟨b,3,none⟩=some a3∧w.cell? ⟨b,4,none⟩=some a4∧w.cell? ⟨b,5,none⟩=some a5:=by
 refine ⟨?_,?_,?_,?_,?_,?_⟩ <;> rw [cell_of_row w b _ _ t (0,0) h] <;> rfl
theorem cells2 {w:World} {b:Nat} {a0 a1:Value} {t:TypeId} (h:w.heap[b]?=some (.cells #[a0,a1] t (0,0))) :
 w.cell? ⟨b,0,none⟩=some a0∧w.cell? ⟨b,1,none⟩=some a1:=by
 refine ⟨?_,?_⟩ <;> rw [cell_of_row w b _ _ t (0,0) h] <;> rfl
structure jY (w:World) (rows cols:Int) (ev pv yv zv:Value) (r c:Int) (H0 H1:Nat) (wr:World):Prop where
 g:wr.heap[H0]?=some (.cells #[.int .i64 rows,.int .i64 cols,ev,pv,yv,zv] 164 (0,0))
 p:wr.heap[H1]?=some (.cells #[.int .i64 r,.int .i64 c] 69 (0,0))
 below:Below w.heap.size w wr
theorem jY.one {w:World} {rows cols:Int} {ev pv yv zv:Value} {r c:Int} {H0 H1:Nat} {wr:World} (h:jY w rows cols ev pv yv zv r c H0 H1 wr) (o:Obj):jY w rows cols ev pv yv zv r c H0 H1 (wr.alloc o):=
 ⟨(Keep.alloc (fun _=>False) _ _).old h.g id,(Keep.alloc (fun _=>False) _ _).old h.p id,h.below.alloc h.below.size _⟩
theorem jY.drewN {w:World} {rows cols:Int} {ev pv yv zv:Value} {r c:Int} {H0 H1:Nat} {wr:World} (h:jY w rows cols ev pv yv zv r c H0 H1 wr) (n:Nat):jY w rows cols ev pv yv zv r c H0 H1 (wr.drewN n):=
 ⟨h.g,h.p,below_drewN h.below n⟩
theorem lm (w:World) (rows cols:Int) (eo:Option Addr) (n c:Nat) (pv yv zv:Value) (r k:Int) (l:List ab) (hg:aT rows cols l=true) (hl:l.length=n) (hr:RdC w eo (cellsOf ab.cells l)) (hn:n≤9007199254740992) :
 Calls Tryz.prog 131 #[.agg #[.int .i64 rows,.int .i64 cols,.slice eo n c,pv,yv,zv],.agg #[.int .i64 r,.int .i64 k]] w fun e w'=>e = .returned (.int .i64 (aQ l r k))∧Below w.heap.size w w':=by
 have HL:=wB hl;have HR:=wB hr;have HG:=wB hg;clear hl hr hg
 have HW:=wB (show jY w rows cols (.slice eo n c) pv yv zv r k w.heap.size (w.heap.size+1) ((w.alloc (.cells #[.int .i64 rows,.int .i64 cols,.slice eo n c,pv,yv,zv] 164)).alloc (.cells #[.int .i64 r,.int .i64 k] 69)) from by
  refine ⟨(Keep.alloc (fun _=>False) _ _).old (wF w _) id,?_,((Below.refl w.heap.size w).alloc (wC _) _).alloc (by simp) _⟩;have:=wF (w.alloc (.cells #[.int .i64 rows,.int .i64 cols,.slice eo n c,pv,yv,zv] 164)) (.cells #[.int .i64 r,.int .i64 k] 69);rw [show (w.alloc (.cells #[.int .i64 rows,.int .i64 cols,.slice eo n c,pv,yv,zv] 164)).heap.size=w.heap.size+1 by simp] at this;exact this)
 go_enter Tryz.func131,Tryz.ntmps131
 go_wp2_with fail
 generalize (w.alloc (.cells #[.int .i64 rows,.int .i64 cols,.slice eo n c,pv,yv,zv] 164)).alloc (.cells #[.int .i64 r,.int .i64 k] 69)=W at *;have HHE:=wB (show ∃ H0 H1,w.heap.size=H0∧w.heap.size+1=H1 from ⟨_,_,rfl,rfl⟩);obtain ⟨H0,H1,hH0,hH1⟩:=HHE.out;rw [hH1,hH0] at HW ⊢;have HH:=wB hH0;clear hH0 hH1 HHE;obtain ⟨g0,g1,g2,g3,g4,g5⟩:=cN HW.out.g;go_quiet (fail)
 clear g0 g1 g2 g3 g4 g5;have HW1:=wB (HW.out.drewN nq);clear HW;generalize W.drewN nq=W1 at *;go_wp2_with fail
 go_loopw [5,6] (fun a b wr=>Hid (∃ lo hi:Nat,a = .int .i64 lo∧b = .int .i64 hi∧Halves l r k lo hi∧jY w rows cols (.slice eo n c) pv yv zv r k H0 H1 wr)) (fun a b _=>(intOf b - intOf a).toNat)
 case atStart=>exact wB ⟨0,n,rfl,rfl,by rw [←HL.out];exact Halves.begin _ _ _,HW1.out⟩
 case round=>
  obtain ⟨lo,hi,rfl,rfl,hh,hrel1⟩:=hrel.out;clear hrel;have HHV:=wB hh;have hle:=hh.le;have hhi:hi≤n:=by have:=hh.len;rw [HL.out] at this;exact this
  clear hh;obtain ⟨g0,g1,g2,g3,g4,g5⟩:=cN hrel1.g;obtain ⟨p0,p1⟩:=cells2 hrel1.p;have hs0:H0<wr.heap.size:=wJ hrel1.g;have hs1:H1<wr.heap.size:=wJ hrel1.p;have HR1:=wB hrel1;clear hrel1;clear g0 g1 g3 g4 g5;by_cases hlt:lo<hi
  · obtain ⟨m,hm⟩:∃ m,(lo+hi) / 2=m:=⟨_,rfl⟩
    have hm1:lo≤m:=by omega
    have hm2:m<hi:=by omega
    obtain ⟨x,hx⟩:∃ x,l[m]?=some x:=⟨l[m]'(by rw [HL.out];omega),wE _⟩;obtain ⟨b,o,rfl,_⟩:=HR.out.place (by rw [cellsOf_length _ 3 ab.cells_length,HL.out];omega);obtain ⟨x0,x1,x2⟩:=gN (HR.out.keep (Keep.of_below HR1.out.below (wC _) (fun _=>False)) (fun _ _ _=>id)) hx;have hb0:b<wr.heap.size:=wK wr _ x0;have HX:=wB hx;clear hx;have hmi:((lo:Int)+(hi:Int)) / 2=(m:Int):=by omega
    have HM:=wB hm;clear hm;have hc2:x.r<r∨(r≤x.r∧r<x.r)∨(x.r=r∧x.c<k)∨(x.r=r∧k≤x.c):=by omega
    have HUP:=wB (fun h=>HHV.out.up HG.out hm1 hm2 HX.out h);have HDN:=wB (fun h=>HHV.out.down HG.out hm1 hm2 HX.out h);rcases hc2 with h11 | ⟨h11,h12⟩ | ⟨h11,h12⟩ | ⟨h11,h12⟩
    · have HA:=wB (show gD x r k=true from decide_eq_true (by omega))
      go_wp2_with fail
      go_roundw
      case rel=>exact wB ⟨m+1,hi,by first | go_num | (rw [hmi];go_num),rfl,HUP.out HA.out,HR1.out.one _⟩
      case measure=>simp [intOf];omega
    · have HA:=wB (show gD x r k=false from decide_eq_false (by omega))
      have h13:(x.r==r)=false:=by simp;omega
      go_wp2_with fail
      go_roundw
      case rel=>exact wB ⟨lo,m,rfl,by first | rfl | rw [hmi],HDN.out HA.out,HR1.out.one _⟩
      case measure=>simp [intOf];omega
    · have HA:=wB (show gD x r k=true from decide_eq_true (by omega))
      have h13:(x.r==r)=true:=by simp [h11]
      have h14:¬ x.r<r:=by omega
      clear h11;go_wp2_with fail
      go_roundw
      case rel=>exact wB ⟨m+1,hi,by first | go_num | (rw [hmi];go_num),rfl,HUP.out HA.out,HR1.out.one _⟩
      case measure=>simp [intOf];omega
    · have HA:=wB (show gD x r k=false from decide_eq_false (by omega))
      have h13:(x.r==r)=true:=by simp [h11]
      have h14:¬ x.r<r:=by omega
      clear h11;go_wp2_with fail
      go_roundw
      case rel=>exact wB ⟨lo,m,rfl,by first | rfl | rw [hmi],HDN.out HA.out,HR1.out.one _⟩
      case measure=>simp [intOf];omega
  · obtain rfl:lo=hi:=by omega
    clear hle;by_cases hln:lo<n
    · obtain ⟨x,hx⟩:∃ x,l[lo]?=some x:=⟨l[lo]'(by rw [HL.out];omega),wE _⟩
      obtain ⟨b,o,rfl,_⟩:=HR.out.place (by rw [cellsOf_length _ 3 ab.cells_length,HL.out];omega);obtain ⟨x0,x1,x2⟩:=gN (HR.out.keep (Keep.of_below HR1.out.below (wC _) (fun _=>False)) (fun _ _ _=>id)) hx;have hb0:b<wr.heap.size:=wK wr _ x0;have HX:=wB hx;clear hx;have hd:decide (lo<n)=true:=by simpa using hln
      by_cases h1:x.r=r
      · by_cases h2:x.c=k
        · have HE:=wB (HHV.out.hit HX.out ⟨h1,h2⟩)
          have h3:(x.r==r)=true:=by simp [h1]
          have h4:(x.c==k)=true:=by simp [h2]
          clear h1 h2;go_wp2_with fail
          go_quiet (fail)
          go_wp2_with fail
          go_ret
          exact ⟨by rw [HE.out];rfl,below_drewN HR1.out.below _⟩
        · have HE:=wB (HHV.out.miss HG.out HX.out (fun h=>h2 h.2))
          have h3:(x.r==r)=true:=by simp [h1]
          have h4:(x.c==k)=false:=by simp [h2]
          clear h1 h2;go_wp2_with fail
          go_quiet (fail)
          go_wp2_with fail
          go_ret
          exact ⟨by rw [HE.out];rfl,below_drewN HR1.out.below _⟩
      · have HE:=wB (HHV.out.miss HG.out HX.out (fun h=>h1 h.1))
        have h3:(x.r==r)=false:=by simp [h1]
        clear h1;go_wp2_with fail
        go_quiet (fail)
        go_wp2_with fail
        go_ret
        exact ⟨by rw [HE.out];rfl,below_drewN HR1.out.below _⟩
    · have HE:=wB (HHV.out.past (by rw [HL.out];omega))
      have hd:decide (lo<n)=false:=by simpa using hln
      go_wp2_with fail
      go_quiet (fail)
      go_wp2_with fail
      go_ret
      exact ⟨by rw [HE.out];rfl,below_drewN HR1.out.below _⟩
end Go.Proofs.YtcaicgipibcicaaGreat
