/- Chapter 16: may a graph be? -/
import Derived.Test.YtcaicgipibcicaaGreatQAllF
import Derived.Test.YtcaicgipibcicaaGreatQRFit3
import Derived.WalkMore
import Derived.Deep.CutRange
set_option maxRecDepth 100000
set_option maxHeartbeats 8000000
set_option linter.unusedSimpArgs false
set_option linter.unusedVariables false
open Go.Lib renaming hid→yA
namespace Go.Proofs.YtcaicgipibcicaaGreat
open Go.RowKit Go.Sort
structure qa (w:World) (rows cols:Int) (ev:Value) (l:List ab) (i:Nat) (H0 H1:Nat) (wr:World):Prop where
 g:wr.heap[H0]?=some (.cells #[.int .i64 rows,.int .i64 cols,ev] 28 (0,0))
 last:wr.heap[H1]?=some (.cells #[.int .i64 (fd l i).r,.int .i64 (fd l i).c,.int .i64 (fd l i).w] 114 (0,0))
 below:Below w.heap.size w wr
 all:∀ j,j<i→cv rows cols l j=true
theorem cells3 {w:World} {b:Nat} {a0 a1 a2:Value} {t:TypeId} (h:w.heap[b]?=some (.cells #[a0,a1,a2] t (0,0))) :
 w.cell? ⟨b,0,none⟩=some a0∧w.cell? ⟨b,1,none⟩=some a1∧w.cell? ⟨b,2,none⟩=some a2∧(∀ j,w.frozen? ⟨b,j,none⟩=false):=by
 refine ⟨?_,?_,?_,fun j=>frozen_of_row w b j _ t h⟩ <;> rw [cell_of_row w b _ _ t (0,0) h] <;> rfl
theorem qa.next {w:World} {rows cols:Int} {ev:Value} {l:List ab} {k H0 H1:Nat} {wr:World} (h:qa w rows cols ev l k H0 H1 wr) (hw:w.heap.size=H0) (hH:H0<H1) {x:ab} (hx:l[k]?=some x) {a b c:Int} (ha:a=x.r) (hb:b=x.c) (hc:c=x.w)
 (he:cv rows cols l k=true):qa w rows cols ev l (k+1) H0 H1 ((((wr.setCell ⟨H1,0,none⟩ (.int .i64 a)).setCell ⟨H1,1,none⟩ (.int .i64 b)).setCell ⟨H1,2,none⟩ (.int .i64 c)).alloc (.cells #[.int .i64 a,.int .i64 b,.int .i64 c] 114)):=by
 subst ha;subst hb;subst hc
 have HK:Keep (fun k=>k=H1) wr ((((wr.setCell ⟨H1,0,none⟩ (.int .i64 x.r)).setCell ⟨H1,1,none⟩ (.int .i64 x.c)).setCell ⟨H1,2,none⟩ (.int .i64 x.w)).alloc (.cells #[.int .i64 x.r,.int .i64 x.c,.int .i64 x.w] 114)):=
  (((Keep.setCell _ H1 0 _).trans (Keep.setCell _ H1 1 _) (fun _ _ h=>h) (fun _ _ h=>h)).trans (Keep.setCell _ H1 2 _) (fun _ _ h=>h) (fun _ _ h=>h)).trans (Keep.alloc (fun k=>k=H1) _ _) (fun _ _ h=>h) (fun _ _ h=>h)
 refine ⟨HK.old h.g (by omega),?_,h.below.trans (HK.below h.below.size (fun i hi he=>by omega)),fun j hj=>?_⟩
 · rw [jF hx]
   exact (Keep.alloc (fun _=>False) _ _).old (aj (aj (aj h.last 0 (.int .i64 x.r)) 1 (.int .i64 x.c)) 2 (.int .i64 x.w)) id
 · rcases Nat.lt_succ_iff_lt_or_eq.1 hj with hj | rfl
   · exact h.all j hj
   · exact he
theorem mR (w:World) (rows cols:Int) (eo:Option Addr) (n c:Nat) (l:List ab) (hl:l.length=n) (hr:RdC w eo (cellsOf ab.cells l)) (hn:n≤9007199254740992) :
 Calls Tryz.prog 71 #[.agg #[.int .i64 rows,.int .i64 cols,.slice eo n c]] w fun e w'=>e = .returned (.int .i64 (aY rows cols l))∧Below w.heap.size w w':=by
 have HL:=yA hl;have HR:=yA hr;clear hl hr
 have HW:=yA (show qa w rows cols (.slice eo n c) l 0 w.heap.size (w.heap.size+1) ((w.alloc (.cells #[.int .i64 rows,.int .i64 cols,.slice eo n c] 28)).alloc (.cells #[.int .i64 (-1),.int .i64 0,.int .i64 0] 114)) from by
  refine ⟨(Keep.alloc (fun _=>False) _ _).old (heap_alloc_new w _) id,?_,((Below.refl w.heap.size w).alloc (Nat.le_refl _) _).alloc (by simp) _,fun j hj=>by omega⟩;have:=heap_alloc_new (w.alloc (.cells #[.int .i64 rows,.int .i64 cols,.slice eo n c] 28)) (.cells #[.int .i64 (-1),.int .i64 0,.int .i64 0] 114);rw [show (w.alloc (.cells #[.int .i64 rows,.int .i64 cols,.slice eo n c] 28)).heap.size=w.heap.size+1 by simp] at this;exact this)
 go_enter Tryz.func71,Tryz.ntmps71
 go_wp2_with fail
 go_step3
 go_upto_region 1 with fail
 have hW0:∀ W,W=w.alloc (.cells #[.int .i64 rows,.int .i64 cols,.slice eo n c] 28)→W.cell? ⟨w.heap.size,0,none⟩=some (.int .i64 rows)∧W.cell? ⟨w.heap.size,1,none⟩=some (.int .i64 cols)∧W.cell? ⟨w.heap.size,2,none⟩=some (.slice eo n c)∧W.heap.size=w.heap.size+1:=fun W h=>by subst h;exact ⟨by go_simp,by go_simp,by go_simp,by simp⟩
 generalize w.alloc (.cells #[.int .i64 rows,.int .i64 cols,.slice eo n c] 28)=W0 at *;obtain ⟨e0,e1,e2,hz⟩:=hW0 W0 rfl;have HZ:=yA hz;clear hW0 hz;go_cut [3] from 7 to 24 (fun v wx=>Hid (v = .bool (!mj rows cols)∧wx=W0))
 case first=>
  by_cases b1:rows<0
  · have HF:=yA (show mj rows cols=false from decide_eq_false (by omega))
    go_wp2_with fail
    go_meet
    exact yA ⟨by rw [HF.out];rfl,rfl⟩
  by_cases b2:64<rows
  · have HF:=yA (show mj rows cols=false from decide_eq_false (by omega))
    have b1':0≤rows:=by omega
    go_wp2_with fail
    go_meet
    exact yA ⟨by rw [HF.out];rfl,rfl⟩
  by_cases b3:cols<0
  · have HF:=yA (show mj rows cols=false from decide_eq_false (by omega))
    have b1':0≤rows:=by omega
    have b2':rows≤64:=by omega
    go_wp2_with fail
    go_meet
    exact yA ⟨by rw [HF.out];rfl,rfl⟩
  have b1':0≤rows:=by omega
  have b2':rows≤64:=by omega
  have b3':0≤cols:=by omega
  have HF:=yA (show mj rows cols=decide (cols≤64) by
   by_cases h:cols≤64
   · rw [decide_eq_true h];exact decide_eq_true (by omega)
   · rw [decide_eq_false h];exact decide_eq_false (by omega))
  go_wp2_with fail
  go_meet
  refine yA ⟨?_,rfl⟩;rw [HF.out];by_cases h:cols≤64
  · simp [h]
  · simp [h];omega
 case rest=>
  obtain ⟨rfl,rfl⟩:=hcut.out;clear hcut;have hH:w.heap.size<wc.heap.size:=by rw [HZ.out];omega
  have HW:=yA (by rw [←HZ.out] at HW;exact HW.out);go_wp2_with fail
  go_step3
  go_wp2_with fail
  generalize wc.alloc (.cells #[.int .i64 (-1),.int .i64 0,.int .i64 0] 114)=W at *;generalize wc.heap.size=H1 at *;have HHE:=yA (show ∃ H0,w.heap.size=H0 from ⟨_,rfl⟩);obtain ⟨H0,hH0⟩:=HHE.out;rw [hH0] at HW hH ⊢;have HH:=yA hH0;clear hH0 HHE e0 e1 e2;go_loopw [3,29] (fun v i wr=>Hid (∃ k:Nat,v = .bool (!mj rows cols)∧i = .int .i64 k∧k≤n∧qa w rows cols (.slice eo n c) l k H0 H1 wr)) (fun _ i _=>n - (intOf i).toNat)
  case atStart=>exact yA ⟨0,rfl,rfl,Nat.zero_le _,HW.out⟩
  case round=>
   obtain ⟨k,rfl,rfl,hk,hrel1⟩:=hrel.out;clear hrel;obtain ⟨g0,g1,g2,gf⟩:=cells3 hrel1.g;obtain ⟨p0,p1,p2,pf⟩:=cells3 hrel1.last;have HR1:=yA hrel1;have hs0:H0<wr.heap.size:=lt_of_block hrel1.g;have hs1:H1<wr.heap.size:=lt_of_block hrel1.last;clear hrel1;by_cases hlt:k<n
   · obtain ⟨x,hx⟩:∃ x,l[k]?=some x:=⟨l[k]'(by rw [HL.out];exact hlt),List.getElem?_eq_getElem _⟩
     obtain ⟨b,o,rfl,_⟩:=HR.out.place (by rw [cellsOf_length _ 3 ab.cells_length,HL.out];omega);obtain ⟨x0,x1,x2⟩:=cH ((HR.out.keep (Keep.of_below HR1.out.below (Nat.le_refl _) (fun _=>False)) (fun _ _ _=>id))) hx;have HX:=yA hx;have HPV:=yA (rfl:fd l k=fd l k);generalize hpv:fd l k=pv at p0 p1 p2;have HP:=yA hpv;clear hpv HPV hx;have HNEXT:=yA (fun (a b c:Int) (ha:a=x.r) (hb:b=x.c) (hc:c=x.w) (h:cv rows cols l k=true)=>HR1.out.next HH.out hH HX.out ha hb hc h);have HBA:=yA (fun o=>show Below w.heap.size w (wr.alloc o) from HR1.out.below.alloc HR1.out.below.size _);have HBAD:=yA (fun h=>jD (rows:=rows) (cols:=cols) (l:=l) (i:=k) (by rw [HL.out];exact hlt) h);go_wp2_with fail
     all_goals first
      | (have q:¬ (0≤x.r∧x.r<rows∧0≤x.c∧x.c<cols∧1≤x.w∧x.w≤1099513724929)∨x.r<pv.r∨(x.r=pv.r∧x.c≤pv.c):=by omega
         rw [Exit.noGoto_ret];go_ret
         refine ⟨?_,HBA.out _⟩;rw [HBAD.out (fw HX.out HP.out q)];rfl)
      | (have q1:0≤x.r∧x.r<rows∧0≤x.c∧x.c<cols∧1≤x.w∧x.w≤1099513724929:=by omega
         have q2:pv.r<x.r∨(x.r=pv.r∧pv.c<x.c):=by omega
         have HE:=yA (gy HX.out HP.out q1 q2);go_roundw
         case rel=>exact yA ⟨k+1,rfl,by go_num,by omega,HNEXT.out _ _ _ (by omega) (by omega) (by omega) HE.out⟩
         case measure=>simp [intOf];omega)
   · obtain rfl:n=k:=by omega
     have HG:=yA (fun h=>im (rows:=rows) (cols:=cols) (l:=l) h (fun j hj=>HR1.out.all j (by rw [HL.out] at hj;exact hj)));have HN:=yA (fun h=>jC (rows:=rows) (cols:=cols) (l:=l) h);cases hh:mj rows cols
     · go_wp2_with fail
       rw [Exit.noGoto_ret];go_ret
       exact ⟨by rw [HN.out (of_decide_eq_false hh)];rfl,HR1.out.below⟩
     · go_wp2_with fail
       rw [Exit.noGoto_ret];go_ret
       exact ⟨by rw [HG.out (of_decide_eq_true hh)];rfl,HR1.out.below⟩
end Go.Proofs.YtcaicgipibcicaaGreat
