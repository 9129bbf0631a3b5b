/- Chapter 16 in the references: may a graph be? Printed by wip/genright.py. -/
import Derived.Test.YtcaicgipibcicaaGreatQGCheck
import Derived.Test.YtcaicgipibcicaaGreatQAllF
import Derived.WalkMore
set_option maxRecDepth 100000
set_option maxHeartbeats 8000000
set_option linter.unusedSimpArgs false
set_option linter.unusedVariables false
open Go.Lib renaming hid→yA
open Go.World renaming block_lt_of_cell?→yL
open List renaming getElem?_eq_getElem→yC
open Nat renaming le_refl→yB
namespace Go.Proofs.YtcaicgipibcicaaGreat
open Go.RowKit
structure jx (w:World) (rows cols:Int) (ev:Value) (l:List ab) (i:Nat) (H0:Nat) (wr:World):Prop where
 g:wr.heap[H0]?=some (.cells #[.int .i64 rows,.int .i64 cols,ev] 28 (0,0))
 below:Below w.heap.size w wr
 all:∀ j,j<i→cv rows cols l j=true
theorem jx.one {w:World} {rows cols:Int} {ev:Value} {l:List ab} {i:Nat} {H0:Nat} {wr:World} (h:jx w rows cols ev l i H0 wr) (o:Obj):jx w rows cols ev l i H0 (wr.alloc o):=
 ⟨(Keep.alloc (fun _=>False) _ _).old h.g id,h.below.alloc h.below.size _,h.all⟩
theorem jx.next {w:World} {rows cols:Int} {ev:Value} {l:List ab} {i:Nat} {H0:Nat} {wr:World} (h:jx w rows cols ev l i H0 wr) (he:cv rows cols l i=true):jx w rows cols ev l (i+1) H0 wr:=
 ⟨h.g,h.below,aX h.all he⟩
def gr (rows cols:Int) (l:List ab):Bool:=decide (aY rows cols l=0)
theorem iB (w:World) (rows cols:Int) (eo:Option Addr) (n c:Nat) (l:List ab) (hl:l.length=n) (hr:RdC w eo (cellsOf ab.cells l)) (hn:n≤9007199254740992) :
 Calls Tryz.prog 135 #[.agg #[.int .i64 rows,.int .i64 cols,.slice eo n c]] w fun e w'=>e = .returned (.int .i64 (aY rows cols l))∧Below w.heap.size w w':=by
 have HL:=yA hl;have HR:=yA hr;clear hl hr
 have HW:=yA (show jx w rows cols (.slice eo n c) l 0 w.heap.size (w.alloc (.cells #[.int .i64 rows,.int .i64 cols,.slice eo n c] 28)) from
  ⟨heap_alloc_new w _,(Below.refl w.heap.size w).alloc (yB _) _,fun j hj=>by omega⟩)
 have hcase:(rows<0)∨(0≤rows∧64<rows)∨(0≤rows∧rows≤64∧cols<0)∨(0≤rows∧rows≤64∧0≤cols∧64<cols)∨(0≤rows∧rows≤64∧0≤cols∧cols≤64):=by omega
 rcases hcase with h1 | ⟨h1,h2⟩ | ⟨h1,h2,h3⟩ | ⟨h1,h2,h3,h4⟩ | ⟨h1,h2,h3,h4⟩
 iterate 4
  · have HE:=yA (jC (l:=l) (show ¬ (0≤rows∧rows≤64∧0≤cols∧cols≤64) by omega))
    go_enter Tryz.func135,Tryz.ntmps135
    go_wp2_with fail
    all_goals
     go_ret
     exact ⟨by rw [HE.out];rfl,HW.out.below⟩
 go_enter Tryz.func135,Tryz.ntmps135
 go_wp2_with fail
 generalize w.alloc (.cells #[.int .i64 rows,.int .i64 cols,.slice eo n c] 28)=W at *;have HHE:=yA (show ∃ H0,w.heap.size=H0 from ⟨_,rfl⟩);obtain ⟨H0,hH0⟩:=HHE.out;rw [hH0] at HW ⊢;have HH:=yA hH0;clear hH0 HHE;go_loopw [3] (fun i wr=>Hid (∃ k:Nat,i = .int .i64 k∧k≤n∧jx w rows cols (.slice eo n c) l k H0 wr)) (fun i _=>n - (intOf i).toNat)
 case atStart=>exact yA ⟨0,rfl,Nat.zero_le _,HW.out⟩
 case round=>
  obtain ⟨k,rfl,hk,hrel1⟩:=hrel.out;clear hrel;obtain ⟨g0,g1,g2,gf⟩:=cells3 hrel1.g;have hs0:H0<wr.heap.size:=lt_of_block hrel1.g;have HR1:=yA hrel1;clear hrel1;by_cases hlt:k<n
  · obtain ⟨x,hx⟩:∃ x,l[k]?=some x:=⟨l[k]'(by rw [HL.out];exact hlt),yC _⟩
    obtain ⟨b,o,rfl,_⟩:=HR.out.place (by rw [cellsOf_length _ 3 ab.cells_length,HL.out];omega);have HRW:=yA (HR.out.keep (Keep.of_below HR1.out.below (yB _) (fun _=>False)) (fun _ _ _=>id));obtain ⟨x0,x1,x2⟩:=cH HRW.out hx;have hb0:b<wr.heap.size:=yL wr _ x0;have HX:=yA hx;clear hx;have HBAD:=yA (fun h=>jD (rows:=rows) (cols:=cols) (l:=l) (i:=k) (by rw [HL.out];exact hlt) h);by_cases a1:x.r<0∨rows≤x.r∨x.c<0∨cols≤x.c∨x.w<1∨1099513724929<x.w
    · have HB:=yA (HBAD.out (jE HX.out (by omega)))
      have a2:x.r<0∨(0≤x.r∧rows≤x.r)∨(0≤x.r∧x.r<rows∧x.c<0)∨(0≤x.r∧x.r<rows∧0≤x.c∧cols≤x.c)∨(0≤x.r∧x.r<rows∧0≤x.c∧x.c<cols∧x.w<1)∨(0≤x.r∧x.r<rows∧0≤x.c∧x.c<cols∧1≤x.w∧1099513724929<x.w):=by omega
      clear a1;rcases a2 with h5 | ⟨h5,h6⟩ | ⟨h5,h6,h7⟩ | ⟨h5,h6,h7,h8⟩ | ⟨h5,h6,h7,h8,h9⟩ | ⟨h5,h6,h7,h8,h9,h10⟩
      all_goals
       go_wp2_with fail
       go_ret
       exact ⟨by rw [HB.out];rfl,(HR1.out.one _).below⟩
    · have h5:0≤x.r:=by omega
      have h6:x.r<rows:=by omega
      have h7:0≤x.c:=by omega
      have h8:x.c<cols:=by omega
      have h9:1≤x.w:=by omega
      have h10:x.w≤1099513724929:=by omega
      clear a1;by_cases hk0:k=0
      · have HE:=yA (show cv rows cols l k=true by rw [f7 HX.out (by omega),hk0];exact eD (by simp only [fd];omega))
        have hk0':¬ 0<k:=by omega
        clear hk0;go_wp2_with fail
        go_roundw
        case rel=>exact yA ⟨k+1,by go_num,by omega,(HR1.out.one _).next HE.out⟩
        case measure=>simp [intOf];omega
      · have hk1:0<k:=by omega
        obtain ⟨y,hy⟩:∃ y,l[k - 1]?=some y:=⟨l[k - 1]'(by rw [HL.out];omega),yC _⟩;obtain ⟨y0,y1,y2⟩:=cH HRW.out hy
        have HP:=yA (show fd l k=y by
         have:=jF hy;rwa [show k - 1+1=k by omega] at this)
        clear hy hk0;have hc2:x.r<y.r∨(y.r≤x.r∧y.r<x.r)∨(x.r=y.r∧x.c≤y.c)∨(x.r=y.r∧y.c<x.c):=by omega
        rcases hc2 with h11 | ⟨h11,h12⟩ | ⟨h11,h12⟩ | ⟨h11,h12⟩
        · have q2:¬ (0≤x.r∧x.r<rows∧0≤x.c∧x.c<cols∧1≤x.w∧x.w≤1099513724929)∨x.r<y.r∨(x.r=y.r∧x.c≤y.c):=by omega
          have HB:=yA (HBAD.out (fw HX.out HP.out q2));clear q2;go_wp2_with fail
          go_ret
          exact ⟨by rw [HB.out];rfl,((HR1.out.one _).one _).below⟩
        · have q1:0≤x.r∧x.r<rows∧0≤x.c∧x.c<cols∧1≤x.w∧x.w≤1099513724929:=⟨h5,h6,h7,h8,h9,h10⟩
          have q2:y.r<x.r∨(x.r=y.r∧y.c<x.c):=by omega
          have HE:=yA (gy HX.out HP.out q1 q2);clear q1 q2;have h13:(x.r==y.r)=false:=by simp;omega
          go_wp2_with fail
          go_roundw
          case rel=>exact yA ⟨k+1,by go_num,by omega,((HR1.out.one _).one _).next HE.out⟩
          case measure=>simp [intOf];omega
        · have q2:¬ (0≤x.r∧x.r<rows∧0≤x.c∧x.c<cols∧1≤x.w∧x.w≤1099513724929)∨x.r<y.r∨(x.r=y.r∧x.c≤y.c):=by omega
          have HB:=yA (HBAD.out (fw HX.out HP.out q2));clear q2;have h13:(x.r==y.r)=true:=by simp [h11]
          have h14:¬ x.r<y.r:=by omega
          clear h11;go_wp2_with fail
          go_ret
          exact ⟨by rw [HB.out];rfl,((HR1.out.one _).one _).below⟩
        · have q1:0≤x.r∧x.r<rows∧0≤x.c∧x.c<cols∧1≤x.w∧x.w≤1099513724929:=⟨h5,h6,h7,h8,h9,h10⟩
          have q2:y.r<x.r∨(x.r=y.r∧y.c<x.c):=by omega
          have HE:=yA (gy HX.out HP.out q1 q2);clear q1 q2;have h13:(x.r==y.r)=true:=by simp [h11]
          have h14:¬ x.r<y.r:=by omega
          clear h11;go_wp2_with fail
          go_roundw
          case rel=>exact yA ⟨k+1,by go_num,by omega,((HR1.out.one _).one _).next HE.out⟩
          case measure=>simp [intOf];omega
  · obtain rfl:n=k:=by omega
    have HG:=yA (im (rows:=rows) (cols:=cols) (l:=l) (by omega) (fun j hj=>HR1.out.all j (by rw [HL.out] at hj;exact hj)));go_wp2_with fail
    go_ret
    exact ⟨by rw [HG.out];rfl,HR1.out.below⟩
theorem uw (w:World) (rows cols:Int) (eo:Option Addr) (n c:Nat) (l:List ab) (hl:l.length=n) (hr:RdC w eo (cellsOf ab.cells l)) (hn:n≤9007199254740992) :
 Calls Tryz.prog 94 #[.agg #[.int .i64 rows,.int .i64 cols,.slice eo n c]] w fun e w'=>e = .returned (.bool (gr rows cols l))∧Below w.heap.size w w':=by
 have HL:=yA hl;have HR:=yA hr;clear hl hr
 have HW:=yA (show jx w rows cols (.slice eo n c) l 0 w.heap.size (w.alloc (.cells #[.int .i64 rows,.int .i64 cols,.slice eo n c] 28)) from
  ⟨heap_alloc_new w _,(Below.refl w.heap.size w).alloc (yB _) _,fun j hj=>by omega⟩)
 have hcase:(rows<0)∨(0≤rows∧64<rows)∨(0≤rows∧rows≤64∧cols<0)∨(0≤rows∧rows≤64∧0≤cols∧64<cols)∨(0≤rows∧rows≤64∧0≤cols∧cols≤64):=by omega
 rcases hcase with h1 | ⟨h1,h2⟩ | ⟨h1,h2,h3⟩ | ⟨h1,h2,h3,h4⟩ | ⟨h1,h2,h3,h4⟩
 iterate 4
  · have HE:=yA (jC (l:=l) (show ¬ (0≤rows∧rows≤64∧0≤cols∧cols≤64) by omega))
    go_enter Tryz.func94,Tryz.ntmps94
    go_wp2_with fail
    all_goals
     go_ret
     exact ⟨by rw [gr,HE.out];rfl,HW.out.below⟩
 go_enter Tryz.func94,Tryz.ntmps94
 go_wp2_with fail
 generalize w.alloc (.cells #[.int .i64 rows,.int .i64 cols,.slice eo n c] 28)=W at *;have HHE:=yA (show ∃ H0,w.heap.size=H0 from ⟨_,rfl⟩);obtain ⟨H0,hH0⟩:=HHE.out;rw [hH0] at HW ⊢;have HH:=yA hH0;clear hH0 HHE;go_loopw [3] (fun i wr=>Hid (∃ k:Nat,i = .int .i64 k∧k≤n∧jx w rows cols (.slice eo n c) l k H0 wr)) (fun i _=>n - (intOf i).toNat)
 case atStart=>exact yA ⟨0,rfl,Nat.zero_le _,HW.out⟩
 case round=>
  obtain ⟨k,rfl,hk,hrel1⟩:=hrel.out;clear hrel;obtain ⟨g0,g1,g2,gf⟩:=cells3 hrel1.g;have hs0:H0<wr.heap.size:=lt_of_block hrel1.g;have HR1:=yA hrel1;clear hrel1;by_cases hlt:k<n
  · obtain ⟨x,hx⟩:∃ x,l[k]?=some x:=⟨l[k]'(by rw [HL.out];exact hlt),yC _⟩
    obtain ⟨b,o,rfl,_⟩:=HR.out.place (by rw [cellsOf_length _ 3 ab.cells_length,HL.out];omega);have HRW:=yA (HR.out.keep (Keep.of_below HR1.out.below (yB _) (fun _=>False)) (fun _ _ _=>id));obtain ⟨x0,x1,x2⟩:=cH HRW.out hx;have hb0:b<wr.heap.size:=yL wr _ x0;have HX:=yA hx;clear hx;have HBAD:=yA (fun h=>jD (rows:=rows) (cols:=cols) (l:=l) (i:=k) (by rw [HL.out];exact hlt) h);by_cases a1:x.r<0∨rows≤x.r∨x.c<0∨cols≤x.c∨x.w<1∨1099513724929<x.w
    · have HB:=yA (HBAD.out (jE HX.out (by omega)))
      have a2:x.r<0∨(0≤x.r∧rows≤x.r)∨(0≤x.r∧x.r<rows∧x.c<0)∨(0≤x.r∧x.r<rows∧0≤x.c∧cols≤x.c)∨(0≤x.r∧x.r<rows∧0≤x.c∧x.c<cols∧x.w<1)∨(0≤x.r∧x.r<rows∧0≤x.c∧x.c<cols∧1≤x.w∧1099513724929<x.w):=by omega
      clear a1;rcases a2 with h5 | ⟨h5,h6⟩ | ⟨h5,h6,h7⟩ | ⟨h5,h6,h7,h8⟩ | ⟨h5,h6,h7,h8,h9⟩ | ⟨h5,h6,h7,h8,h9,h10⟩
      all_goals
       go_wp2_with fail
       go_ret
       exact ⟨by rw [gr,HB.out];rfl,(HR1.out.one _).below⟩
    · have h5:0≤x.r:=by omega
      have h6:x.r<rows:=by omega
      have h7:0≤x.c:=by omega
      have h8:x.c<cols:=by omega
      have h9:1≤x.w:=by omega
      have h10:x.w≤1099513724929:=by omega
      clear a1;by_cases hk0:k=0
      · have HE:=yA (show cv rows cols l k=true by rw [f7 HX.out (by omega),hk0];exact eD (by simp only [fd];omega))
        have hk0':¬ 0<k:=by omega
        clear hk0;go_wp2_with fail
        go_roundw
        case rel=>exact yA ⟨k+1,by go_num,by omega,(HR1.out.one _).next HE.out⟩
        case measure=>simp [intOf];omega
      · have hk1:0<k:=by omega
        obtain ⟨y,hy⟩:∃ y,l[k - 1]?=some y:=⟨l[k - 1]'(by rw [HL.out];omega),yC _⟩;obtain ⟨y0,y1,y2⟩:=cH HRW.out hy
        have HP:=yA (show fd l k=y by
         have:=jF hy;rwa [show k - 1+1=k by omega] at this)
        clear hy hk0;have hc2:x.r<y.r∨(y.r≤x.r∧y.r<x.r)∨(x.r=y.r∧x.c≤y.c)∨(x.r=y.r∧y.c<x.c):=by omega
        rcases hc2 with h11 | ⟨h11,h12⟩ | ⟨h11,h12⟩ | ⟨h11,h12⟩
        · have q2:¬ (0≤x.r∧x.r<rows∧0≤x.c∧x.c<cols∧1≤x.w∧x.w≤1099513724929)∨x.r<y.r∨(x.r=y.r∧x.c≤y.c):=by omega
          have HB:=yA (HBAD.out (fw HX.out HP.out q2));clear q2;go_wp2_with fail
          go_ret
          exact ⟨by rw [gr,HB.out];rfl,((HR1.out.one _).one _).below⟩
        · have q1:0≤x.r∧x.r<rows∧0≤x.c∧x.c<cols∧1≤x.w∧x.w≤1099513724929:=⟨h5,h6,h7,h8,h9,h10⟩
          have q2:y.r<x.r∨(x.r=y.r∧y.c<x.c):=by omega
          have HE:=yA (gy HX.out HP.out q1 q2);clear q1 q2;have h13:(x.r==y.r)=false:=by simp;omega
          go_wp2_with fail
          go_roundw
          case rel=>exact yA ⟨k+1,by go_num,by omega,((HR1.out.one _).one _).next HE.out⟩
          case measure=>simp [intOf];omega
        · have q2:¬ (0≤x.r∧x.r<rows∧0≤x.c∧x.c<cols∧1≤x.w∧x.w≤1099513724929)∨x.r<y.r∨(x.r=y.r∧x.c≤y.c):=by omega
          have HB:=yA (HBAD.out (fw HX.out HP.out q2));clear q2;have h13:(x.r==y.r)=true:=by simp [h11]
          have h14:¬ x.r<y.r:=by omega
          clear h11;go_wp2_with fail
          go_ret
          exact ⟨by rw [gr,HB.out];rfl,((HR1.out.one _).one _).below⟩
        · have q1:0≤x.r∧x.r<rows∧0≤x.c∧x.c<cols∧1≤x.w∧x.w≤1099513724929:=⟨h5,h6,h7,h8,h9,h10⟩
          have q2:y.r<x.r∨(x.r=y.r∧y.c<x.c):=by omega
          have HE:=yA (gy HX.out HP.out q1 q2);clear q1 q2;have h13:(x.r==y.r)=true:=by simp [h11]
          have h14:¬ x.r<y.r:=by omega
          clear h11;go_wp2_with fail
          go_roundw
          case rel=>exact yA ⟨k+1,by go_num,by omega,((HR1.out.one _).one _).next HE.out⟩
          case measure=>simp [intOf];omega
  · obtain rfl:n=k:=by omega
    have HG:=yA (im (rows:=rows) (cols:=cols) (l:=l) (by omega) (fun j hj=>HR1.out.all j (by rw [HL.out] at hj;exact hj)));go_wp2_with fail
    go_ret
    exact ⟨by rw [gr,HG.out];rfl,HR1.out.below⟩
end Go.Proofs.YtcaicgipibcicaaGreat
