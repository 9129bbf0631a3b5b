/- The reference's auditor: who stood, who is left; lists of records. -/
import Derived.Test.YtcaicgipibcicaaGreatQAuSee
import Derived.Test.YtcaicgipibcicaaGreatQRAudit
import Derived.Test.YtcaicgipibcicaaGreatQHeldTail
import Derived.Test.YtcaicgipibcicaaGreatQRowB
import Derived.Test.YtcaicgipibcicaaGreatQRdM
import Derived.RangeFuncNested
import Derived.RangeFuncBound
import Derived.RangeFuncCalls
import Derived.RangeFuncLeaves
import Derived.Shelf.Abstract
import Derived.Shelf.RegionOpen
import Derived.OwnWalkIn
import Derived.TacticsInMore
import Derived.LoopNIn
import Derived.LoopIn
set_option maxRecDepth 100000
set_option maxHeartbeats 16000000
set_option linter.unusedSimpArgs false
set_option linter.unusedVariables false
open Go renaming cell_of_row→yI,cell_regrown→yR,frozen_of_row→zm,heap_alloc_new→yE
open Go.Lib renaming hid→yA
open Go.RowKit.Below renaming refl→yH
open List renaming eq_nil_of_length_eq_zero→zC,getElem?_eq_getElem→yC,getElem?_eq_some_iff→yD,mem_of_getElem?→yP,setIfInBounds_toArray→yM,set_cons_succ→yZ,set_cons_zero→yX,take_of_length_le→zh,take_succ_eq_append_getElem→zk
open Nat renaming le_refl→yB,le_trans→yV,lt_succ_iff_lt_or_eq→yW,not_lt_zero→zz,zero_le→yQ
namespace Go.Proofs.YtcaicgipibcicaaGreat
open Go.RowKit Go.Sort
def RV.cells (v:RV):List Value:=[.int .i64 v.x.tick,.slice v.wo v.wn v.wc,.slice v.ko v.kn v.kc,.int .i64 v.x.rows,.int .i64 v.x.cols,.slice v.eo v.en v.ec,.slice v.po v.pn v.pc,.slice v.yo v.yn v.yc,.slice v.zo v.zn v.zc]
theorem RV.cells_length (v:RV):v.cells.length=9:=rfl
theorem bt:(Tryz.prog.info? 34).map (·.size)=some 9:=by kernel_rfl
def bY (x:aF) (id:List Int):Bool:=x.ws.any (fun y=>decide (idR y.r=id))
theorem mF {x:aF} {id:List Int} {j:Nat} {y:ad} (hy:x.ws[j]?=some y) (h:idR y.r=id):bY x id=true:=by
 unfold bY;rw [List.any_eq_true];exact ⟨y,yP hy,by simpa using h⟩
theorem tV {x:aF} {id:List Int} (h:∀ (j:Nat) (y:ad),x.ws[j]?=some y→idR y.r≠id):bY x id=false:=by
 unfold bY;rw [List.any_eq_false];intro y hy;obtain ⟨j,hj⟩:=List.getElem?_of_mem hy
 simpa using h j y hj
structure fz (w:World) (v:RV) (H:Nat) (Z:Array Value) (t:TypeId) (wr:World):Prop where
 g:wr.heap[H]?=some (.cells #[.int .i64 v.x.tick,.slice v.wo v.wn v.wc,.slice v.ko v.kn v.kc,.int .i64 v.x.rows,.int .i64 v.x.cols,.slice v.eo v.en v.ec,.slice v.po v.pn v.pc,.slice v.yo v.yn v.yc,.slice v.zo v.zn v.zc] 34 (0,0))
 h:wr.heap[H+1]?=some (.cells Z t (0,0))
 below:Below w.heap.size w wr
theorem fz.drewN {w:World} {v:RV} {H:Nat} {Z:Array Value} {t:TypeId} {wr:World} (h:fz w v H Z t wr) (n:Nat):fz w v H Z t (wr.drewN n):=⟨h.g,h.h,below_drewN h.below n⟩
theorem fz.begin (w:World) (v:RV) (Z:Array Value) (t:TypeId):fz w v w.heap.size Z t ((w.alloc (.cells #[.int .i64 v.x.tick,.slice v.wo v.wn v.wc,.slice v.ko v.kn v.kc,.int .i64 v.x.rows,.int .i64 v.x.cols,.slice v.eo v.en v.ec,.slice v.po v.pn v.pc,.slice v.yo v.yn v.yc,.slice v.zo v.zn v.zc] 34)).alloc (.cells Z t)):=by
 refine ⟨(Keep.alloc (fun _=>False) _ _).old (yE w _) id,?_,((yH w.heap.size w).alloc (yB _) _).alloc (by simp) _⟩;have:=yE (w.alloc (.cells #[.int .i64 v.x.tick,.slice v.wo v.wn v.wc,.slice v.ko v.kn v.kc,.int .i64 v.x.rows,.int .i64 v.x.cols,.slice v.eo v.en v.ec,.slice v.po v.pn v.pc,.slice v.yo v.yn v.yc,.slice v.zo v.zn v.zc] 34)) (.cells Z t);rw [show (w.alloc (.cells #[.int .i64 v.x.tick,.slice v.wo v.wn v.wc,.slice v.ko v.kn v.kc,.int .i64 v.x.rows,.int .i64 v.x.cols,.slice v.eo v.en v.ec,.slice v.po v.pn v.pc,.slice v.yo v.yn v.yc,.slice v.zo v.zn v.zc] 34)).heap.size=w.heap.size+1 by simp] at this;exact this
theorem cells8 {w:World} {H:Nat} {a0 a1 a2 a3 a4 a5 a6 a7:Value} {t:TypeId} (h:w.heap[H]?=some (.cells #[a0,a1,a2,a3,a4,a5,a6,a7] t (0,0))) :
 w.cell? ⟨H,0,none⟩=some a0∧w.cell? ⟨H,1,none⟩=some a1∧w.cell? ⟨H,2,none⟩=some a2∧w.cell? ⟨H,3,none⟩=some a3∧w.cell? ⟨H,4,none⟩=some a4∧w.cell? ⟨H,5,none⟩=some a5∧w.cell? ⟨H,6,none⟩=some a6∧w.cell? ⟨H,7,none⟩=some a7:=by
 refine ⟨?_,?_,?_,?_,?_,?_,?_,?_⟩ <;> rw [yI w H _ _ t (0,0) h] <;> rfl
theorem tW (w:World) (v:RV) (r:az) (hin:v.In w):Calls Tryz.prog 111 #[.agg #[.int .i64 v.x.tick,.slice v.wo v.wn v.wc,.slice v.ko v.kn v.kc,.int .i64 v.x.rows,.int .i64 v.x.cols,.slice v.eo v.en v.ec,.slice v.po v.pn v.pc,.slice v.yo v.yn v.yc,.slice v.zo v.zn v.zc],.agg #[.int .u8 r.i0,.int .u8 r.i1,.int .u8 r.i2,.int .u8 r.i3,.int .u8 r.i4,.int .u8 r.i5,.int .u8 r.i6,.int .u8 r.i7]] w fun e w'=>e = .returned (.bool (bY v.x (idR r)))∧Below w.heap.size w w':=by
 have HIN:=yA hin;have HR0:=yA (fz.begin w v #[.int .u8 r.i0,.int .u8 r.i1,.int .u8 r.i2,.int .u8 r.i3,.int .u8 r.i4,.int .u8 r.i5,.int .u8 r.i6,.int .u8 r.i7] 72);clear hin;have heq:=vK;go_enter Tryz.func111,Tryz.ntmps111
 go_wp2_with fail
 generalize (w.alloc (.cells #[.int .i64 v.x.tick,.slice v.wo v.wn v.wc,.slice v.ko v.kn v.kc,.int .i64 v.x.rows,.int .i64 v.x.cols,.slice v.eo v.en v.ec,.slice v.po v.pn v.pc,.slice v.yo v.yn v.yc,.slice v.zo v.zn v.zc] 34)).alloc (.cells #[.int .u8 r.i0,.int .u8 r.i1,.int .u8 r.i2,.int .u8 r.i3,.int .u8 r.i4,.int .u8 r.i5,.int .u8 r.i6,.int .u8 r.i7] 72)=W at *;obtain ⟨H,hH⟩:∃ H,w.heap.size=H:=⟨_,rfl⟩;have HH:=yA hH;rw [hH] at HR0 ⊢;clear hH;go_loopw [5] (fun i wr=>Hid (∃ j:Nat,i = .int .i64 j∧j≤v.wn∧(∀ (q:Nat) (y:ad),q<j→v.x.ws[q]?=some y→idR y.r≠idR r)∧fz w v H #[.int .u8 r.i0,.int .u8 r.i1,.int .u8 r.i2,.int .u8 r.i3,.int .u8 r.i4,.int .u8 r.i5,.int .u8 r.i6,.int .u8 r.i7] 72 wr)) (fun i _=>v.wn - (intOf i).toNat)
 case atStart=>exact yA ⟨0,rfl,yQ _,fun q y h=>absurd h (zz q),HR0.out⟩
 case round=>
  obtain ⟨j,rfl,hj,hno,hrl⟩:=hrel.out;clear hrel;have HR:=yA hrl;have HNO:=yA hno;clear hrl hno;obtain ⟨g0,g1,g2,g3,g4,g5,g6,g7,g8⟩:=cells9 HR.out.g;by_cases hlt:j<v.wn
  · obtain ⟨y,hy⟩:∃ y,v.x.ws[j]?=some y:=⟨v.x.ws[j]'(by rw [HIN.out.wl];exact hlt),yC _⟩
    have hwb:v.wn≤1048576:=HIN.out.wb;have hrd:=HIN.out.wr.keep (Keep.of_below HR.out.below (yB _) (fun _=>False)) (fun _ _ _=>id);generalize v.wo=wo at *;obtain ⟨b,o,rfl,_⟩:=hrd.place (by rw [cellsOf_length _ 18 ad.cells_length,HIN.out.wl];omega);obtain ⟨y0,y1,y2,y3,y4,y5,y6,y7⟩:=lX (bS hrd hy);obtain ⟨x0,x1,x2,x3,x4,x5,x6,x7⟩:=cells8 HR.out.h;have HY:=yA hy;clear hy hrd;cases hq:lQ y.r.i0 r.i0 y.r.i1 r.i1 y.r.i2 r.i2 y.r.i3 r.i3 y.r.i4 r.i4 y.r.i5 r.i5 y.r.i6 r.i6 y.r.i7 r.i7 with
    | true=>
      have HF:=yA (mF HY.out (pp.1 hq));go_wp2_with fail
      go_quiet (fail)
      go_wp2_with fail
      go_ret
      exact ⟨by rw [HF.out];rfl,below_drewN HR.out.below _⟩
    | false=>
      have HN:=yA (show ∀ (q:Nat) (z:ad),q<j+1→v.x.ws[q]?=some z→idR z.r≠idR r from fun q z hqj hz=>by
       rcases yW.1 hqj with hqj | rfl
       · exact HNO.out q z hqj hz
       · rw [HY.out] at hz;cases hz;intro he;rw [pp.2 he] at hq;cases hq)
      go_wp2_with fail
      go_quiet (fail)
      go_wp2_with fail
      go_roundw
      case rel=>exact yA ⟨j+1,by go_num,by omega,HN.out,HR.out.drewN _⟩
      case measure=>simp [intOf];omega
  · obtain rfl:v.wn=j:=by omega
    have HF:=yA (tV (x:=v.x) (id:=idR r) (fun q y hy=>HNO.out q y (by have:=(yD.1 hy).1;rw [HIN.out.wl] at this;exact this) hy));go_wp2_with fail
    go_ret
    exact ⟨by rw [HF.out];rfl,HR.out.below⟩
def fA (ps:List ag) (i:Nat):Bool:=ps.all (fun p=>p.r != (i:Int))
def io (x:aF) (w:ad) (i:Nat):Bool:=match x.ws[i]? with | none=>false | some y=>fA x.ps i && bqW y w
def jo (x:aF) (w:ad):Bool:=(List.range x.ws.length).any (io x w)
theorem iU {x:aF} {w:ad} {i:Nat} {y:ad} (h:x.ws[i]?=some y):io x w i=(fA x.ps i && bqW y w):=by simp [io,h]
theorem nY {x:aF} {w:ad} {i:Nat} (hi:i<x.ws.length) (h:io x w i=true):jo x w=true:=by
 unfold jo;rw [List.any_eq_true];exact ⟨i,List.mem_range.2 hi,h⟩
theorem mG {x:aF} {w:ad} (h:∀ i:Nat,i<x.ws.length→io x w i=false):jo x w=false:=by
 unfold jo;rw [List.any_eq_false];intro i hi;rw [h i (List.mem_range.1 hi)]
 decide
theorem rF {ps:List ag} {i k:Nat} {p:ag} (hp:ps[k]?=some p):fA (ps.take (k+1)) i=(fA (ps.take k) i && (p.r != (i:Int))):=by
 rw [zk (yD.1 hp).1,(yD.1 hp).2];simp [fA]
theorem vn (w:World) (v:RV) (x:ad) (V:Array Value) (hV:x.cells.toArray=V) (hin:v.In w):Calls Tryz.prog 112 #[.agg #[.int .i64 v.x.tick,.slice v.wo v.wn v.wc,.slice v.ko v.kn v.kc,.int .i64 v.x.rows,.int .i64 v.x.cols,.slice v.eo v.en v.ec,.slice v.po v.pn v.pc,.slice v.yo v.yn v.yc,.slice v.zo v.zn v.zc],.agg V] w fun e w'=>e = .returned (.bool (jo v.x x))∧Below w.heap.size w w':=by
 have HIN:=yA hin;have HV:=yA hV;have HR0:=yA (fz.begin w v V 79);clear hin hV;go_enter Tryz.func112,Tryz.ntmps112
 go_wp2_with fail
 generalize (w.alloc (.cells #[.int .i64 v.x.tick,.slice v.wo v.wn v.wc,.slice v.ko v.kn v.kc,.int .i64 v.x.rows,.int .i64 v.x.cols,.slice v.eo v.en v.ec,.slice v.po v.pn v.pc,.slice v.yo v.yn v.yc,.slice v.zo v.zn v.zc] 34)).alloc (.cells V 79)=W at *;obtain ⟨H,hH⟩:∃ H,w.heap.size=H:=⟨_,rfl⟩;have HH:=yA hH;rw [hH] at HR0 ⊢;clear hH;go_loopw [5] (fun i wr=>Hid (∃ j:Nat,i = .int .i64 j∧j≤v.wn∧(∀ q:Nat,q<j→io v.x x q=false)∧fz w v H V 79 wr)) (fun i _=>v.wn - (intOf i).toNat)
 case atStart=>exact yA ⟨0,rfl,yQ _,fun q h=>absurd h (zz q),HR0.out⟩
 case round=>
  clear HR0;obtain ⟨j,rfl,hj,hno,hrl⟩:=hrel.out;clear hrel;have HR:=yA hrl;have HNO:=yA hno;clear hrl hno;obtain ⟨g0,g1,g2,g3,g4,g5,g6,g7,g8⟩:=cells9 HR.out.g;have hwb:v.wn≤1048576:=HIN.out.wb;have hpb:v.pn≤1048576:=HIN.out.pb;by_cases hlt:j<v.wn
  · go_wp2_with fail
    clear g0 g1 g2 g3 g4 g5 g6 g7 g8;go_loopw [6,7] (fun f i wr=>Hid (∃ k:Nat,i = .int .i64 k∧k≤v.pn∧f = .bool (fA (v.x.ps.take k) j)∧fz w v H V 79 wr)) (fun _ i _=>v.pn - (intOf i).toNat)
    case atStart=>exact yA ⟨0,rfl,yQ _,rfl,HR.out⟩
    case round=>
     clear HR;obtain ⟨k,rfl,hk,rfl,hrl⟩:=hrel.out;clear hrel;have HR:=yA hrl;clear hrl;obtain ⟨g0,g1,g2,g3,g4,g5,g6,g7,g8⟩:=cells9 HR.out.g;by_cases hkt:k<v.pn
     · obtain ⟨p,hp⟩:∃ p,v.x.ps[k]?=some p:=⟨v.x.ps[k]'(by rw [HIN.out.pl];exact hkt),yC _⟩
       have hrd:=HIN.out.pr.keep (Keep.of_below HR.out.below (yB _) (fun _=>False)) (fun _ _ _=>id);generalize v.po=po at *;obtain ⟨b,o,rfl,_⟩:=hrd.place (by rw [cellsOf_length _ 2 ag.cells_length,HIN.out.pl];omega);obtain ⟨p0,p1⟩:=bi hrd hp;have HN:=yA (rF (i:=j) hp);clear hrd hp;obtain ⟨fb,hfb⟩:∃ fb,fA (v.x.ps.take k) j=fb:=⟨_,rfl⟩;rw [hfb] at HN ⊢;clear hfb;cases fb with
       | false=>
         go_wp2_with fail
         go_roundw
         case rel=>exact yA ⟨k+1,by go_num,by omega,by rw [HN.out];rfl,HR.out⟩
         case measure=>simp [intOf];omega
       | true=>
         go_wp2_with fail
         go_roundw
         case rel=>exact yA ⟨k+1,by go_num,by omega,by rw [HN.out];rfl,HR.out⟩
         case measure=>simp [intOf];omega
     · obtain rfl:v.pn=k:=by omega
       have HTK:=yA (show v.x.ps.take v.pn=v.x.ps from zh (by rw [HIN.out.pl];exact yB _));obtain ⟨y,hy⟩:∃ y,v.x.ws[j]?=some y:=⟨v.x.ws[j]'(by rw [HIN.out.wl];exact hlt),yC _⟩;have hrd:=HIN.out.wr.keep (Keep.of_below HR.out.below (yB _) (fun _=>False)) (fun _ _ _=>id);obtain ⟨b,o,hbo,_⟩:=hrd.place (by rw [cellsOf_length _ 18 ad.cells_length,HIN.out.wl];omega);rw [hbo] at hrd g1;have HRD:=yA hrd;clear hbo hrd;have HC1:=yA (fun (i:Nat) (u:Value) (hu:y.cells[i]?=some u)=>show wr.cell? ⟨b,o+j*18+i,none⟩=some u from bf ad.cells_length HRD.out hy i u hu);have HC2:=yA (bp HR.out.h 18 (show x.cells=V.toList.take 18 by rw [←HV.out];rfl));have HLA:=yA (iU (w:=x) hy);have HY:=yA hy;clear hy;obtain ⟨YV,hYV⟩:∃ YV,y.cells.toArray=YV:=⟨_,rfl⟩;have HYV:=yA hYV;have heq:∀ w,(Op.equalIn 10000 79 (.agg YV) (.agg V)).run Tryz.prog w = .ok (bqW y x) w:=fun w=>by rw [←hYV,←HV.out];exact vm y x w
       clear hYV;rw [HTK.out];obtain ⟨fb,hfb⟩:∃ fb,fA v.x.ps j=fb:=⟨_,rfl⟩;rw [hfb] at HLA ⊢;clear hfb;generalize bqW y x=bq at *;cases fb with
       | false=>
         have HN:=yA (show ∀ q:Nat,q<j+1→io v.x x q=false from fun q hq=>by
          rcases yW.1 hq with hq | rfl
          · exact HNO.out q hq
          · rw [HLA.out];rfl)
         clear heq;go_wp2_with fail
         go_quiet (fail)
         go_wp2_with fail
         go_roundw
         case rel=>exact yA ⟨j+1,by go_num,by omega,HN.out,HR.out.drewN _⟩
         case measure=>simp [intOf];omega
       | true=>
         go_wp2_with fail
         refine wp_region_quiet_lit (by kernel_rfl) (by kernel_rfl) ?_
         iterate 6 (go_big_quiet_step (fail))
         go_big_quiet_want
         with_reducible refine ig (o:=⟨some 41,_,_,_,_,_⟩) 79 (.tmp 40) ?_ b (o+j*18) ?_ y.cells YV HYV.out _ HC1.out Tryz.underlying79 ?_ ?_ ?_
         · rfl
         · rfl
         · rfl
         · exact aK
         go_big_quiet_on
         simp only [Act.put,yM,yX,yZ];go_big_quiet_want
         with_reducible refine ig (o:=⟨some 42,_,_,_,_,_⟩) 79 (.tmp 3) ?_ (H+1) 0 ?_ x.cells V HV.out _ HC2.out Tryz.underlying79 ?_ ?_ ?_
         · rfl
         · rfl
         · rfl
         · exact aK
         go_big_quiet_on
         simp only [Act.put,yM,yX,yZ]
         iterate 2 (go_big_quiet_step (fail))
         refine wpQuiet_nil ?_;rintro _ ⟨nq,rfl⟩;cases bq with
         | false=>
           have HN:=yA (show ∀ q:Nat,q<j+1→io v.x x q=false from fun q hq=>by
            rcases yW.1 hq with hq | rfl
            · exact HNO.out q hq
            · rw [HLA.out];rfl)
           go_wp2_with fail
           go_roundw
           case rel=>exact yA ⟨j+1,by go_num,by omega,HN.out,HR.out.drewN _⟩
           case measure=>simp [intOf];omega
         | true=>
           have HF:=yA (nY (x:=v.x) (w:=x) (by rw [HIN.out.wl];exact hlt) HLA.out);go_wp2_with fail
           go_ret
           exact ⟨by rw [HF.out];rfl,below_drewN HR.out.below _⟩
  · obtain rfl:v.wn=j:=by omega
    have HF:=yA (mG (x:=v.x) (w:=x) (fun q hq=>HNO.out q (by rw [HIN.out.wl] at hq;exact hq)));go_wp2_with fail
    go_ret
    exact ⟨by rw [HF.out];rfl,HR.out.below⟩
section
variable {P:Program}
theorem jp {C:World→Prop} {o:Oper} {a:Act} {K:Act→Prop} (ty:TypeId) (x:Operand) (ho:o.op = .load ty x)
 (b off:Nat) (hx:a.eval x = .pointer (some ⟨b,off,none⟩)) (cs:List Value) (V:Array Value) (hvs:cs.toArray=V) (d:TypeDesc) (hc:∀ w',C w'→∀ j u,cs[j]?=some u→w'.cell? ⟨b,off+j,none⟩=some u)
 (hu:P.underlying ty=some d) (hd:(match d with | .struct _ | .array _ _=>true | _=>false)=true) (hi:(P.info? ty).map (·.size)=some cs.length)
 (hk:K (a.put o.dst (.agg V))):o.quiet P a C K:=by
 refine ⟨.agg V,?_,hk⟩;intro w hw;have h:=bk (P:=P) w b off ty cs d (hc w hw) hu hd hi;rw [hvs] at h;unfold Oper.quietAt execOp;simp only [ho,hx,Instr.loadAt,Instr.sureAddr,Sem.run_bind,Sem.run_pure,Result.andThen_ok,h];exact ⟨rfl,rfl⟩
theorem fE {S:World→Prop} {ops:Array Oper} {rest:List Oper} {o:Oper} {a:Act} {K:Act→Prop} (hg:o.guard=none) (ty:TypeId) (x:Operand) (ho:o.op = .load ty x)
 (b off:Nat) (hx:a.eval x = .pointer (some ⟨b,off,none⟩)) (cs:List Value) (V:Array Value) (hvs:cs.toArray=V) (d:TypeDesc) (hc:∀ w',S w'→∀ j u,cs[j]?=some u→w'.cell? ⟨b,off+j,none⟩=some u)
 (hu:P.underlying ty=some d) (hd:(match d with | .struct _ | .array _ _=>true | _=>false)=true) (hi:(P.info? ty).map (·.size)=some cs.length)
 (hk:eG P ops S K rest (a.put o.dst (.agg V))):eG P ops S K (o::rest) a:=by
 refine ⟨.agg V,.inl ⟨by simp [Region.wanted,hg],fun w hw=>?_⟩,hk⟩;have h:=bk (P:=P) w b off ty cs d (hc w hw) hu hd hi;rw [hvs] at h;unfold execOp;simp only [ho,hx,Instr.loadAt,Instr.sureAddr,Sem.run_bind,Sem.run_pure,Result.andThen_ok,h]
end
def dH (ts:List RV) (x:aF) (y:ad):Bool:=
 if x.tick≤y.since then true else
 match ts.getLast? with
 | none=>false
 | some v=>if ts.any (fun u=>bY u.x (idR y.r)) then !jo v.x y else decide (y.since<v.x.tick)
theorem mH {ts:List RV} {x:aF} {y:ad} (h:x.tick≤y.since):dH ts x y=true:=by simp [dH,h]
theorem lE {x:aF} {y:ad} (h:¬ x.tick≤y.since):dH [] x y=false:=by simp [dH,h]
theorem nZ {ts:List RV} {x:aF} {y:ad} {v:RV} (h:¬ x.tick≤y.since) (hv:ts.getLast?=some v) (hb:ts.any (fun u=>bY u.x (idR y.r))=true):dH ts x y=!jo v.x y:=by simp [dH,h,hv,hb]
theorem n8 {ts:List RV} {x:aF} {y:ad} {v:RV} (h:¬ x.tick≤y.since) (hv:ts.getLast?=some v) (hb:ts.any (fun u=>bY u.x (idR y.r))=false):dH ts x y=decide (y.since<v.x.tick):=by simp [dH,h,hv,hb]
theorem vo {α:Type} {ts:List α} {p:α→Bool} {j:Nat} {v:α} (hv:ts[j]?=some v):(ts.take (j+1)).any p=((ts.take j).any p || p v):=by
 rw [zk (yD.1 hv).1,(yD.1 hv).2];simp
structure n9 (c:ae) (ts:List RV) (R:Nat) (lo:Option Addr) (tn tc:Nat) (w:World):Prop where
 box:w.heap[R]?=some (.cells #[.int .i64 c.q,.int .i64 c.d,.int .i64 c.w,.int .i64 c.ttl,.int .i64 c.b,.slice lo tn tc] 50 (0,0))
 len:ts.length=tn
 rd:RdC w lo (cellsOf RV.cells ts)
 ins:∀ v ∈ ts,v.In w
theorem RV.In.below {w w':World} {v:RV} (h:v.In w) (hb:Below w.heap.size w w'):v.In w':=h.keepX (Keep.of_below hb (yB _) (fun _=>False)) (fun _ _ _ _ _=>id)
theorem n9.below {c:ae} {ts:List RV} {R:Nat} {lo:Option Addr} {tn tc:Nat} {w w':World} (h:n9 c ts R lo tn tc w) (hb:Below w.heap.size w w'):n9 c ts R lo tn tc w':=
 ⟨(Keep.of_below hb (yB _) (fun _=>False)).old h.box id,h.len,h.rd.below hb,fun v hv=>(h.ins v hv).below hb⟩
theorem kh {w:World} {H:Nat} {y:ad} {V:Array Value} {t:TypeId} (hV:y.cells.toArray=V) (h:w.heap[H]?=some (.cells V t (0,0))) :
 (w.cell? ⟨H,0,none⟩=some (.int .u8 y.r.i0)∧w.cell? ⟨H,1,none⟩=some (.int .u8 y.r.i1)∧w.cell? ⟨H,2,none⟩=some (.int .u8 y.r.i2)∧w.cell? ⟨H,3,none⟩=some (.int .u8 y.r.i3)∧w.cell? ⟨H,4,none⟩=some (.int .u8 y.r.i4)∧w.cell? ⟨H,5,none⟩=some (.int .u8 y.r.i5)∧w.cell? ⟨H,6,none⟩=some (.int .u8 y.r.i6)∧w.cell? ⟨H,7,none⟩=some (.int .u8 y.r.i7))∧w.cell? ⟨H,16,none⟩=some (.int .i64 y.since):=by
 subst hV;refine ⟨⟨?_,?_,?_,?_,?_,?_,?_,?_⟩,?_⟩ <;> rw [yI w H _ _ t (0,0) h] <;> rfl
theorem fz.next {w:World} {v:RV} {H:Nat} {Z:Array Value} {t:TypeId} {wr w':World} (h:fz w v H Z t wr) (hb:Below wr.heap.size wr w'):fz w v H Z t w':=
 ⟨(Keep.of_below hb (yB _) (fun _=>False)).old h.g id,(Keep.of_below hb (yB _) (fun _=>False)).old h.h id,Below.next h.below hb⟩
theorem tX (w:World) (c:ae) (ts:List RV) (R:Nat) (lo:Option Addr) (tn tc:Nat) (v:RV) (y:ad) (V:Array Value) (hV:y.cells.toArray=V) (h:n9 c ts R lo tn tc w) (hn:tn≤1000000000000) :
 Calls Tryz.prog 64 #[.pointer (some ⟨R,0,none⟩),.agg #[.int .i64 v.x.tick,.slice v.wo v.wn v.wc,.slice v.ko v.kn v.kc,.int .i64 v.x.rows,.int .i64 v.x.cols,.slice v.eo v.en v.ec,.slice v.po v.pn v.pc,.slice v.yo v.yn v.yc,.slice v.zo v.zn v.zc],.agg V] w fun e w'=>e = .returned (.bool (dH ts v.x y))∧Below w.heap.size w w':=by
 have HV:=yA hV;have HR:=yA h;have HR0:=yA (fz.begin w v V 79);clear h hV;go_enter Tryz.func64,Tryz.ntmps64
 go_upto_region 1 with fail
 generalize (w.alloc (.cells #[.int .i64 v.x.tick,.slice v.wo v.wn v.wc,.slice v.ko v.kn v.kc,.int .i64 v.x.rows,.int .i64 v.x.cols,.slice v.eo v.en v.ec,.slice v.po v.pn v.pc,.slice v.yo v.yn v.yc,.slice v.zo v.zn v.zc] 34)).alloc (.cells V 79)=W at *;obtain ⟨H,hH⟩:∃ H,w.heap.size=H:=⟨_,rfl⟩;have HH:=yA hH;rw [hH] at HR0 ⊢;clear hH;obtain ⟨g0,g1,g2,g3,g4,g5,g6,g7,g8⟩:=cells9 HR0.out.g;obtain ⟨⟨y0,y1,y2,y3,y4,y5,y6,y7⟩,y8⟩:=kh HV.out HR0.out.h;by_cases hl:v.x.tick≤y.since
 · have d1:decide (v.x.tick≤y.since)=true:=decide_eq_true hl
   have HF:=yA (mH (ts:=ts) hl);clear hl;go_wp2_with fail
   go_ret
   exact ⟨by rw [HF.out];rfl,HR0.out.below⟩
 have d1:decide (v.x.tick≤y.since)=false:=decide_eq_false hl;have HL:=yA (Int.not_le.1 hl);clear hl;go_wp2_with fail
 clear g0 g1 g2 g3 g4 g5 g6 g7 g8 y0 y1 y2 y3 y4 y5 y6 y7 y8;go_loopw [7,8] (fun s i wr=>Hid (∃ j:Nat,i = .int .i64 j∧j≤tn∧s = .bool ((ts.take j).any (fun u=>bY u.x (idR y.r)))∧fz w v H V 79 wr)) (fun _ i _=>tn - (intOf i).toNat)
 case atStart=>exact yA ⟨0,rfl,yQ _,rfl,HR0.out⟩
 case round=>
  clear HR0;obtain ⟨j,rfl,hj,rfl,hrl⟩:=hrel.out;clear hrel;have HX:=yA hrl;clear hrl;have HRJ:=yA (HR.out.below HX.out.below);obtain ⟨r0,r1,r2,r3,r4,r5⟩:=e7 HRJ.out.box;by_cases hlt:j<tn
  · obtain ⟨u,hu⟩:∃ u,ts[j]?=some u:=⟨ts[j]'(by rw [HR.out.len];exact hlt),yC _⟩
    obtain ⟨b,o,hbo,_⟩:=HRJ.out.rd.place (by rw [cellsOf_length _ 9 RV.cells_length,HR.out.len];omega);have HRD:=yA HRJ.out.rd;rw [hbo] at HRD r5;have HUI:=yA (HRJ.out.ins u (yP hu));have HN:=yA (vo (p:=fun u=>bY u.x (idR y.r)) hu)
    have HCR:=yA (fun (w':World) (hw':∃ p:Regrown,w'=grow (redrawn wr p.d) p.os) (i:Nat) (q:Value) (hq:u.cells[i]?=some q)=>show w'.cell? ⟨b,o+j*9+i,none⟩=some q from by
     obtain ⟨p,rfl⟩:=hw';exact yR (bf RV.cells_length HRD.out hu i q hq) _ _)
    obtain ⟨⟨y0,y1,y2,y3,y4,y5,y6,y7⟩,y8⟩:=kh HV.out HX.out.h;have k0:=yR y0;have k1:=yR y1;have k2:=yR y2;have k3:=yR y3;have k4:=yR y4;have k5:=yR y5;have k6:=yR y6;have k7:=yR y7;have k8:=yR r5;have cQ:∀ dd os,Calls Tryz.prog 111 #[.agg #[.int .i64 u.x.tick,.slice u.wo u.wn u.wc,.slice u.ko u.kn u.kc,.int .i64 u.x.rows,.int .i64 u.x.cols,.slice u.eo u.en u.ec,.slice u.po u.pn u.pc,.slice u.yo u.yn u.yc,.slice u.zo u.zn u.zc],.agg #[.int .u8 y.r.i0,.int .u8 y.r.i1,.int .u8 y.r.i2,.int .u8 y.r.i3,.int .u8 y.r.i4,.int .u8 y.r.i5,.int .u8 y.r.i6,.int .u8 y.r.i7]] (grow (redrawn wr dd) os) fun e w''=>e = .returned (.bool (bY u.x (idR y.r)))∧∃ p:Regrown,w''=grow (redrawn wr p.d) p.os:=fun dd os=>Calls.regrown_of (tW _ u y.r (HUI.out.below (below_regrown wr dd os)))
    clear hbo hu;obtain ⟨fb,hfb⟩:∃ fb,(ts.take j).any (fun u=>bY u.x (idR y.r))=fb:=⟨_,rfl⟩;rw [hfb] at HN ⊢;clear hfb;generalize bY u.x (idR y.r)=st at *;go_wp2_with fail
    refine wp_region_quiet_below (by kernel_rfl) (by kernel_rfl) ?_
    iterate 6 (go_big_quiet_step (fail))
    go_big_quiet_want
    with_reducible refine jp (o:=⟨some 31,_,_,_,_,_⟩) 34 (.tmp 30) ?_ b (o+j*9) ?_ u.cells #[.int .i64 u.x.tick,.slice u.wo u.wn u.wc,.slice u.ko u.kn u.kc,.int .i64 u.x.rows,.int .i64 u.x.cols,.slice u.eo u.en u.ec,.slice u.po u.pn u.pc,.slice u.yo u.yn u.yc,.slice u.zo u.zn u.zc] rfl _ HCR.out Tryz.underlying34 ?_ ?_ ?_
    · rfl
    · rfl
    · rfl
    · exact bt
    go_big_quiet_on
    simp only [Act.put,yM,yX,yZ]
    iterate 3 (go_big_quiet_step (fail))
    go_big_quiet_step (exact cQ _ _)
    iterate 1 (go_big_quiet_step (fail))
    refine wpQuiet_nil ?_;rintro _ ⟨⟨dq,osq⟩,rfl⟩;have HX2:=yA (HX.out.next (below_regrown wr dq osq));clear k0 k1 k2 k3 k4 k5 k6 k7 k8 cQ y0 y1 y2 y3 y4 y5 y6 y7 y8 r0 r1 r2 r3 r4 r5 HCR;generalize grow (redrawn wr dq) osq=WX at *;cases fb <;> cases st
    all_goals
     go_wp2_with fail
     go_roundw
     case rel=>exact yA ⟨j+1,by go_num,by omega,by rw [HN.out];rfl,HX2.out⟩
     case measure=>simp [intOf];omega
  · obtain rfl:tn=j:=by omega
    have HTK:=yA (show ts.take tn=ts from zh (by rw [HR.out.len];exact yB _));rw [HTK.out];obtain ⟨⟨y0,y1,y2,y3,y4,y5,y6,y7⟩,y8⟩:=kh HV.out HX.out.h;cases htn:tn with
    | zero=>
      subst htn
      have HF:=yA (show dH ts v.x y=false from by
       rw [zC HR.out.len];exact lE (Int.not_le.2 HL.out))
      go_wp2_with fail
      go_ret
      exact ⟨by rw [HF.out];rfl,HX.out.below⟩
    | succ m=>
      subst htn;obtain ⟨u,hu⟩:∃ u,ts[m]?=some u:=⟨ts[m]'(by rw [HR.out.len];omega),yC _⟩;have HLAST:=yA (show ts.getLast?=some u by rw [List.getLast?_eq_getElem?,HR.out.len];exact hu);obtain ⟨b,o,hbo,_⟩:=HRJ.out.rd.place (by rw [cellsOf_length _ 9 RV.cells_length,HR.out.len];omega);have HRD:=yA HRJ.out.rd;rw [hbo] at HRD r5;have HUI:=yA (HRJ.out.ins u (yP hu));have HCE:=yA (fun (i:Nat) (q:Value) (hq:u.cells[i]?=some q)=>show wr.cell? ⟨b,o+m*9+i,none⟩=some q from bf RV.cells_length HRD.out hu i q hq);clear hbo hu hlt hj;have wm:IntKind.i64.wrap (m:Int)=(m:Int):=by rw [IntKind.wrap_i64];omega
      have wm0:(0:Int)≤(m:Int):=by omega
      have wm1:(m:Int)<(m:Int)+1:=by omega
      go_wp2_with fail
      refine fa 12 (fun w'=>w'.cell? ⟨R,5,none⟩=some (.slice (some ⟨b,o,none⟩) (m+1) tc)∧∀ (i:Nat) (q:Value),u.cells[i]?=some q→w'.cell? ⟨b,o+m*9+i,none⟩=some q) (by kernel_rfl) (by kernel_rfl) (fun _ _ _ _ _ h=>h) ⟨(Keep.drew (fun _=>False) wr).cell r5 id,fun i q hq=>(Keep.drew (fun _=>False) wr).cell (HCE.out i q hq) id⟩ ?_;simp only [List.take_succ_cons,List.take_zero,List.drop_succ_cons,List.drop_zero]
      iterate 11 (
       refine bg (v:=?_) (Or.inl ⟨by rfl,?_⟩) ?_
       rotate_left
       · intro w' hSw
         have hSx:=hSw.1;clear hSw;try dsimp only at hSx
         go_simp
         try with_reducible rfl
       try simp only [Act.put,yM,yX,yZ])
      refine fE rfl 34 (.tmp 56) rfl b (o+m*9) (by first | rfl | simp [Act.eval]) u.cells #[.int .i64 u.x.tick,.slice u.wo u.wn u.wc,.slice u.ko u.kn u.kc,.int .i64 u.x.rows,.int .i64 u.x.cols,.slice u.eo u.en u.ec,.slice u.po u.pn u.pc,.slice u.yo u.yn u.yc,.slice u.zo u.zn u.zc] rfl _ (fun w' hS i q hq=>hS.2 i q hq) Tryz.underlying34 rfl bt ?_;simp only [Act.put,yM,yX,yZ];refine bs ?_;refine aC rfl (fun K hK=>?_);go_simp
      refine hK _ _ ⟨⟨(Keep.of_below (((yH wr.heap.size wr).alloc (yB _) _).drew) (yB _) (fun _=>False)).cell r5 id,fun i q hq=>(Keep.of_below (((yH wr.heap.size wr).alloc (yB _) _).drew) (yB _) (fun _=>False)).cell (HCE.out i q hq) id⟩,?_⟩;clear hK K;go_upto_region 12 with fail
      have HX2:=yA (HX.out.next (((yH wr.heap.size wr).alloc (yB _) (.cells #[.int .i64 u.x.tick,.slice u.wo u.wn u.wc,.slice u.ko u.kn u.kc,.int .i64 u.x.rows,.int .i64 u.x.cols,.slice u.eo u.en u.ec,.slice u.po u.pn u.pc,.slice u.yo u.yn u.yc,.slice u.zo u.zn u.zc] 34)).drew));have HUI2:=yA (HUI.out.below (((yH wr.heap.size wr).alloc (yB _) (.cells #[.int .i64 u.x.tick,.slice u.wo u.wn u.wc,.slice u.ko u.kn u.kc,.int .i64 u.x.rows,.int .i64 u.x.cols,.slice u.eo u.en u.ec,.slice u.po u.pn u.pc,.slice u.yo u.yn u.yc,.slice u.zo u.zn u.zc] 34)).drew));have HL9:=yA (show (wr.alloc (.cells #[.int .i64 u.x.tick,.slice u.wo u.wn u.wc,.slice u.ko u.kn u.kc,.int .i64 u.x.rows,.int .i64 u.x.cols,.slice u.eo u.en u.ec,.slice u.po u.pn u.pc,.slice u.yo u.yn u.yc,.slice u.zo u.zn u.zc] 34)).drew.heap[wr.heap.size]?=some (.cells #[.int .i64 u.x.tick,.slice u.wo u.wn u.wc,.slice u.ko u.kn u.kc,.int .i64 u.x.rows,.int .i64 u.x.cols,.slice u.eo u.en u.ec,.slice u.po u.pn u.pc,.slice u.yo u.yn u.yc,.slice u.zo u.zn u.zc] 34 (0,0)) from yE wr _);clear r0 r1 r2 r3 r4 r5 y0 y1 y2 y3 y4 y5 y6 y7 y8 HCE HRD HUI wm wm0 wm1 HRJ;generalize (wr.alloc (.cells #[.int .i64 u.x.tick,.slice u.wo u.wn u.wc,.slice u.ko u.kn u.kc,.int .i64 u.x.rows,.int .i64 u.x.cols,.slice u.eo u.en u.ec,.slice u.po u.pn u.pc,.slice u.yo u.yn u.yc,.slice u.zo u.zn u.zc] 34)).drew=W2 at *;generalize wr.heap.size=L at *;have HC2:=yA (bp HX2.out.h 18 (show y.cells=V.toList.take 18 by rw [←HV.out];rfl));obtain ⟨l0,l1,l2,l3,l4,l5,l6,l7,l8⟩:=cells9 HL9.out;cases hst:ts.any (fun u=>bY u.x (idR y.r)) with
      | true=>
        have HF:=yA (nZ (x:=v.x) (Int.not_le.2 HL.out) HLAST.out hst);clear hst;go_wp2_with (first | ((with_reducible refine aa (o:=⟨some 60,_,_,_,_,_⟩) ?_ 79 (.tmp 5) ?_ (H+1) 0 ?_ y.cells V HV.out _ HC2.out Tryz.underlying79 ?_ ?_ ?_);rfl;rfl;rfl;rfl;exact aK))
        refine (vn W2 u y V HV.out HUI2.out).mono ?_;rintro e w2 ⟨rfl,hb2⟩;have HB2:=yA (Below.next HX2.out.below hb2);clear hb2;generalize jo u.x y=lf at *;go_wp2_with fail
        go_ret
        exact ⟨by rw [HF.out];rfl,HB2.out⟩
      | false=>
        have HF:=yA (n8 (x:=v.x) (Int.not_le.2 HL.out) HLAST.out hst);have y8:=(kh HV.out HX2.out.h).2;clear hst;go_wp2_with fail
        go_ret
        exact ⟨by rw [HF.out];rfl,HX2.out.below⟩
theorem Own.rdc {w:World} {size n c:Nat} {lo:Option Addr} {xs:List Value} (h:Own w size (.slice lo n c) n xs):RdC w lo xs:=by
 obtain ⟨hl,h⟩:=h;rcases h with ⟨_,h0⟩ | ⟨g,cap,hv,_,_,hr⟩
 · subst h0
   exact .inl (zC (by simpa using hl))
 · cases hv
   exact .inr ⟨g,0,rfl,fun j u hu=>by rw [Nat.zero_add];exact hr.cell j u hu⟩
def RV.Low (N:Nat) (v:RV):Prop:=∀ (X:Nat→Prop) (w w':World),v.In w→Keep X w w'→(∀ k,X k→N≤k)→v.In w'
theorem RV.In.above {N:Nat} {X:Nat→Prop} {w w':World} {v:RV} (h:v.In w) (hl:v.Low N) (hk:Keep X w w') (hx:∀ k,X k→N≤k):v.In w':=hl X w w' h hk hx
structure di (N:Nat) (c:ae) (ts:List RV) (R:Nat) (sv:Value) (tn:Nat) (w:World):Prop where
 box:w.heap[R]?=some (.cells #[.int .i64 c.q,.int .i64 c.d,.int .i64 c.w,.int .i64 c.ttl,.int .i64 c.b,sv] 50 (0,0))
 len:ts.length=tn
 own:Own w 9 sv tn (cellsOf RV.cells ts)
 ins:∀ v ∈ ts,v.In w
 low:∀ v ∈ ts,v.Low N
 rN:N≤R
 oN:∀ g,sv.ownBlock=some g→N≤g∧g≠R
theorem di.keep {N:Nat} {c:ae} {ts:List RV} {R:Nat} {sv:Value} {tn:Nat} {X:Nat→Prop} {w w':World} (h:di N c ts R sv tn w) (hk:Keep X w w') (hx:∀ k,X k→N≤k∧k≠R∧sv.ownBlock≠some k):di N c ts R sv tn w':=
 ⟨hk.old h.box (fun hX=>(hx _ hX).2.1 rfl),h.len,h.own.keep hk (fun g hg hX=>(hx g hX).2.2 hg),fun v hv=>(h.ins v hv).above (h.low v hv) hk (fun k hX=>(hx k hX).1),h.low,h.rN,h.oN⟩
theorem di.below {N:Nat} {c:ae} {ts:List RV} {R:Nat} {sv:Value} {tn:Nat} {w w':World} (h:di N c ts R sv tn w) (hb:Below w.heap.size w w'):di N c ts R sv tn w':=
 h.keep (Keep.of_below hb (yB _) (fun _=>False)) (fun _ hX=>hX.elim)
theorem di.at {N:Nat} {c:ae} {ts:List RV} {R:Nat} {lo:Option Addr} {tn tc:Nat} {w:World} (h:di N c ts R (.slice lo tn tc) tn w):n9 c ts R lo tn tc w:=⟨h.box,h.len,h.own.rdc,h.ins⟩
def lastT (ts:List RV):Int:=match ts.getLast? with | none=>0 | some u=>u.x.tick
def ga (ts:List RV) (x:aF) (k:Nat):Bool:=match x.ws[k]? with | none=>true | some y=>!dH ts x y
theorem jH {ts:List RV} {x:aF} {k:Nat} {y:ad} (h:x.ws[k]?=some y):ga ts x k=!dH ts x y:=by simp [ga,h]
def fF (c:ae) (ts:List RV) (v:RV):Int × List RV:=
 if aO c v.x≠0 then (aO c v.x,ts) else if v.x.tick - lastT ts≠c.w then (262,ts) else if !c6 v.x.ws.length (ga ts v.x) then (261,ts) else (0,ts++[v])
theorem vp {c:ae} {ts:List RV} {v:RV} (h:aO c v.x≠0):fF c ts v=(aO c v.x,ts):=by simp [fF,h]
theorem rG {c:ae} {ts:List RV} {v:RV} (h1:aO c v.x=0) (h:v.x.tick - lastT ts≠c.w):fF c ts v=(262,ts):=by simp [fF,h1,h]
theorem vq {c:ae} {ts:List RV} {v:RV} (h1:aO c v.x=0) (h2:v.x.tick - lastT ts=c.w) (h:c6 v.x.ws.length (ga ts v.x)=false):fF c ts v=(261,ts):=by simp [fF,h1,h2,h]
theorem vr {c:ae} {ts:List RV} {v:RV} (h1:aO c v.x=0) (h2:v.x.tick - lastT ts=c.w) (h:c6 v.x.ws.length (ga ts v.x)=true):fF c ts v=(0,ts++[v]):=by simp [fF,h1,h2,h]
theorem tY:lastT []=0:=rfl
theorem vt {ts:List RV} {u:RV} {m:Nat} (hl:ts.length=m+1) (hu:ts[m]?=some u):lastT ts=u.x.tick:=by
 unfold lastT;rw [List.getLast?_eq_getElem?,hl,Nat.add_sub_cancel,hu]
def ki:Value:=.agg #[.int .i64 0,.slice none 0 0,.slice none 0 0,.int .i64 0,.int .i64 0,.slice none 0 0,.slice none 0 0,.slice none 0 0,.slice none 0 0]
theorem pY:(Tryz.prog.info? 34).map (fun i=>(i.zero,i.size))=some (some ki,9):=by kernel_rfl
theorem kU:∃ i,Tryz.prog.info? 34=some i∧i.zero=some ki∧i.size=9∧i.bytes=168:=by
 cases hq:Tryz.prog.info? 34 with
 | none=>have h:=pY;simp [hq] at h
 | some i=>
   have h:=pY;simp [hq] at h
   exact ⟨i,rfl,h.1,h.2,by
    have h2:(Tryz.prog.info? 34).map (fun i=>i.bytes)=some 168:=by kernel_rfl
    simpa [hq] using h2⟩
def mI (N:Nat) (w:World) (c:ae) (ts:List RV) (R:Nat) (sv:Value) (v:RV) (e:Ending) (w':World):Prop:=
 e = .returned (.int .i64 (fF c ts v).1)∧∃ sv' tn',di N c (fF c ts v).2 R sv' tn' w'∧Keep (fun k=>k=R∨sv.ownBlock=some k) w w'∧(sv'.ownBlock=sv.ownBlock∨∃ g,sv'.ownBlock=some g∧w.heap.size≤g)
theorem mI.same {N:Nat} {w w':World} {c:ae} {ts:List RV} {R:Nat} {sv:Value} {tn:Nat} {v:RV} {k:Int} (h:di N c ts R sv tn w) (hf:fF c ts v=(k,ts)) (hb:Below w.heap.size w w'):mI N w c ts R sv v (.returned (.int .i64 k)) w':=
 ⟨by rw [hf],sv,tn,by rw [hf];exact h.below hb,Keep.of_below hb (yB _) _,.inl rfl⟩
end Go.Proofs.YtcaicgipibcicaaGreat
namespace Go.Proofs.YtcaicgipibcicaaGreat
open Go.RowKit Go.Sort Go.Shelf
theorem nJ (w:World):Calls Tryz.prog 119 #[.slice none 0 0] w fun e w'=>∃ R,e = .returned (.pointer (some ⟨R,0,none⟩))∧w.heap.size≤R∧Below w.heap.size w w'∧∃ ao,gu w' R ao 0 0 0:=by
 obtain ⟨i5,hi,hz0,hz1,hz2⟩:=info_parts tl
 have hmk:(Instr.makeSlice 59 (.int .i64 0) (.int .i64 0)).run Tryz.prog w = .ok (.slice (some ⟨w.heap.size,0,none⟩) 0 0) (w.alloc (.cells #[] 5)):=by
  have h:=run_make (P:=Tryz.prog) w 59 5 i5 (.int .u8 0) Tryz.underlying59 hi hz0 .i64 .i64 0 0 (by omega) (by omega) (by omega) (by omega);rw [h]
  have hc:madeCells (Value.int .u8 0).cells (((0:Int)).toNat*i5.size)=#[]:=by
   apply Array.ext
   · rw [size_madeCells];simp
   · intro j h1 h2;simp at h2
  rw [hc];rfl
 have hcp:=fun w:World=>run_copy_none (P:=Tryz.prog) w 59 59 3 5 (some ⟨w.heap.size,0,none⟩) none 0 0 0 0 Tryz.underlying59 (by kernel_rfl) rfl
 have hcp2:(Builtin.copy_ #[59,59] 3 #[.slice (some ⟨w.heap.size,0,none⟩) 0 0,.slice none 0 0]).run Tryz.prog (w.alloc (.cells #[] 5)) = .ok (goInt 0) (w.alloc (.cells #[] 5)):=run_copy_none _ _ _ _ 5 _ _ 0 0 0 0 Tryz.underlying59 (by kernel_rfl) rfl;clear hcp;have HB:=yA (((yH w.heap.size w).alloc (yB _) (.cells #[] 5)).alloc (by simp) (.cells #[.slice (some ⟨w.heap.size,0,none⟩) 0 0,.int .i64 0,.bool true] 226))
 have HR:=yA (show gu ((w.alloc (.cells #[] 5)).alloc (.cells #[.slice (some ⟨w.heap.size,0,none⟩) 0 0,.int .i64 0,.bool true] 226)) (w.heap.size+1) (some ⟨w.heap.size,0,none⟩) 0 0 0 from by
  have:=yE (w.alloc (.cells #[] 5)) (.cells #[.slice (some ⟨w.heap.size,0,none⟩) 0 0,.int .i64 0,.bool true] 226);rw [show (w.alloc (.cells #[] 5)).heap.size=w.heap.size+1 by simp] at this;exact this)
 clear hi hz0 hz1 hz2;go_enter Tryz.func119,Tryz.ntmps119
 go_wp2_with fail
 go_ret
 exact ⟨w.heap.size+1,rfl,by omega,HB.out,_,HR.out⟩
theorem rH (W:World) (l B:Nat) (hB:W.heap[B]?=some (.cells #[.slice none 0 0] 59 (0,0))) :
 Calls Tryz.prog 154 #[.func (.yield l) #[] #[],.pointer (some ⟨B,0,none⟩)] W fun e W'=>e = .returned (.tuple #[])∧Below W.heap.size W W':=by
 have HB:=yA hB;have HBL:=yA (lt_of_block hB);have HA:=yA ((yH W.heap.size W).alloc (yB _) (.cells #[.int .u8 0,.int .u8 0,.int .u8 0,.int .u8 0] 139))
 have c0:(W.alloc (.cells #[.int .u8 0,.int .u8 0,.int .u8 0,.int .u8 0] 139)).cell? ⟨B,0,none⟩=some (.slice none 0 0):=by
  rw [yI _ _ _ _ _ (0,0) ((Keep.of_below HA.out (yB _) (fun _=>False)).old hB id)];rfl
 clear hB;go_enter Tryz.func154,Tryz.ntmps154
 go_wp2_with fail
 generalize W.alloc (.cells #[.int .u8 0,.int .u8 0,.int .u8 0,.int .u8 0] 139)=W1 at *;go_loopw [4] (fun i wr=>Hid (wr=W1)) (fun i _=>0)
 case atStart=>exact yA rfl
 case round=>
  obtain rfl:=hrel.out;clear hrel;go_wp2_with fail
  refine (nJ wr).mono ?_;rintro e w2 ⟨R,rfl,hR,hb2,ao,h2⟩;have HB2:=yA (Below.next HA.out hb2);have HR:=yA hR;have H2:=yA h2;clear hb2 hR h2 c0;go_wp2_with fail
  refine (oz w2 R ao 0 0 H2.out).mono ?_;rintro e w3 ⟨rfl,f3,ao3,c3,hf3,h3,k3⟩;have HB3:=yA (HB2.out.trans (k3.below HB2.out.size (fun i hi he=>by have:=HR.out;have:=HA.out.size;omega)));have H3:=yA h3;clear h3 k3;go_wp2_with fail
  refine (oz w3 R ao3 c3 f3 H3.out).mono ?_;rintro e w4 ⟨rfl,f4,ao4,c4,hf4,h4,k4⟩;have HB4:=yA (HB3.out.trans (k4.below HB3.out.size (fun i hi he=>by have:=HR.out;have:=HA.out.size;omega)));have H4:=yA h4;clear h4 k4;go_wp2_with fail
  refine (tA w4 R ao4 0 c4 f4 H4.out hf4).mono ?_;rintro e w5 ⟨rfl,rfl⟩;have b1:(f4 != 0)=true:=by simp [hf4]
  go_wp2_with fail
  exact bodyPost_ret (v:=.tuple #[]) (by simp [results,Tryz.results154,go_sem]) rfl ⟨rfl,HB4.out⟩
theorem mJ (w:World) (ao:Option Addr) (n c:Nat):Calls Tryz.prog 118 #[.slice ao n c] w fun e w'=>e = .returned (.func (.func 154) #[] #[.pointer (some ⟨w.heap.size,0,none⟩)])∧w'=w.alloc (.cells #[.slice ao n c] 59):=by
 go_enter Tryz.func118,Tryz.ntmps118
 go_wp2_with fail
 go_ret
 exact ⟨rfl,rfl⟩
theorem mK {w w':World} (h:Below w.heap.size w w'):w.grownBy w' none:=⟨h.os,h.tape,h.output,h.size,fun k hk _=>h.block k hk⟩
theorem tZ (n B:Nat) (w:World) (hB:w.heap[B]?=some (.cells #[.slice none 0 0] 59 (0,0))) :
 SeqStopsK Fence.wide n Tryz.prog 154 #[.pointer (some ⟨B,0,none⟩)] (fun x:Empty=>nomatch x) (fun _ _=>True) (fun xs=>xs=[]) (fun _=>False) 0 w:=fun l J Jx W hW hJ hJx hY h0=>
 callsIn_wide.2 ((rH W l B ((Keep.of_below hW (yB _) (fun _=>False)).old hB id)).mono fun e W' ⟨he,hb⟩=>⟨⟨_,he⟩,.inl ⟨[],rfl,hJ [] W W' none h0 (mK hb) (fun r e=>by cases e)⟩⟩)
theorem rI (w:World):∃ W,((((((w.alloc (.cells #[.int .i64 0,.int .i64 0,.int .i64 0,.int .i64 0,.int .i64 0] 23)).alloc (.cells #[.slice none 0 0] 43)).alloc (.cells #[.int .i64 0] 3)).alloc (.cells #[.int .u8 0,.int .u8 0,.int .u8 0,.int .u8 0] 139)).alloc (.cells #[.int .i64 0] 3)).alloc (.cells #[.slice none 0 0] 59))=W∧W.heap[w.heap.size]?=some (.cells #[.int .i64 0,.int .i64 0,.int .i64 0,.int .i64 0,.int .i64 0] 23 (0,0))∧W.heap[w.heap.size+1]?=some (.cells #[.slice none 0 0] 43 (0,0))∧W.heap[w.heap.size+2]?=some (.cells #[.int .i64 0] 3 (0,0))∧
 W.heap[w.heap.size+3]?=some (.cells #[.int .u8 0,.int .u8 0,.int .u8 0,.int .u8 0] 139 (0,0))∧W.heap[w.heap.size+5]?=some (.cells #[.slice none 0 0] 59 (0,0))∧Below w.heap.size w W∧W.heap.size=w.heap.size+6:=by
 have step:∀ (V:World) (o:Obj) (k:Nat),V.heap.size=k→(V.alloc o).heap[k]?=some o∧(V.alloc o).heap.size=k+1∧∀ (j:Nat) (p:Obj),V.heap[j]?=some p→(V.alloc o).heap[j]?=some p:=by
  intro V o k hk;refine ⟨by rw [←hk];exact yE V o,by rw [←hk];simp,fun j p hp=>(Keep.alloc (fun _=>False) V o).old hp id⟩
 obtain ⟨a1,s1,k1⟩:=step w (.cells #[.int .i64 0,.int .i64 0,.int .i64 0,.int .i64 0,.int .i64 0] 23) _ rfl;obtain ⟨a2,s2,k2⟩:=step (w.alloc (.cells #[.int .i64 0,.int .i64 0,.int .i64 0,.int .i64 0,.int .i64 0] 23)) (.cells #[.slice none 0 0] 43) _ s1;obtain ⟨a3,s3,k3⟩:=step ((w.alloc (.cells #[.int .i64 0,.int .i64 0,.int .i64 0,.int .i64 0,.int .i64 0] 23)).alloc (.cells #[.slice none 0 0] 43)) (.cells #[.int .i64 0] 3) _ s2;obtain ⟨a4,s4,k4⟩:=step (((w.alloc (.cells #[.int .i64 0,.int .i64 0,.int .i64 0,.int .i64 0,.int .i64 0] 23)).alloc (.cells #[.slice none 0 0] 43)).alloc (.cells #[.int .i64 0] 3)) (.cells #[.int .u8 0,.int .u8 0,.int .u8 0,.int .u8 0] 139) _ s3;obtain ⟨a5,s5,k5⟩:=step ((((w.alloc (.cells #[.int .i64 0,.int .i64 0,.int .i64 0,.int .i64 0,.int .i64 0] 23)).alloc (.cells #[.slice none 0 0] 43)).alloc (.cells #[.int .i64 0] 3)).alloc (.cells #[.int .u8 0,.int .u8 0,.int .u8 0,.int .u8 0] 139)) (.cells #[.int .i64 0] 3) _ s4;obtain ⟨a6,s6,k6⟩:=step (((((w.alloc (.cells #[.int .i64 0,.int .i64 0,.int .i64 0,.int .i64 0,.int .i64 0] 23)).alloc (.cells #[.slice none 0 0] 43)).alloc (.cells #[.int .i64 0] 3)).alloc (.cells #[.int .u8 0,.int .u8 0,.int .u8 0,.int .u8 0] 139)).alloc (.cells #[.int .i64 0] 3)) (.cells #[.slice none 0 0] 59) _ s5;refine ⟨_,rfl,k6 _ _ (k5 _ _ (k4 _ _ (k3 _ _ (k2 _ _ a1)))),k6 _ _ (k5 _ _ (k4 _ _ (k3 _ _ a2))),k6 _ _ (k5 _ _ (k4 _ _ a3)),k6 _ _ (k5 _ _ a4),a6,?_,s6⟩;exact ((((((yH w.heap.size w).alloc (yB _) _).alloc (by rw [s1];omega) _).alloc (by rw [s2];omega) _).alloc (by rw [s3];omega) _).alloc (by rw [s4];omega) _).alloc (by rw [s5];omega) _
theorem pZ {W:World} {B:Nat} (h:W.heap[B]?=some (.cells #[.int .i64 0,.int .i64 0,.int .i64 0,.int .i64 0,.int .i64 0] 23 (0,0))):(((((W.setCell ⟨B,0,none⟩ (.int .i64 0)).setCell ⟨B,1,none⟩ (.int .i64 0)).setCell ⟨B,2,none⟩ (.int .i64 0)).setCell ⟨B,3,none⟩ (.int .i64 0)).setCell ⟨B,4,none⟩ (.int .i64 0)).heap[B]?=some (.cells #[.int .i64 0,.int .i64 0,.int .i64 0,.int .i64 0,.int .i64 0] 23 (0,0))∧Keep (fun k=>k=B) W (((((W.setCell ⟨B,0,none⟩ (.int .i64 0)).setCell ⟨B,1,none⟩ (.int .i64 0)).setCell ⟨B,2,none⟩ (.int .i64 0)).setCell ⟨B,3,none⟩ (.int .i64 0)).setCell ⟨B,4,none⟩ (.int .i64 0)):=by
 have q:=(aj (aj (aj (aj (aj h 0 (.int .i64 0)) 1 (.int .i64 0)) 2 (.int .i64 0)) 3 (.int .i64 0)) 4 (.int .i64 0));exact ⟨by simpa only [yM,yX,yZ] using q,Keep.setCells W B 0 [.int .i64 0,.int .i64 0,.int .i64 0,.int .i64 0,.int .i64 0]⟩
theorem zero4 {W:World} {B:Nat} (h:W.heap[B]?=some (.cells #[.int .u8 0,.int .u8 0,.int .u8 0,.int .u8 0] 139 (0,0))):((((W.setCell ⟨B,0,none⟩ (.int .u8 0)).setCell ⟨B,1,none⟩ (.int .u8 0)).setCell ⟨B,2,none⟩ (.int .u8 0)).setCell ⟨B,3,none⟩ (.int .u8 0)).heap[B]?=some (.cells #[.int .u8 0,.int .u8 0,.int .u8 0,.int .u8 0] 139 (0,0))∧Keep (fun k=>k=B) W ((((W.setCell ⟨B,0,none⟩ (.int .u8 0)).setCell ⟨B,1,none⟩ (.int .u8 0)).setCell ⟨B,2,none⟩ (.int .u8 0)).setCell ⟨B,3,none⟩ (.int .u8 0)):=by
 have q:=(aj (aj (aj (aj h 0 (.int .u8 0)) 1 (.int .u8 0)) 2 (.int .u8 0)) 3 (.int .u8 0));exact ⟨by simpa only [yM,yX,yZ] using q,Keep.setCells W B 0 [.int .u8 0,.int .u8 0,.int .u8 0,.int .u8 0]⟩
theorem vu {W:World} {B D:Nat} (h0:W.heap[B]?=some (.cells #[.int .i64 0,.int .i64 0,.int .i64 0,.int .i64 0,.int .i64 0] 23 (0,0))) (h1:W.heap[B+1]?=some (.cells #[.slice none 0 0] 43 (0,0))) (h2:W.heap[B+2]?=some (.cells #[.int .i64 0] 3 (0,0)))
 (h3:W.heap[B+3]?=some (.cells #[.int .u8 0,.int .u8 0,.int .u8 0,.int .u8 0] 139 (0,0))) (hD:B+6≤D) (hK:W.heap[D]?=some (.deferred (some []))) :
 ∃ WF,(((((((((((W.setCell ⟨B,0,none⟩ (.int .i64 0)).setCell ⟨B,1,none⟩ (.int .i64 0)).setCell ⟨B,2,none⟩ (.int .i64 0)).setCell ⟨B,3,none⟩ (.int .i64 0)).setCell ⟨B,4,none⟩ (.int .i64 0)).setCell ⟨B+1,0,none⟩ (.slice none 0 0)).setCell ⟨B+1+1,0,none⟩ (.int .i64 0)).setCell ⟨B+1+1+1,0,none⟩ (.int .u8 0)).setCell ⟨B+1+1+1,1,none⟩ (.int .u8 0)).setCell ⟨B+1+1+1,2,none⟩ (.int .u8 0)).setCell ⟨B+1+1+1,3,none⟩ (.int .u8 0))=WF∧WF.heap[B]?=some (.cells #[.int .i64 0,.int .i64 0,.int .i64 0,.int .i64 0,.int .i64 0] 23 (0,0))∧WF.heap[B+1]?=some (.cells #[.slice none 0 0] 43 (0,0))∧WF.heap[B+2]?=some (.cells #[.int .i64 0] 3 (0,0))∧
  WF.heap[B+3]?=some (.cells #[.int .u8 0,.int .u8 0,.int .u8 0,.int .u8 0] 139 (0,0))∧WF.heap[D]?=some (.deferred (some []))∧Keep (fun k=>B≤k) W WF:=by
 obtain ⟨a0,ka⟩:=pZ h0;generalize (((((W.setCell ⟨B,0,none⟩ (.int .i64 0)).setCell ⟨B,1,none⟩ (.int .i64 0)).setCell ⟨B,2,none⟩ (.int .i64 0)).setCell ⟨B,3,none⟩ (.int .i64 0)).setCell ⟨B,4,none⟩ (.int .i64 0))=WA at *;have a1:=ka.old h1 (by omega);have a2:=ka.old h2 (by omega);have a3:=ka.old h3 (by omega);have aD:=ka.old hK (by omega);have b1:=aj a1 0 (.slice none 0 0);have kb:=aS WA (B+1) 0 (.slice none 0 0);generalize WA.setCell ⟨B+1,0,none⟩ (.slice none 0 0)=WB at *;have b0:=kb.old a0 (by omega);have b2:=kb.old a2 (by omega);have b3:=kb.old a3 (by omega);have bD:=kb.old aD (by omega);have c2:=aj b2 0 (.int .i64 0);have kc:=aS WB (B+2) 0 (.int .i64 0);generalize WB.setCell ⟨B+2,0,none⟩ (.int .i64 0)=WC at *;have c0:=kc.old b0 (by omega);have c1:=kc.old b1 (by omega);have c3:=kc.old b3 (by omega);have cD:=kc.old bD (by omega);obtain ⟨d3,kd⟩:=zero4 c3;refine ⟨_,rfl,kd.old c0 (by omega),kd.old c1 (by omega),kd.old c2 (by omega),d3,kd.old cD (by omega),?_⟩;exact ((ka.trans kb (Z:=fun k=>B≤k) (fun _ _ h=>by omega) (fun _ _ h=>by omega)).trans kc (Z:=fun k=>B≤k) (fun _ _ h=>h) (fun _ _ h=>by omega)).trans kd (fun _ _ h=>h) (fun _ _ h=>by omega)
theorem vv (w:World):Calls Tryz.prog 75 #[.slice none 0 0] w fun e w'=>e = .returned (.tuple #[.agg #[.int .i64 0,.int .i64 0,.int .i64 0,.int .i64 0,.int .i64 0],.slice none 0 0,.int .i64 0,.agg #[.int .u8 0,.int .u8 0,.int .u8 0,.int .u8 0],.int .i64 250])∧Below w.heap.size w w':=by
 obtain ⟨wl,hwl,h0,h1,h2,h3,h5,hbl,hsz⟩:=rI w;have HWL:=yA hwl;have H0:=yA h0;have H1:=yA h1;have H2:=yA h2;have H3:=yA h3;have H5:=yA h5;have HBL:=yA hbl;have HSZ:=yA hsz;clear hwl h0 h1 h2 h3 h5 hbl hsz;refine (callsIn_wide (n:=5)).1 ?_;refine callsIn_of_wp_marks Tryz.func75 rfl trivial ?_ rfl;simp only [Tryz.ntmps75,List.size_toArray,List.length_cons,List.length_nil,Nat.reduceAdd,Nat.reduceSub,Array.replicate_succ,Array.replicate_zero,List.push_toArray,List.append_toArray,List.nil_append,List.cons_append]
 gi_wp2_with (first | (refine ⟨trivial,?_⟩;gi_at_call 118;refine (callsIn_wide.2 (mJ _ _ _ _)).mono ?_;rintro e w' ⟨rfl,rfl⟩))
 rw [HWL.out]
 refine wpIn_rangeFunc_ownF (α:=Empty) rfl (by omega) (gf:=154) (lb:=#[.pointer (some ⟨w.heap.size+5,0,none⟩)]) rfl trivial (enters_of Tryz.func154 (by kernel_rfl) rfl)
  (tZ 4 (w.heap.size+5) wl H5.out) (fun _ _=>trivial) (fun _ _ _ _ _ _ _ _=>trivial) (yH _ _) (fun x=>nomatch x)
  (fun _ W=>Below wl.heap.size wl W) (fun _ _ _=>False) (ownFrom_below (yB _) (yB _)) (fun _ _ _ _ _ hs _ _=>hs) (yH _ _) (fun x=>nomatch x) (fun _ x=>nomatch x) (fun _ _ x=>nomatch x) ?done (fun _ _ _ _ _ h=>h.elim)
 case done=>
  rintro D xs W hD - hB hK;have HBW:=yA hB;have HKD:=yA hK;have HD:=yA hD;have k:=Keep.of_below hB (yB _) (fun _=>False);have h0:=k.old H0.out id;have h1:=k.old H1.out id;have h2:=k.old H2.out id;have h3:=k.old H3.out id;clear hB hK hD k;obtain ⟨B,hBB⟩:∃ B,w.heap.size=B:=⟨_,rfl⟩;rw [hBB] at h0 h1 h2 h3 HSZ ⊢;have HBB:=yA hBB;clear hBB;obtain ⟨x0,x1,x2,x3,x4⟩:=aL (c:=⟨0,0,0,0,0⟩) h0;have xf:=fun j=>zm W B j _ _ h0
  have y0:W.cell? ⟨B+1,0,none⟩=some (.slice none 0 0):=by rw [yI W _ _ _ _ (0,0) h1];rfl
  have yf:=fun j=>zm W (B+1) j _ _ h1
  have z0:W.cell? ⟨B+1+1,0,none⟩=some (.int .i64 0):=by rw [yI W _ _ _ _ (0,0) h2];rfl
  have zf:=fun j=>zm W (B+1+1) j _ _ h2
  have u0:W.cell? ⟨B+1+1+1,0,none⟩=some (.int .u8 0):=by rw [yI W _ _ _ _ (0,0) h3];rfl
  have u1:W.cell? ⟨B+1+1+1,1,none⟩=some (.int .u8 0):=by rw [yI W _ _ _ _ (0,0) h3];rfl
  have u2:W.cell? ⟨B+1+1+1,2,none⟩=some (.int .u8 0):=by rw [yI W _ _ _ _ (0,0) h3];rfl
  have u3:W.cell? ⟨B+1+1+1,3,none⟩=some (.int .u8 0):=by rw [yI W _ _ _ _ (0,0) h3];rfl
  have uf:=fun j=>zm W (B+1+1+1) j _ _ h3
  have HH:=yA (And.intro h0 (And.intro h1 (And.intro h2 h3)));clear h0 h1 h2 h3
  gi_wp2
  have hDB:B+6≤D:=by have:=HSZ.out;have:=HD.out;omega
  obtain ⟨WF,hWF,f0,f1,f2,f3,fD,kF⟩:=vu HH.out.1 HH.out.2.1 HH.out.2.2.1 HH.out.2.2.2 hDB HKD.out;rw [hWF];refine ⟨by simp,.inl ⟨_,_,rfl,run_takeDeferred fD,?_⟩⟩;have g0:(WF.putObj D (.deferred none)).heap[B]?=some (.cells #[.int .i64 0,.int .i64 0,.int .i64 0,.int .i64 0,.int .i64 0] 23 (0,0)):=by rw [World.putObj_heap_other (by omega)];exact f0
  have g1:(WF.putObj D (.deferred none)).heap[B+1]?=some (.cells #[.slice none 0 0] 43 (0,0)):=by rw [World.putObj_heap_other (by omega)];exact f1
  have g2:(WF.putObj D (.deferred none)).heap[B+1+1]?=some (.cells #[.int .i64 0] 3 (0,0)):=by rw [World.putObj_heap_other (by omega)];exact f2
  have g3:(WF.putObj D (.deferred none)).heap[B+1+1+1]?=some (.cells #[.int .u8 0,.int .u8 0,.int .u8 0,.int .u8 0] 139 (0,0)):=by rw [World.putObj_heap_other (by omega)];exact f3
  have hfin:Below w.heap.size w (WF.putObj D (.deferred none)):=by
   have hs:=HBL.out.trans (HBW.out.mono HBL.out.size);have h1:Below w.heap.size w WF:=hs.trans (kF.below hs.size (fun i hi h=>by have:=HBB.out;omega));exact ⟨h1.os,h1.tape,h1.output,by rw [World.putObj_size];exact h1.size,fun k hk=>by rw [World.putObj_heap_other (by have:=HBB.out;omega)];exact h1.block k hk⟩
  generalize WF.putObj D (.deferred none)=WG at *;obtain ⟨v0,v1,v2,v3,v4⟩:=aL (c:=⟨0,0,0,0,0⟩) g0;have w0:WG.cell? ⟨B+1,0,none⟩=some (.slice none 0 0):=by rw [yI WG _ _ _ _ (0,0) g1];rfl
  have w1:WG.cell? ⟨B+1+1,0,none⟩=some (.int .i64 0):=by rw [yI WG _ _ _ _ (0,0) g2];rfl
  have r0:WG.cell? ⟨B+1+1+1,0,none⟩=some (.int .u8 0):=by rw [yI WG _ _ _ _ (0,0) g3];rfl
  have r1:WG.cell? ⟨B+1+1+1,1,none⟩=some (.int .u8 0):=by rw [yI WG _ _ _ _ (0,0) g3];rfl
  have r2:WG.cell? ⟨B+1+1+1,2,none⟩=some (.int .u8 0):=by rw [yI WG _ _ _ _ (0,0) g3];rfl
  have r3:WG.cell? ⟨B+1+1+1,3,none⟩=some (.int .u8 0):=by rw [yI WG _ _ _ _ (0,0) g3];rfl
  exact ⟨.tuple #[.agg #[.int .i64 0,.int .i64 0,.int .i64 0,.int .i64 0,.int .i64 0],.slice none 0 0,.int .i64 0,.agg #[.int .u8 0,.int .u8 0,.int .u8 0,.int .u8 0],.int .i64 250],by simp [results,Tryz.results75,go_sem,v0,v1,v2,v3,v4,w0,w1,r0,r1,r2,r3],rfl,hfin⟩
theorem t7 (w:World):Calls Tryz.prog 33 #[.slice none 0 0] w fun e w'=>e = .returned (.tuple #[.agg #[.int .i64 0,.int .i64 0,.int .i64 0,.int .i64 0,.int .i64 0],.slice none 0 0,.int .i64 0,.int .i64 250])∧Below w.heap.size w w':=by
 have HB:=yA ((yH w.heap.size w).alloc (yB _) (.cells #[.int .i64 0,.int .i64 0,.int .i64 0,.int .i64 0,.int .i64 0] 23));have HH:=yA (yE w (.cells #[.int .i64 0,.int .i64 0,.int .i64 0,.int .i64 0,.int .i64 0] 23));go_enter Tryz.func33,Tryz.ntmps33
 go_wp2_with fail
 generalize w.alloc (.cells #[.int .i64 0,.int .i64 0,.int .i64 0,.int .i64 0,.int .i64 0] 23)=W at *;refine (vv W).mono ?_;rintro e w2 ⟨rfl,hb2⟩;have HB2:=yA (Below.next HB.out hb2);have h2:=(Keep.of_below hb2 (yB _) (fun _=>False)).old HH.out id;have HZ:=yA (pZ h2);obtain ⟨x0,x1,x2,x3,x4⟩:=aL (c:=⟨0,0,0,0,0⟩) h2;have xf:=fun j=>zm w2 w.heap.size j _ _ h2
 clear hb2;go_wp2_with fail
 obtain ⟨z1,k1⟩:=HZ.out;generalize (((((w2.setCell ⟨w.heap.size,0,none⟩ (.int .i64 0)).setCell ⟨w.heap.size,1,none⟩ (.int .i64 0)).setCell ⟨w.heap.size,2,none⟩ (.int .i64 0)).setCell ⟨w.heap.size,3,none⟩ (.int .i64 0)).setCell ⟨w.heap.size,4,none⟩ (.int .i64 0))=w3 at *;obtain ⟨z2,k2⟩:=pZ z1;generalize (((((w3.setCell ⟨w.heap.size,0,none⟩ (.int .i64 0)).setCell ⟨w.heap.size,1,none⟩ (.int .i64 0)).setCell ⟨w.heap.size,2,none⟩ (.int .i64 0)).setCell ⟨w.heap.size,3,none⟩ (.int .i64 0)).setCell ⟨w.heap.size,4,none⟩ (.int .i64 0))=w4 at *;have HF:=yA ((HB2.out.trans (k1.below HB2.out.size (fun i hi h=>by omega))).trans (k2.below (yV HB2.out.size k1.size) (fun i hi h=>by omega)));obtain ⟨v0,v1,v2,v3,v4⟩:=aL (c:=⟨0,0,0,0,0⟩) z2;exact bodyPost_ret (v:=.tuple #[.agg #[.int .i64 0,.int .i64 0,.int .i64 0,.int .i64 0,.int .i64 0],.slice none 0 0,.int .i64 0,.int .i64 250]) (by simp [results,Tryz.results33,go_sem,v0,v1,v2,v3,v4]) rfl ⟨rfl,HF.out⟩
theorem dy (c:ae):∀ u ∈ c.cells,u.oneCell'=true:=by
 intro u hu;simp only [ae.cells,List.mem_cons,List.not_mem_nil,or_false] at hu;rcases hu with rfl | rfl | rfl | rfl | rfl <;> rfl
theorem xA (w:World):Calls Tryz.prog 24 #[.slice none 0 0] w fun e w'=>e = .returned (.agg #[.int .i64 0,.int .i64 0,.int .i64 250])∧Below w.heap.size w w':=by
 have HB:=yA ((yH w.heap.size w).alloc (yB _) (.cells #[.int .i64 0,.int .i64 0,.int .i64 0] 62));have HH:=yA (yE w (.cells #[.int .i64 0,.int .i64 0,.int .i64 0] 62));go_enter Tryz.func24,Tryz.ntmps24
 go_wp2_with fail
 generalize w.alloc (.cells #[.int .i64 0,.int .i64 0,.int .i64 0] 62)=W at *;refine (t7 W).mono ?_;rintro e w2 ⟨rfl,hb2⟩;have HB2:=yA (Below.next HB.out hb2);have h2:=(Keep.of_below hb2 (yB _) (fun _=>False)).old HH.out id;clear hb2;have HB3:=yA (show Below w.heap.size w (w2.alloc (.cells #[.int .i64 0,.int .i64 0,.int .i64 0,.int .i64 0,.int .i64 0] 23)) from HB2.out.alloc HB2.out.size _);have h3:(w2.alloc (.cells #[.int .i64 0,.int .i64 0,.int .i64 0,.int .i64 0,.int .i64 0] 23)).heap[w.heap.size]?=some (.cells #[.int .i64 0,.int .i64 0,.int .i64 0] 62 (0,0)):=(Keep.alloc (fun _=>False) w2 _).old h2 id;have HQ:=yA (aj (aj (aj h3 0 (.int .i64 0)) 1 (.int .i64 0)) 2 (.int .i64 250));have HK:=yA (Keep.setCells (w2.alloc (.cells #[.int .i64 0,.int .i64 0,.int .i64 0,.int .i64 0,.int .i64 0] 23)) w.heap.size 0 [.int .i64 0,.int .i64 0,.int .i64 250]);obtain ⟨g0,g1,g2,gf⟩:=cells3 h3;clear h2 h3;go_wp2_with (first | ((with_reducible refine ah (o:=⟨none,.store 23 (.tmp 3) (.tmp 16),_,_,_,_⟩) ?_ 23 (.tmp 3) (.tmp 16) ?_ _ #[.int .i64 0,.int .i64 0,.int .i64 0,.int .i64 0,.int .i64 0] ?_ ?_ (ae.cells ⟨0,0,0,0,0⟩) ?_ ?_ ?_ (dy _) ?_);rfl;rfl;rfl;rfl;rfl;exact aE;rfl))
 exact bodyPost_ret (v:=.agg #[.int .i64 0,.int .i64 0,.int .i64 250]) (eL 2 62 Tryz.results24 w.heap.size rfl #[.int .i64 0,.int .i64 0,.int .i64 250] _ HQ.out _ Tryz.underlying62 rfl (by kernel_rfl)) rfl ⟨rfl,HB3.out.trans (HK.out.below HB3.out.size (fun i hi h=>by omega))⟩
end Go.Proofs.YtcaicgipibcicaaGreat
namespace Go.Proofs.YtcaicgipibcicaaGreat
open Go.RowKit Go.Sort
structure gA (w:World) (v:RV) (H:Nat) (wr:World):Prop where
 g:wr.heap[H]?=some (.cells #[.int .i64 v.x.tick,.slice v.wo v.wn v.wc,.slice v.ko v.kn v.kc,.int .i64 v.x.rows,.int .i64 v.x.cols,.slice v.eo v.en v.ec,.slice v.po v.pn v.pc,.slice v.yo v.yn v.yc,.slice v.zo v.zn v.zc] 34 (0,0))
 below:Below w.heap.size w wr
theorem gA.begin (w:World) (v:RV):gA w v w.heap.size (w.alloc (.cells #[.int .i64 v.x.tick,.slice v.wo v.wn v.wc,.slice v.ko v.kn v.kc,.int .i64 v.x.rows,.int .i64 v.x.cols,.slice v.eo v.en v.ec,.slice v.po v.pn v.pc,.slice v.yo v.yn v.yc,.slice v.zo v.zn v.zc] 34)):=⟨yE w _,(yH w.heap.size w).alloc (yB _) _⟩
theorem gA.next {w:World} {v:RV} {H:Nat} {wr w':World} (h:gA w v H wr) (hb:Below wr.heap.size wr w'):gA w v H w':=
 ⟨(Keep.of_below hb (yB _) (fun _=>False)).old h.g id,Below.next h.below hb⟩
theorem gA.drew {w:World} {v:RV} {H:Nat} {wr:World} (h:gA w v H wr):gA w v H wr.drew:=h.next (yH _ _).drew
theorem gA.drewN {w:World} {v:RV} {H:Nat} {wr:World} (h:gA w v H wr) (n:Nat):gA w v H (wr.drewN n):=h.next (below_drewN (yH _ _) n)
theorem di.at' {N:Nat} {c:ae} {ts:List RV} {R:Nat} {sv:Value} {lo:Option Addr} {tn tc:Nat} {w:World} (h:di N c ts R sv tn w) (hs:sv = .slice lo tn tc):n9 c ts R lo tn tc w:=by
 subst hs;exact h.at
theorem RV.cells_one (v:RV):∀ u ∈ v.cells,u.oneCell'=true:=by
 intro u hu;simp only [RV.cells,List.mem_cons,List.not_mem_nil,or_false] at hu;rcases hu with rfl | rfl | rfl | rfl | rfl | rfl | rfl | rfl | rfl <;> rfl
theorem di.saw {N:Nat} {c:ae} {ts:List RV} {R:Nat} {sv sv':Value} {tn:Nat} {v:RV} {w w5:World} (h:di N c ts R sv tn w) (hin:v.In w) (hlow:v.Low N) (hN:N≤w.heap.size)
 (hk:Keep (fun k=>sv.ownBlock=some k) w w5) (ho:Own w5 9 sv' (tn+1) (cellsOf RV.cells ts++v.cells)) (hb:sv'.ownBlock=sv.ownBlock∨∃ g,sv'.ownBlock=some g∧w.heap.size≤g) :
 di N c (ts++[v]) R sv' (tn+1) (w5.setCell ⟨R,5,none⟩ sv')∧Keep (fun k=>k=R∨sv.ownBlock=some k) w (w5.setCell ⟨R,5,none⟩ sv'):=by
 have hR:=lt_of_block h.box;have hbox:=hk.old h.box (fun e=>(h.oN R e).2 rfl)
 have hown:∀ g,sv'.ownBlock=some g→N≤g∧g≠R:=by
  intro g hg;rcases hb with hb | ⟨g',hg',hge⟩
  · rw [hb] at hg
    exact h.oN g hg
  · rw [hg'] at hg
    cases hg
    exact ⟨by omega,by omega⟩
 have hkeep:Keep (fun k=>k=R∨sv.ownBlock=some k) w (w5.setCell ⟨R,5,none⟩ sv'):=hk.trans (aS w5 R 5 sv') (fun _ _ h=>.inr h) (fun _ _ h=>.inl h)
 have hlows:∀ u ∈ ts++[v],u.Low N:=by
  intro u hu;rcases List.mem_append.1 hu with hu | hu
  · exact h.low u hu
  · cases List.mem_singleton.1 hu;exact hlow
 have hins:∀ u ∈ ts++[v],u.In w:=by
  intro u hu;rcases List.mem_append.1 hu with hu | hu
  · exact h.ins u hu
  · cases List.mem_singleton.1 hu;exact hin
 refine ⟨⟨aj hbox 5 sv',by simp [h.len],?_,fun u hu=>(hins u hu).above (hlows u hu) hkeep (fun k hX=>?_),hlows,h.rN,hown⟩,hkeep⟩
 · rw [show cellsOf RV.cells (ts++[v])=cellsOf RV.cells ts++v.cells by simp [cellsOf]]
   exact ho.keep (aS w5 R 5 sv') (fun g hg e=>(hown g hg).2 e)
 · rcases hX with rfl | hX
   · exact h.rN
   · exact (h.oN k hX).1
theorem vw (N:Nat) (w:World) (c:ae) (ts:List RV) (R:Nat) (sv:Value) (tn:Nat) (v:RV) (h:di N c ts R sv tn w) (hin:v.In w) (hlow:v.Low N) (hN:N≤w.heap.size) (hc:aB c=true) (hts:∀ u ∈ ts,bw u.x=0) (hn:tn≤2000000) :
 Calls Tryz.prog 21 #[.pointer (some ⟨R,0,none⟩),.agg #[.int .i64 v.x.tick,.slice v.wo v.wn v.wc,.slice v.ko v.kn v.kc,.int .i64 v.x.rows,.int .i64 v.x.cols,.slice v.eo v.en v.ec,.slice v.po v.pn v.pc,.slice v.yo v.yn v.yc,.slice v.zo v.zn v.zc]] w (mI N w c ts R sv v):=by
 obtain ⟨lo,tc,hsv⟩:=h.own.sl;have HSV:=yA hsv;have HO:=yA h;have HIN:=yA hin;have HLOW:=yA hlow;have HCF:=yA hc;have HTS:=yA hts;have HNN:=yA hN;have HS:=yA (gA.begin w v);clear h hin hlow hc hts hN hsv;go_enter Tryz.func21,Tryz.ntmps21
 go_upto_region 1 with fail
 generalize w.alloc (.cells #[.int .i64 v.x.tick,.slice v.wo v.wn v.wc,.slice v.ko v.kn v.kc,.int .i64 v.x.rows,.int .i64 v.x.cols,.slice v.eo v.en v.ec,.slice v.po v.pn v.pc,.slice v.yo v.yn v.yc,.slice v.zo v.zn v.zc] 34)=W at *;obtain ⟨H,hH⟩:∃ H,w.heap.size=H:=⟨_,rfl⟩;have HH:=yA hH;rw [hH] at HS ⊢;clear hH;obtain ⟨g0,g1,g2,g3,g4,g5,g6,g7,g8⟩:=cells9 HS.out.g;obtain ⟨r0,r1,r2,r3,r4,r5⟩:=e7 (HO.out.below HS.out.below).box;go_still_tail 5,(by kernel_rfl)
 change wpList _ _ _ _ _ W.drew
 have HD:=yA HS.out.drew;go_wp2_with fail
 clear g0 g1 g2 g3 g4 g5 g6 g7 g8 r0 r1 r2 r3 r4 r5;refine (r9 W.drew c v (HIN.out.below HD.out.below)).mono ?_;rintro e w2 ⟨rfl,hb2⟩;have HR:=yA (HD.out.next hb2);clear hb2;by_cases h0:aO c v.x=0
 case neg=>
  have HF:=yA (vp (ts:=ts) h0);have hne:(aO c v.x != 0)=true:=by simp [h0]
  clear h0;go_wp2_with fail
  go_ret
  exact .same HO.out HF.out HR.out.below
 have H0:=yA h0;rw [h0];clear h0;have HREC:=yA (fH HCF.out H0.out);have HTK:=yA (km HREC.out);have hwn:v.wn≤64:=by rw [←HIN.out.wl];exact HTK.out.2.2.1
 obtain ⟨g0,g1,g2,g3,g4,g5,g6,g7,g8⟩:=cells9 HR.out.g;have HO2:=yA (HO.out.below HR.out.below);obtain ⟨r0,r1,r2,r3,r4,r5⟩:=e7 HO2.out.box;rw [HSV.out] at r5
 have HT:=yA (show 0≤lastT ts∧lastT ts≤1099511627776 from by
  unfold lastT;cases hl:ts.getLast? with
  | none=>exact ⟨by decide,by decide⟩
  | some u=>
    have h1:=km (HTS.out u (List.mem_of_getLast? hl));exact ⟨show 0≤u.x.tick from by have:=h1.1;omega,h1.2.1⟩)
 have ht1:=HTK.out.1;have ht2:=HTK.out.2.1;rcases tn with _ | m
 case' zero=>
  have HLT:=yA (show lastT ts=0 from by rw [zC HO2.out.len];rfl);by_cases hq:v.x.tick=c.w
  case neg=>
   have HF:=yA (rG H0.out (show v.x.tick - lastT ts≠c.w from by rw [HLT.out];omega));have b1:(v.x.tick != c.w)=true:=by simp [hq]
   clear hq;go_upto_region 7 with fail
   have wt:IntKind.i64.wrap v.x.tick=v.x.tick:=by rw [IntKind.wrap_i64];omega
   go_quiet (fail)
   go_wp2_with fail
   go_ret
   exact .same HO.out HF.out (HR.out.drewN _).below
  have HQ:=yA (show v.x.tick - lastT ts=c.w from by rw [HLT.out];omega);have b1:(v.x.tick != c.w)=false:=by simp [hq]
  clear hq;go_upto_region 7 with fail
  have wt:IntKind.i64.wrap v.x.tick=v.x.tick:=by rw [IntKind.wrap_i64];omega
  go_quiet (fail)
  go_wp2_with fail
  have HX0:=yA (HR.out.drewN nq);clear g0 g1 g2 g3 g4 g5 g6 g7 g8 r0 r1 r2 r3 r4 r5 b1 wt HR HO2 HLT;generalize w2.drewN nq=w3 at *
 case' succ=>
  obtain ⟨u,hu⟩:∃ u,ts[m]?=some u:=⟨ts[m]'(by rw [HO2.out.len];omega),yC _⟩;have HLT:=yA (vt HO2.out.len hu);have HT2:=yA (show 0≤u.x.tick∧u.x.tick≤1099511627776 from by rw [←HLT.out];exact HT.out);have hrt:=(HO2.out.at' HSV.out).rd;obtain ⟨b,o,rfl,_⟩:=hrt.place (by rw [cellsOf_length _ 9 RV.cells_length,HO2.out.len];omega);have hc0:w2.cell? ⟨b,o+m*9,none⟩=some (.int .i64 u.x.tick):=bf RV.cells_length hrt hu 0 _ rfl;clear hu hrt;generalize u.x.tick=T at *;have hT1:=HT2.out.1;have hT2:=HT2.out.2;have wm:IntKind.i64.wrap (m:Int)=(m:Int):=by rw [IntKind.wrap_i64];omega
  have wm0:(0:Int)≤(m:Int):=by omega
  have wm1:(m:Int)<(m:Int)+1:=by omega
  have wm2:(0:Int)<(m:Int)+1:=by omega
  go_upto_region 6 with fail
  go_quiet (fail)
  rename Nat=>nr
  go_upto_region 7 with fail
  have wt:IntKind.i64.wrap (v.x.tick - T)=v.x.tick - T:=by rw [IntKind.wrap_i64];omega
  by_cases hq:v.x.tick - T=c.w
  case neg=>
   have HF:=yA (rG H0.out (show v.x.tick - lastT ts≠c.w from by rw [HLT.out];exact hq));have b1:(v.x.tick - T != c.w)=true:=by simp [hq]
   clear hq;go_quiet (fail)
   go_wp2_with fail
   go_ret
   exact .same HO.out HF.out ((HR.out.drewN _).drewN _).below
  have HQ:=yA (show v.x.tick - lastT ts=c.w from by rw [HLT.out];exact hq);have b1:(v.x.tick - T != c.w)=false:=by simp [hq]
  clear hq;go_quiet (fail)
  go_wp2_with fail
  have HX0:=yA ((HR.out.drewN nr).drewN nq);clear g0 g1 g2 g3 g4 g5 g6 g7 g8 r0 r1 r2 r3 r4 r5 b1 wt HR HO2 HLT hc0 wm wm0 wm1 wm2 hT1 hT2 HT2;generalize (w2.drewN nr).drewN nq=w3 at *
 all_goals
  go_loopw [7] (fun i wr=>Hid (∃ j:Nat,i = .int .i64 j∧j≤v.wn∧(∀ q:Nat,q<j→ga ts v.x q=true)∧gA w v H wr)) (fun i _=>v.wn - (intOf i).toNat)
  case atStart=>exact yA ⟨0,rfl,yQ _,fun q h=>absurd h (zz q),HX0.out⟩
  case round=>
   clear HX0;obtain ⟨j,rfl,hj,hall,hrl⟩:=hrel.out;clear hrel;have HALL:=yA hall;have HX:=yA hrl;clear hall hrl;have HRJ:=yA (HO.out.below HX.out.below);obtain ⟨g0,g1,g2,g3,g4,g5,g6,g7,g8⟩:=cells9 HX.out.g;by_cases hlt:j<v.wn
   · obtain ⟨y,hy⟩:∃ y,v.x.ws[j]?=some y:=⟨v.x.ws[j]'(by rw [HIN.out.wl];exact hlt),yC _⟩
     have hrd:=(HIN.out.below HX.out.below).wr;obtain ⟨b2,o2,hbo,_⟩:=hrd.place (by rw [cellsOf_length _ 18 ad.cells_length,HIN.out.wl];omega);rw [hbo] at hrd;have k1:=yR g1;rw [hbo] at g1
     have HCR:=yA (fun (w':World) (hw':∃ p:Regrown,w'=grow (redrawn wr p.d) p.os) (i:Nat) (q:Value) (hq:y.cells[i]?=some q)=>show w'.cell? ⟨b2,o2+j*18+i,none⟩=some q from by
      obtain ⟨p,rfl⟩:=hw';exact yR (bf ad.cells_length hrd hy i q hq) _ _)
     have HY:=yA hy;clear hy hrd;obtain ⟨YV,hYV⟩:∃ YV,y.cells.toArray=YV:=⟨_,rfl⟩;have HYV:=yA hYV;clear hYV;have k0:=yR g0;have k2:=yR g2;have k3:=yR g3;have k4:=yR g4;have k5:=yR g5;have k6:=yR g6;have k7:=yR g7;have k8:=yR g8;have hcs:v.wo=some ⟨b2,o2,none⟩:=hbo;clear hbo;have cQ:∀ dd os,Calls Tryz.prog 64 #[.pointer (some ⟨R,0,none⟩),.agg #[.int .i64 v.x.tick,.slice v.wo v.wn v.wc,.slice v.ko v.kn v.kc,.int .i64 v.x.rows,.int .i64 v.x.cols,.slice v.eo v.en v.ec,.slice v.po v.pn v.pc,.slice v.yo v.yn v.yc,.slice v.zo v.zn v.zc],.agg YV] (grow (redrawn wr dd) os) fun e w''=>e = .returned (.bool (dH ts v.x y))∧∃ p:Regrown,w''=grow (redrawn wr p.d) p.os:=fun dd os=>Calls.regrown_of (tX _ c ts R _ _ tc v y YV HYV.out ((HRJ.out.below (below_regrown wr dd os)).at' HSV.out) (by omega))
     simp only [hcs] at cQ;rw [hcs] at k1;clear hcs;go_wp2_with fail
     refine wp_region_quiet_below (by kernel_rfl) (by kernel_rfl) ?_
     iterate 6 (go_big_quiet_step (fail))
     go_big_quiet_want
     with_reducible refine jp (o:=⟨some 60,_,_,_,_,_⟩) 79 (.tmp 59) ?_ b2 (o2+j*18) ?_ y.cells YV HYV.out _ HCR.out Tryz.underlying79 ?_ ?_ ?_
     · rfl
     · rfl
     · rfl
     · exact aK
     go_big_quiet_on
     simp only [Act.put,yM,yX,yZ];go_big_quiet_step (exact cQ _ _)
     iterate 1 (go_big_quiet_step (fail))
     refine wpQuiet_nil ?_;rintro _ ⟨⟨dq,osq⟩,rfl⟩;have HX2:=yA (HX.out.next (below_regrown wr dq osq));clear k0 k1 k2 k3 k4 k5 k6 k7 k8 cQ g0 g1 g2 g3 g4 g5 g6 g7 g8 HCR;generalize grow (redrawn wr dq) osq=WX at *;cases hag:dH ts v.x y with
     | true=>
       have HF:=yA (vq H0.out HQ.out (bE (by rw [HIN.out.wl];exact hlt) (by rw [jH HY.out,hag];rfl)));clear hag;go_wp2_with fail
       go_ret
       exact .same HO.out HF.out HX2.out.below
     | false=>
       have HN:=yA (fun (q:Nat) (hq:q<j+1)=>show ga ts v.x q=true from by
        rcases yW.1 hq with h | h
        · exact HALL.out q h
        · rw [h,jH HY.out,hag];rfl)
       clear hag;go_wp2_with fail
       go_roundw
       case rel=>exact yA ⟨j+1,by go_num,by omega,HN.out,HX2.out⟩
       case measure=>simp [intOf];omega
   · obtain rfl:v.wn=j:=by omega
     have HF:=yA (vr H0.out HQ.out (aU (fun q hq=>HALL.out q (by rw [HIN.out.wl] at hq;exact hq))));clear HALL;go_wp2_with fail
     obtain ⟨i5,hi,hz0,hz1,hz2⟩:=kU;obtain ⟨r0,r1,r2,r3,r4,r5⟩:=e7 HRJ.out.box;have HSK:=yA (fun (w':World) (k:Keep (fun k=>sv.ownBlock=some k) wr w')=>show w'.cell? ⟨R,5,none⟩=some sv∧w'.heap[H]?=some (.cells #[.int .i64 v.x.tick,.slice v.wo v.wn v.wc,.slice v.ko v.kn v.kc,.int .i64 v.x.rows,.int .i64 v.x.cols,.slice v.eo v.en v.ec,.slice v.po v.pn v.pc,.slice v.yo v.yn v.yc,.slice v.zo v.zn v.zc] 34 (0,0)) from ⟨k.cell r5 (fun e=>(HRJ.out.oN R e).2 rfl),k.old HX.out.g (fun e=>absurd (HO.out.own.lt H e) (by rw [HH.out];exact Nat.lt_irrefl _))⟩);clear g0 g1 g2 g3 g4 g5 g6 g7 g8 r0 r1 r2 r3 r4 r5;refine bd 6 2 (fun w'=>w'.cell? ⟨R,5,none⟩=some sv∧w'.heap[H]?=some (.cells #[.int .i64 v.x.tick,.slice v.wo v.wn v.wc,.slice v.ko v.kn v.kc,.int .i64 v.x.rows,.int .i64 v.x.cols,.slice v.eo v.en v.ec,.slice v.po v.pn v.pc,.slice v.yo v.yn v.yc,.slice v.zo v.zn v.zc] 34 (0,0))) (by kernel_rfl) (by kernel_rfl) (fun _ _ _ _ _ h=>h) (HSK.out _ (Keep.drew _ _)) ?_;simp only [List.take_succ_cons,List.take_zero,List.drop_succ_cons,List.drop_zero]
     iterate 6 (
      refine bg (v:=?_) (Or.inl ⟨by rfl,?_⟩) ?_
      rotate_left
      · intro w' hSw
        have hSx:=hSw.1;obtain ⟨s0,s1,s2,s3,s4,s5,s6,s7,s8⟩:=cells9 hSw.2;clear hSw;try dsimp only at hSx
        go_simp
        try with_reducible rfl
      try simp only [Act.put,yM,yX,yZ])
     refine bs ?_;simp only [cF];refine aC rfl (fun K hK=>?_);go_simp
     refine hK _ _ ⟨HSK.out _ (Keep.of_below (((yH wr.heap.size wr).alloc (yB _) _).drew) (yB _) _),?_⟩;clear hK K;refine aC rfl (fun K hK=>?_);refine aM rfl (.tmp 67) (.tmp 69) 43 43 rfl 34 i5 ki 9 168 Tryz.underlying43 hi hz0 hz1 hz2 rfl sv _ (cellsOf RV.cells ts) (by simp [Act.eval]) (HRJ.out.own.keep (Keep.of_below (((yH wr.heap.size wr).alloc (yB _) _).drew) (yB _) (fun _=>False)) (fun _ _=>id)) (.slice (some ⟨wr.heap.size,0,none⟩) 1 1) 1 v.cells (by simp [Act.eval]) (Src.litDrew Tryz.underlying43 9 _ rfl (RV.cells_one v) _ _ (by first | rfl | simp [RV.cells])) (by unfold maxLen;omega) (by omega) ?_;intro ao2 q2 w5 ho2 hk2 hb2;have HKW:=yA (show Keep (fun k=>sv.ownBlock=some k) wr w5 from (Keep.of_below (((yH wr.heap.size wr).alloc (yB _) (.cells #[.int .i64 v.x.tick,.slice v.wo v.wn v.wc,.slice v.ko v.kn v.kc,.int .i64 v.x.rows,.int .i64 v.x.cols,.slice v.eo v.en v.ec,.slice v.po v.pn v.pc,.slice v.yo v.yn v.yc,.slice v.zo v.zn v.zc] 34)).drew) (yB _) (fun _=>False)).trans hk2 (fun _ _ h=>h.elim) (fun _ _ h=>h));refine hK _ _ ⟨HSK.out _ HKW.out,?_⟩;clear hK K;have hwz:=HX.out.below.size;have HEND:=yA (HO.out.saw HIN.out HLOW.out HNN.out ((Keep.of_below HX.out.below (yB _) (fun _=>False)).trans HKW.out (fun _ _ h=>h.elim) (fun _ _ h=>h)) ho2 (hb2.imp id (fun ⟨g,h1,h2⟩=>⟨g,h1,yV hwz (yV (by simp) h2)⟩)));have HNB:=yA (hb2.imp id (fun ⟨g,h1,h2⟩=>⟨g,h1,yV hwz (yV (by simp) h2)⟩):(_∨∃ g,_=some g∧w.heap.size≤g));have hbox:=HKW.out.old HRJ.out.box (fun e=>(HRJ.out.oN R e).2 rfl);clear ho2 hk2 hb2;obtain ⟨z0,z1,z2,z3,z4,z5⟩:=e7 hbox;have zf:=fun j=>zm w5 R j _ _ hbox
     clear hbox;go_wp2_with fail
     go_ret
     exact ⟨by rw [HF.out];rfl,_,_,by rw [HF.out];exact HEND.out.1,HEND.out.2,HNB.out⟩
end Go.Proofs.YtcaicgipibcicaaGreat
