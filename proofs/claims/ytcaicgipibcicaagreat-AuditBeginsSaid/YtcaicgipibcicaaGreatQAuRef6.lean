/- The reference's auditor: who stood, who is left; lists of records. -/
import Derived.Test.YtcaicgipibcicaaGreatQAuSee
import Derived.Test.YtcaicgipibcicaaGreatQRAudit
import Derived.Test.YtcaicgipibcicaaGreatQHeldTail
import Derived.Test.YtcaicgipibcicaaGreatQSumA
import Derived.Test.YtcaicgipibcicaaGreatQRdM
import Derived.RangeFuncNested
import Derived.RangeFuncBound
import Derived.RangeFuncCalls
import Derived.RangeFuncLeaves
import Derived.Shelf.Abstract
import Derived.Shelf.RegionOpen
import Derived.OwnWalkIn
import Derived.TacticsInMore
import Derived.LoopNIn
import Derived.LoopIn
set_option maxRecDepth 100000
set_option maxHeartbeats 8000000
set_option linter.unusedSimpArgs false
set_option linter.unusedVariables false
open Go renaming cell_of_row→wG,frozen_of_row→wZ,heap_alloc_new→wF
open Go.Lib renaming hid→wB
open Go.RowKit.Below renaming refl→wI
open List renaming setIfInBounds_toArray→wU
open Nat renaming le_refl→wC
namespace Go.Proofs.YtcaicgipibcicaaGreat
open Go.RowKit Go.Sort
def RV.cells (v:RV):List Value:=[.int .i64 v.x.tick,.slice v.wo v.wn v.wc,.slice v.ko v.kn v.kc,.int .i64 v.x.rows,.int .i64 v.x.cols,.slice v.eo v.en v.ec,.slice v.po v.pn v.pc,.slice v.yo v.yn v.yc,.slice v.zo v.zn v.zc]
theorem RV.cells_length (v:RV):v.cells.length=9:=rfl
theorem da:(Tryz.prog.info? 34).map (·.size)=some 9:=by kernel_rfl
def cM (x:aw) (id:List Int):Bool:=x.ws.any (fun y=>decide (idR y.r=id))
theorem pX {x:aw} {id:List Int} {j:Nat} {y:aa} (hy:x.ws[j]?=some y) (h:idR y.r=id):cM x id=true:=by
 unfold cM;rw [List.any_eq_true];exact ⟨y,List.mem_of_getElem? hy,by simpa using h⟩
def iS (ps:List ai) (i:Nat):Bool:=ps.all (fun p=>p.r != (i:Int))
def kX (x:aw) (w:aa) (i:Nat):Bool:=match x.ws[i]? with | none=>false | some y=>iS x.ps i && bqW y w
def jU (x:aw) (w:aa):Bool:=(List.range x.ws.length).any (kX x w)
theorem js {x:aw} {w:aa} {i:Nat} {y:aa} (h:x.ws[i]?=some y):kX x w i=(iS x.ps i && bqW y w):=by simp [kX,h]
theorem rQ {x:aw} {w:aa} {i:Nat} (hi:i<x.ws.length) (h:kX x w i=true):jU x w=true:=by
 unfold jU;rw [List.any_eq_true];exact ⟨i,List.mem_range.2 hi,h⟩
theorem nW {x:aw} {w:aa} (h:∀ i:Nat,i<x.ws.length→kX x w i=false):jU x w=false:=by
 unfold jU;rw [List.any_eq_false];intro i hi;rw [h i (List.mem_range.1 hi)]
 decide
section
variable {P:Program}
theorem vr {C:World→Prop} {o:Oper} {a:Act} {K:Act→Prop} (ty:TypeId) (x:Operand) (ho:o.op = .load ty x)
 (b off:Nat) (hx:a.eval x = .pointer (some ⟨b,off,none⟩)) (cs:List Value) (V:Array Value) (hvs:cs.toArray=V) (d:TypeDesc) (hc:∀ w',C w'→∀ j u,cs[j]?=some u→w'.cell? ⟨b,off+j,none⟩=some u)
 (hu:P.underlying ty=some d) (hd:(match d with | .struct _ | .array _ _=>true | _=>false)=true) (hi:(P.info? ty).map (·.size)=some cs.length)
 (hk:K (a.put o.dst (.agg V))):o.quiet P a C K:=by
 refine ⟨.agg V,?_,hk⟩;intro w hw;have h:=aZ (P:=P) w b off ty cs d (hc w hw) hu hd hi;rw [hvs] at h;unfold Oper.quietAt execOp;simp only [ho,hx,Instr.loadAt,Instr.sureAddr,Sem.run_bind,Sem.run_pure,Result.andThen_ok,h];exact ⟨rfl,rfl⟩
theorem fN {S:World→Prop} {ops:Array Oper} {rest:List Oper} {o:Oper} {a:Act} {K:Act→Prop} (hg:o.guard=none) (ty:TypeId) (x:Operand) (ho:o.op = .load ty x)
 (b off:Nat) (hx:a.eval x = .pointer (some ⟨b,off,none⟩)) (cs:List Value) (V:Array Value) (hvs:cs.toArray=V) (d:TypeDesc) (hc:∀ w',S w'→∀ j u,cs[j]?=some u→w'.cell? ⟨b,off+j,none⟩=some u)
 (hu:P.underlying ty=some d) (hd:(match d with | .struct _ | .array _ _=>true | _=>false)=true) (hi:(P.info? ty).map (·.size)=some cs.length)
 (hk:dW P ops S K rest (a.put o.dst (.agg V))):dW P ops S K (o::rest) a:=by
 refine ⟨.agg V,.inl ⟨by simp [Region.wanted,hg],fun w hw=>?_⟩,hk⟩;have h:=aZ (P:=P) w b off ty cs d (hc w hw) hu hd hi;rw [hvs] at h;unfold execOp;simp only [ho,hx,Instr.loadAt,Instr.sureAddr,Sem.run_bind,Sem.run_pure,Result.andThen_ok,h]
end
def eG (ts:List RV) (x:aw) (y:aa):Bool:=
 if x.tick≤y.since then true else
 match ts.getLast? with
 | none=>false
 | some v=>if ts.any (fun u=>cM u.x (idR y.r)) then !jU v.x y else decide (y.since<v.x.tick)
theorem pY {ts:List RV} {x:aw} {y:aa} (h:x.tick≤y.since):eG ts x y=true:=by simp [eG,h]
theorem nX {x:aw} {y:aa} (h:¬ x.tick≤y.since):eG [] x y=false:=by simp [eG,h]
theorem rR {ts:List RV} {x:aw} {y:aa} {v:RV} (h:¬ x.tick≤y.since) (hv:ts.getLast?=some v) (hb:ts.any (fun u=>cM u.x (idR y.r))=true):eG ts x y=!jU v.x y:=by simp [eG,h,hv,hb]
theorem rS {ts:List RV} {x:aw} {y:aa} {v:RV} (h:¬ x.tick≤y.since) (hv:ts.getLast?=some v) (hb:ts.any (fun u=>cM u.x (idR y.r))=false):eG ts x y=decide (y.since<v.x.tick):=by simp [eG,h,hv,hb]
theorem RV.In.below {w w':World} {v:RV} (h:v.In w) (hb:Below w.heap.size w w'):v.In w':=h.keepX (Keep.of_below hb (wC _) (fun _=>False)) (fun _ _ _ _ _=>id)
theorem Own.rdc {w:World} {size n c:Nat} {lo:Option Addr} {xs:List Value} (h:Own w size (.slice lo n c) n xs):RdC w lo xs:=by
 obtain ⟨hl,h⟩:=h;rcases h with ⟨_,h0⟩ | ⟨g,cap,hv,_,_,hr⟩
 · subst h0
   exact .inl (List.eq_nil_of_length_eq_zero (by simpa using hl))
 · cases hv
   exact .inr ⟨g,0,rfl,fun j u hu=>by rw [Nat.zero_add];exact hr.cell j u hu⟩
def lastT (ts:List RV):Int:=match ts.getLast? with | none=>0 | some u=>u.x.tick
def gP (ts:List RV) (x:aw) (k:Nat):Bool:=match x.ws[k]? with | none=>true | some y=>!eG ts x y
theorem pZ {ts:List RV} {x:aw} {k:Nat} {y:aa} (h:x.ws[k]?=some y):gP ts x k=!eG ts x y:=by simp [gP,h]
def gp (c:ag) (ts:List RV) (v:RV):Int × List RV:=
 if aL c v.x≠0 then (aL c v.x,ts) else if v.x.tick - lastT ts≠c.w then (262,ts) else if !cV v.x.ws.length (gP ts v.x) then (261,ts) else (0,ts++[v])
theorem rsee_1 {c:ag} {ts:List RV} {v:RV} (h:aL c v.x≠0):gp c ts v=(aL c v.x,ts):=by simp [gp,h]
theorem rsee_2 {c:ag} {ts:List RV} {v:RV} (h1:aL c v.x=0) (h:v.x.tick - lastT ts≠c.w):gp c ts v=(262,ts):=by simp [gp,h1,h]
theorem rsee_3 {c:ag} {ts:List RV} {v:RV} (h1:aL c v.x=0) (h2:v.x.tick - lastT ts=c.w) (h:cV v.x.ws.length (gP ts v.x)=false):gp c ts v=(261,ts):=by simp [gp,h1,h2,h]
theorem rsee_4 {c:ag} {ts:List RV} {v:RV} (h1:aL c v.x=0) (h2:v.x.tick - lastT ts=c.w) (h:cV v.x.ws.length (gP ts v.x)=true):gp c ts v=(0,ts++[v]):=by simp [gp,h1,h2,h]
theorem rT:lastT []=0:=rfl
def nd:Value:=.agg #[.int .i64 0,.slice none 0 0,.slice none 0 0,.int .i64 0,.int .i64 0,.slice none 0 0,.slice none 0 0,.slice none 0 0,.slice none 0 0]
theorem nY:(Tryz.prog.info? 34).map (fun i=>(i.zero,i.size))=some (some nd,9):=by kernel_rfl
theorem rU:∃ i,Tryz.prog.info? 34=some i∧i.zero=some nd∧i.size=9∧i.bytes=168:=by
 cases hq:Tryz.prog.info? 34 with
 | none=>have h:=nY;simp [hq] at h
 | some i=>
   have h:=nY;simp [hq] at h
   exact ⟨i,rfl,h.1,h.2,by
    have h2:(Tryz.prog.info? 34).map (fun i=>i.bytes)=some 168:=by kernel_rfl
    simpa [hq] using h2⟩
end Go.Proofs.YtcaicgipibcicaaGreat
namespace Go.Proofs.YtcaicgipibcicaaGreat
open Go.RowKit Go.Sort Go.Shelf
theorem mi (w:World):Calls Tryz.prog 119 #[.slice none 0 0] w fun e w'=>∃ R,e = .returned (.pointer (some ⟨R,0,none⟩))∧w.heap.size≤R∧Below w.heap.size w w'∧∃ ao,fq w' R ao 0 0 0:=by
 obtain ⟨i5,hi,hz0,hz1,hz2⟩:=info_parts kM
 have hmk:(Instr.makeSlice 59 (.int .i64 0) (.int .i64 0)).run Tryz.prog w = .ok (.slice (some ⟨w.heap.size,0,none⟩) 0 0) (w.alloc (.cells #[] 5)):=by
  have h:=run_make (P:=Tryz.prog) w 59 5 i5 (.int .u8 0) Tryz.underlying59 hi hz0 .i64 .i64 0 0 (by omega) (by omega) (by omega) (by omega);rw [h]
  have hc:madeCells (Value.int .u8 0).cells (((0:Int)).toNat*i5.size)=#[]:=by
   apply Array.ext
   · rw [size_madeCells];simp
   · intro j h1 h2;simp at h2
  rw [hc];rfl
 have hcp:=fun w:World=>run_copy_none (P:=Tryz.prog) w 59 59 3 5 (some ⟨w.heap.size,0,none⟩) none 0 0 0 0 Tryz.underlying59 (by kernel_rfl) rfl
 have hcp2:(Builtin.copy_ #[59,59] 3 #[.slice (some ⟨w.heap.size,0,none⟩) 0 0,.slice none 0 0]).run Tryz.prog (w.alloc (.cells #[] 5)) = .ok (goInt 0) (w.alloc (.cells #[] 5)):=run_copy_none _ _ _ _ 5 _ _ 0 0 0 0 Tryz.underlying59 (by kernel_rfl) rfl;clear hcp;have HB:=wB (((wI w.heap.size w).alloc (wC _) (.cells #[] 5)).alloc (by simp) (.cells #[.slice (some ⟨w.heap.size,0,none⟩) 0 0,.int .i64 0,.bool true] 226))
 have HR:=wB (show fq ((w.alloc (.cells #[] 5)).alloc (.cells #[.slice (some ⟨w.heap.size,0,none⟩) 0 0,.int .i64 0,.bool true] 226)) (w.heap.size+1) (some ⟨w.heap.size,0,none⟩) 0 0 0 from by
  have:=wF (w.alloc (.cells #[] 5)) (.cells #[.slice (some ⟨w.heap.size,0,none⟩) 0 0,.int .i64 0,.bool true] 226);rw [show (w.alloc (.cells #[] 5)).heap.size=w.heap.size+1 by simp] at this;exact this)
 clear hi hz0 hz1 hz2;go_enter Tryz.func119,Tryz.ntmps119
 go_wp2_with fail
 go_ret
 exact ⟨w.heap.size+1,rfl,by omega,HB.out,_,HR.out⟩
theorem p8 (W:World) (l B:Nat) (hB:W.heap[B]?=some (.cells #[.slice none 0 0] 59 (0,0))) :
 Calls Tryz.prog 154 #[.func (.yield l) #[] #[],.pointer (some ⟨B,0,none⟩)] W fun e W'=>e = .returned (.tuple #[])∧Below W.heap.size W W':=by
 have HB:=wB hB;have HBL:=wB (lt_of_block hB);have HA:=wB ((wI W.heap.size W).alloc (wC _) (.cells #[.int .u8 0,.int .u8 0,.int .u8 0,.int .u8 0] 139))
 have c0:(W.alloc (.cells #[.int .u8 0,.int .u8 0,.int .u8 0,.int .u8 0] 139)).cell? ⟨B,0,none⟩=some (.slice none 0 0):=by
  rw [wG _ _ _ _ _ (0,0) ((Keep.of_below HA.out (wC _) (fun _=>False)).old hB id)];rfl
 clear hB;go_enter Tryz.func154,Tryz.ntmps154
 go_wp2_with fail
 generalize W.alloc (.cells #[.int .u8 0,.int .u8 0,.int .u8 0,.int .u8 0] 139)=W1 at *;go_loopw [4] (fun i wr=>Hid (wr=W1)) (fun i _=>0)
 case atStart=>exact wB rfl
 case round=>
  obtain rfl:=hrel.out;clear hrel;go_wp2_with fail
  refine (mi wr).mono ?_;rintro e w2 ⟨R,rfl,hR,hb2,ao,h2⟩;have HB2:=wB (Below.next HA.out hb2);have HR:=wB hR;have H2:=wB h2;clear hb2 hR h2 c0;go_wp2_with fail
  refine (mT w2 R ao 0 0 H2.out).mono ?_;rintro e w3 ⟨rfl,f3,ao3,c3,hf3,h3,k3⟩;have HB3:=wB (HB2.out.trans (k3.below HB2.out.size (fun i hi he=>by have:=HR.out;have:=HA.out.size;omega)));have H3:=wB h3;clear h3 k3;go_wp2_with fail
  refine (mT w3 R ao3 c3 f3 H3.out).mono ?_;rintro e w4 ⟨rfl,f4,ao4,c4,hf4,h4,k4⟩;have HB4:=wB (HB3.out.trans (k4.below HB3.out.size (fun i hi he=>by have:=HR.out;have:=HA.out.size;omega)));have H4:=wB h4;clear h4 k4;go_wp2_with fail
  refine (rC w4 R ao4 0 c4 f4 H4.out hf4).mono ?_;rintro e w5 ⟨rfl,rfl⟩;have b1:(f4 != 0)=true:=by simp [hf4]
  go_wp2_with fail
  exact bodyPost_ret (v:=.tuple #[]) (by simp [results,Tryz.results154,go_sem]) rfl ⟨rfl,HB4.out⟩
theorem kY (w:World) (ao:Option Addr) (n c:Nat):Calls Tryz.prog 118 #[.slice ao n c] w fun e w'=>e = .returned (.func (.func 154) #[] #[.pointer (some ⟨w.heap.size,0,none⟩)])∧w'=w.alloc (.cells #[.slice ao n c] 59):=by
 go_enter Tryz.func118,Tryz.ntmps118
 go_wp2_with fail
 go_ret
 exact ⟨rfl,rfl⟩
theorem kZ {w w':World} (h:Below w.heap.size w w'):w.grownBy w' none:=⟨h.os,h.tape,h.output,h.size,fun k hk _=>h.block k hk⟩
theorem rV (n B:Nat) (w:World) (hB:w.heap[B]?=some (.cells #[.slice none 0 0] 59 (0,0))) :
 SeqStopsK Fence.wide n Tryz.prog 154 #[.pointer (some ⟨B,0,none⟩)] (fun x:Empty=>nomatch x) (fun _ _=>True) (fun xs=>xs=[]) (fun _=>False) 0 w:=fun l J Jx W hW hJ hJx hY h0=>
 callsIn_wide.2 ((p8 W l B ((Keep.of_below hW (wC _) (fun _=>False)).old hB id)).mono fun e W' ⟨he,hb⟩=>⟨⟨_,he⟩,.inl ⟨[],rfl,hJ [] W W' none h0 (kZ hb) (fun r e=>by cases e)⟩⟩)
theorem p9 (w:World):∃ W,((((((w.alloc (.cells #[.int .i64 0,.int .i64 0,.int .i64 0,.int .i64 0,.int .i64 0] 23)).alloc (.cells #[.slice none 0 0] 43)).alloc (.cells #[.int .i64 0] 3)).alloc (.cells #[.int .u8 0,.int .u8 0,.int .u8 0,.int .u8 0] 139)).alloc (.cells #[.int .i64 0] 3)).alloc (.cells #[.slice none 0 0] 59))=W∧W.heap[w.heap.size]?=some (.cells #[.int .i64 0,.int .i64 0,.int .i64 0,.int .i64 0,.int .i64 0] 23 (0,0))∧W.heap[w.heap.size+1]?=some (.cells #[.slice none 0 0] 43 (0,0))∧W.heap[w.heap.size+2]?=some (.cells #[.int .i64 0] 3 (0,0))∧
 W.heap[w.heap.size+3]?=some (.cells #[.int .u8 0,.int .u8 0,.int .u8 0,.int .u8 0] 139 (0,0))∧W.heap[w.heap.size+5]?=some (.cells #[.slice none 0 0] 59 (0,0))∧Below w.heap.size w W∧W.heap.size=w.heap.size+6:=by
 have step:∀ (V:World) (o:Obj) (k:Nat),V.heap.size=k→(V.alloc o).heap[k]?=some o∧(V.alloc o).heap.size=k+1∧∀ (j:Nat) (p:Obj),V.heap[j]?=some p→(V.alloc o).heap[j]?=some p:=by
  intro V o k hk;refine ⟨by rw [←hk];exact wF V o,by rw [←hk];simp,fun j p hp=>(Keep.alloc (fun _=>False) V o).old hp id⟩
 obtain ⟨a1,s1,k1⟩:=step w (.cells #[.int .i64 0,.int .i64 0,.int .i64 0,.int .i64 0,.int .i64 0] 23) _ rfl;obtain ⟨a2,s2,k2⟩:=step (w.alloc (.cells #[.int .i64 0,.int .i64 0,.int .i64 0,.int .i64 0,.int .i64 0] 23)) (.cells #[.slice none 0 0] 43) _ s1;obtain ⟨a3,s3,k3⟩:=step ((w.alloc (.cells #[.int .i64 0,.int .i64 0,.int .i64 0,.int .i64 0,.int .i64 0] 23)).alloc (.cells #[.slice none 0 0] 43)) (.cells #[.int .i64 0] 3) _ s2;obtain ⟨a4,s4,k4⟩:=step (((w.alloc (.cells #[.int .i64 0,.int .i64 0,.int .i64 0,.int .i64 0,.int .i64 0] 23)).alloc (.cells #[.slice none 0 0] 43)).alloc (.cells #[.int .i64 0] 3)) (.cells #[.int .u8 0,.int .u8 0,.int .u8 0,.int .u8 0] 139) _ s3;obtain ⟨a5,s5,k5⟩:=step ((((w.alloc (.cells #[.int .i64 0,.int .i64 0,.int .i64 0,.int .i64 0,.int .i64 0] 23)).alloc (.cells #[.slice none 0 0] 43)).alloc (.cells #[.int .i64 0] 3)).alloc (.cells #[.int .u8 0,.int .u8 0,.int .u8 0,.int .u8 0] 139)) (.cells #[.int .i64 0] 3) _ s4;obtain ⟨a6,s6,k6⟩:=step (((((w.alloc (.cells #[.int .i64 0,.int .i64 0,.int .i64 0,.int .i64 0,.int .i64 0] 23)).alloc (.cells #[.slice none 0 0] 43)).alloc (.cells #[.int .i64 0] 3)).alloc (.cells #[.int .u8 0,.int .u8 0,.int .u8 0,.int .u8 0] 139)).alloc (.cells #[.int .i64 0] 3)) (.cells #[.slice none 0 0] 59) _ s5;refine ⟨_,rfl,k6 _ _ (k5 _ _ (k4 _ _ (k3 _ _ (k2 _ _ a1)))),k6 _ _ (k5 _ _ (k4 _ _ (k3 _ _ a2))),k6 _ _ (k5 _ _ (k4 _ _ a3)),k6 _ _ (k5 _ _ a4),a6,?_,s6⟩;exact ((((((wI w.heap.size w).alloc (wC _) _).alloc (by rw [s1];omega) _).alloc (by rw [s2];omega) _).alloc (by rw [s3];omega) _).alloc (by rw [s4];omega) _).alloc (by rw [s5];omega) _
theorem nZ {W:World} {B:Nat} (h:W.heap[B]?=some (.cells #[.int .i64 0,.int .i64 0,.int .i64 0,.int .i64 0,.int .i64 0] 23 (0,0))):(((((W.setCell ⟨B,0,none⟩ (.int .i64 0)).setCell ⟨B,1,none⟩ (.int .i64 0)).setCell ⟨B,2,none⟩ (.int .i64 0)).setCell ⟨B,3,none⟩ (.int .i64 0)).setCell ⟨B,4,none⟩ (.int .i64 0)).heap[B]?=some (.cells #[.int .i64 0,.int .i64 0,.int .i64 0,.int .i64 0,.int .i64 0] 23 (0,0))∧Keep (fun k=>k=B) W (((((W.setCell ⟨B,0,none⟩ (.int .i64 0)).setCell ⟨B,1,none⟩ (.int .i64 0)).setCell ⟨B,2,none⟩ (.int .i64 0)).setCell ⟨B,3,none⟩ (.int .i64 0)).setCell ⟨B,4,none⟩ (.int .i64 0)):=by
 have q:=(ae (ae (ae (ae (ae h 0 (.int .i64 0)) 1 (.int .i64 0)) 2 (.int .i64 0)) 3 (.int .i64 0)) 4 (.int .i64 0));exact ⟨by simpa only [wU,List.set_cons_zero,List.set_cons_succ] using q,Keep.setCells W B 0 [.int .i64 0,.int .i64 0,.int .i64 0,.int .i64 0,.int .i64 0]⟩
theorem zero4 {W:World} {B:Nat} (h:W.heap[B]?=some (.cells #[.int .u8 0,.int .u8 0,.int .u8 0,.int .u8 0] 139 (0,0))):((((W.setCell ⟨B,0,none⟩ (.int .u8 0)).setCell ⟨B,1,none⟩ (.int .u8 0)).setCell ⟨B,2,none⟩ (.int .u8 0)).setCell ⟨B,3,none⟩ (.int .u8 0)).heap[B]?=some (.cells #[.int .u8 0,.int .u8 0,.int .u8 0,.int .u8 0] 139 (0,0))∧Keep (fun k=>k=B) W ((((W.setCell ⟨B,0,none⟩ (.int .u8 0)).setCell ⟨B,1,none⟩ (.int .u8 0)).setCell ⟨B,2,none⟩ (.int .u8 0)).setCell ⟨B,3,none⟩ (.int .u8 0)):=by
 have q:=(ae (ae (ae (ae h 0 (.int .u8 0)) 1 (.int .u8 0)) 2 (.int .u8 0)) 3 (.int .u8 0));exact ⟨by simpa only [wU,List.set_cons_zero,List.set_cons_succ] using q,Keep.setCells W B 0 [.int .u8 0,.int .u8 0,.int .u8 0,.int .u8 0]⟩
theorem tC {W:World} {B D:Nat} (h0:W.heap[B]?=some (.cells #[.int .i64 0,.int .i64 0,.int .i64 0,.int .i64 0,.int .i64 0] 23 (0,0))) (h1:W.heap[B+1]?=some (.cells #[.slice none 0 0] 43 (0,0))) (h2:W.heap[B+2]?=some (.cells #[.int .i64 0] 3 (0,0)))
 (h3:W.heap[B+3]?=some (.cells #[.int .u8 0,.int .u8 0,.int .u8 0,.int .u8 0] 139 (0,0))) (hD:B+6≤D) (hK:W.heap[D]?=some (.deferred (some []))) :
 ∃ WF,(((((((((((W.setCell ⟨B,0,none⟩ (.int .i64 0)).setCell ⟨B,1,none⟩ (.int .i64 0)).setCell ⟨B,2,none⟩ (.int .i64 0)).setCell ⟨B,3,none⟩ (.int .i64 0)).setCell ⟨B,4,none⟩ (.int .i64 0)).setCell ⟨B+1,0,none⟩ (.slice none 0 0)).setCell ⟨B+1+1,0,none⟩ (.int .i64 0)).setCell ⟨B+1+1+1,0,none⟩ (.int .u8 0)).setCell ⟨B+1+1+1,1,none⟩ (.int .u8 0)).setCell ⟨B+1+1+1,2,none⟩ (.int .u8 0)).setCell ⟨B+1+1+1,3,none⟩ (.int .u8 0))=WF∧WF.heap[B]?=some (.cells #[.int .i64 0,.int .i64 0,.int .i64 0,.int .i64 0,.int .i64 0] 23 (0,0))∧WF.heap[B+1]?=some (.cells #[.slice none 0 0] 43 (0,0))∧WF.heap[B+2]?=some (.cells #[.int .i64 0] 3 (0,0))∧
  WF.heap[B+3]?=some (.cells #[.int .u8 0,.int .u8 0,.int .u8 0,.int .u8 0] 139 (0,0))∧WF.heap[D]?=some (.deferred (some []))∧Keep (fun k=>B≤k) W WF:=by
 obtain ⟨a0,ka⟩:=nZ h0;generalize (((((W.setCell ⟨B,0,none⟩ (.int .i64 0)).setCell ⟨B,1,none⟩ (.int .i64 0)).setCell ⟨B,2,none⟩ (.int .i64 0)).setCell ⟨B,3,none⟩ (.int .i64 0)).setCell ⟨B,4,none⟩ (.int .i64 0))=WA at *;have a1:=ka.old h1 (by omega);have a2:=ka.old h2 (by omega);have a3:=ka.old h3 (by omega);have aD:=ka.old hK (by omega);have b1:=ae a1 0 (.slice none 0 0);have kb:=aJ WA (B+1) 0 (.slice none 0 0);generalize WA.setCell ⟨B+1,0,none⟩ (.slice none 0 0)=WB at *;have b0:=kb.old a0 (by omega);have b2:=kb.old a2 (by omega);have b3:=kb.old a3 (by omega);have bD:=kb.old aD (by omega);have c2:=ae b2 0 (.int .i64 0);have kc:=aJ WB (B+2) 0 (.int .i64 0);generalize WB.setCell ⟨B+2,0,none⟩ (.int .i64 0)=WC at *;have c0:=kc.old b0 (by omega);have c1:=kc.old b1 (by omega);have c3:=kc.old b3 (by omega);have cD:=kc.old bD (by omega);obtain ⟨d3,kd⟩:=zero4 c3;refine ⟨_,rfl,kd.old c0 (by omega),kd.old c1 (by omega),kd.old c2 (by omega),d3,kd.old cD (by omega),?_⟩;exact ((ka.trans kb (Z:=fun k=>B≤k) (fun _ _ h=>by omega) (fun _ _ h=>by omega)).trans kc (Z:=fun k=>B≤k) (fun _ _ h=>h) (fun _ _ h=>by omega)).trans kd (fun _ _ h=>h) (fun _ _ h=>by omega)
theorem tD (w:World):Calls Tryz.prog 75 #[.slice none 0 0] w fun e w'=>e = .returned (.tuple #[.agg #[.int .i64 0,.int .i64 0,.int .i64 0,.int .i64 0,.int .i64 0],.slice none 0 0,.int .i64 0,.agg #[.int .u8 0,.int .u8 0,.int .u8 0,.int .u8 0],.int .i64 250])∧Below w.heap.size w w':=by
 obtain ⟨wl,hwl,h0,h1,h2,h3,h5,hbl,hsz⟩:=p9 w;have HWL:=wB hwl;have H0:=wB h0;have H1:=wB h1;have H2:=wB h2;have H3:=wB h3;have H5:=wB h5;have HBL:=wB hbl;have HSZ:=wB hsz;clear hwl h0 h1 h2 h3 h5 hbl hsz;refine (callsIn_wide (n:=5)).1 ?_;refine callsIn_of_wp_marks Tryz.func75 rfl trivial ?_ rfl;simp only [Tryz.ntmps75,List.size_toArray,List.length_cons,List.length_nil,Nat.reduceAdd,Nat.reduceSub,Array.replicate_succ,Array.replicate_zero,List.push_toArray,List.append_toArray,List.nil_append,List.cons_append]
 gi_wp2_with (first | (refine ⟨trivial,?_⟩;gi_at_call 118;refine (callsIn_wide.2 (kY _ _ _ _)).mono ?_;rintro e w' ⟨rfl,rfl⟩))
 rw [HWL.out]
 refine wpIn_rangeFunc_ownF (α:=Empty) rfl (by omega) (gf:=154) (lb:=#[.pointer (some ⟨w.heap.size+5,0,none⟩)]) rfl trivial (enters_of Tryz.func154 (by kernel_rfl) rfl)
  (rV 4 (w.heap.size+5) wl H5.out) (fun _ _=>trivial) (fun _ _ _ _ _ _ _ _=>trivial) (wI _ _) (fun x=>nomatch x)
  (fun _ W=>Below wl.heap.size wl W) (fun _ _ _=>False) (ownFrom_below (wC _) (wC _)) (fun _ _ _ _ _ hs _ _=>hs) (wI _ _) (fun x=>nomatch x) (fun _ x=>nomatch x) (fun _ _ x=>nomatch x) ?done (fun _ _ _ _ _ h=>h.elim)
 case done=>
  rintro D xs W hD - hB hK;have HBW:=wB hB;have HKD:=wB hK;have HD:=wB hD;have k:=Keep.of_below hB (wC _) (fun _=>False);have h0:=k.old H0.out id;have h1:=k.old H1.out id;have h2:=k.old H2.out id;have h3:=k.old H3.out id;clear hB hK hD k;obtain ⟨B,hBB⟩:∃ B,w.heap.size=B:=⟨_,rfl⟩;rw [hBB] at h0 h1 h2 h3 HSZ ⊢;have HBB:=wB hBB;clear hBB;obtain ⟨x0,x1,x2,x3,x4⟩:=aK (c:=⟨0,0,0,0,0⟩) h0;have xf:=fun j=>wZ W B j _ _ h0
  have y0:W.cell? ⟨B+1,0,none⟩=some (.slice none 0 0):=by rw [wG W _ _ _ _ (0,0) h1];rfl
  have yf:=fun j=>wZ W (B+1) j _ _ h1
  have z0:W.cell? ⟨B+1+1,0,none⟩=some (.int .i64 0):=by rw [wG W _ _ _ _ (0,0) h2];rfl
  have zf:=fun j=>wZ W (B+1+1) j _ _ h2
  have u0:W.cell? ⟨B+1+1+1,0,none⟩=some (.int .u8 0):=by rw [wG W _ _ _ _ (0,0) h3];rfl
  have u1:W.cell? ⟨B+1+1+1,1,none⟩=some (.int .u8 0):=by rw [wG W _ _ _ _ (0,0) h3];rfl
  have u2:W.cell? ⟨B+1+1+1,2,none⟩=some (.int .u8 0):=by rw [wG W _ _ _ _ (0,0) h3];rfl
  have u3:W.cell? ⟨B+1+1+1,3,none⟩=some (.int .u8 0):=by rw [wG W _ _ _ _ (0,0) h3];rfl
  have uf:=fun j=>wZ W (B+1+1+1) j _ _ h3
  have HH:=wB (And.intro h0 (And.intro h1 (And.intro h2 h3)));clear h0 h1 h2 h3
  gi_wp2
  have hDB:B+6≤D:=by have:=HSZ.out;have:=HD.out;omega
  obtain ⟨WF,hWF,f0,f1,f2,f3,fD,kF⟩:=tC HH.out.1 HH.out.2.1 HH.out.2.2.1 HH.out.2.2.2 hDB HKD.out;rw [hWF];refine ⟨by simp,.inl ⟨_,_,rfl,run_takeDeferred fD,?_⟩⟩;have g0:(WF.putObj D (.deferred none)).heap[B]?=some (.cells #[.int .i64 0,.int .i64 0,.int .i64 0,.int .i64 0,.int .i64 0] 23 (0,0)):=by rw [World.putObj_heap_other (by omega)];exact f0
  have g1:(WF.putObj D (.deferred none)).heap[B+1]?=some (.cells #[.slice none 0 0] 43 (0,0)):=by rw [World.putObj_heap_other (by omega)];exact f1
  have g2:(WF.putObj D (.deferred none)).heap[B+1+1]?=some (.cells #[.int .i64 0] 3 (0,0)):=by rw [World.putObj_heap_other (by omega)];exact f2
  have g3:(WF.putObj D (.deferred none)).heap[B+1+1+1]?=some (.cells #[.int .u8 0,.int .u8 0,.int .u8 0,.int .u8 0] 139 (0,0)):=by rw [World.putObj_heap_other (by omega)];exact f3
  have hfin:Below w.heap.size w (WF.putObj D (.deferred none)):=by
   have hs:=HBL.out.trans (HBW.out.mono HBL.out.size);have h1:Below w.heap.size w WF:=hs.trans (kF.below hs.size (fun i hi h=>by have:=HBB.out;omega));exact ⟨h1.os,h1.tape,h1.output,by rw [World.putObj_size];exact h1.size,fun k hk=>by rw [World.putObj_heap_other (by have:=HBB.out;omega)];exact h1.block k hk⟩
  generalize WF.putObj D (.deferred none)=WG at *;obtain ⟨v0,v1,v2,v3,v4⟩:=aK (c:=⟨0,0,0,0,0⟩) g0;have w0:WG.cell? ⟨B+1,0,none⟩=some (.slice none 0 0):=by rw [wG WG _ _ _ _ (0,0) g1];rfl
  have w1:WG.cell? ⟨B+1+1,0,none⟩=some (.int .i64 0):=by rw [wG WG _ _ _ _ (0,0) g2];rfl
  have r0:WG.cell? ⟨B+1+1+1,0,none⟩=some (.int .u8 0):=by rw [wG WG _ _ _ _ (0,0) g3];rfl
  have r1:WG.cell? ⟨B+1+1+1,1,none⟩=some (.int .u8 0):=by rw [wG WG _ _ _ _ (0,0) g3];rfl
  have r2:WG.cell? ⟨B+1+1+1,2,none⟩=some (.int .u8 0):=by rw [wG WG _ _ _ _ (0,0) g3];rfl
  have r3:WG.cell? ⟨B+1+1+1,3,none⟩=some (.int .u8 0):=by rw [wG WG _ _ _ _ (0,0) g3];rfl
  exact ⟨.tuple #[.agg #[.int .i64 0,.int .i64 0,.int .i64 0,.int .i64 0,.int .i64 0],.slice none 0 0,.int .i64 0,.agg #[.int .u8 0,.int .u8 0,.int .u8 0,.int .u8 0],.int .i64 250],by simp [results,Tryz.results75,go_sem,v0,v1,v2,v3,v4,w0,w1,r0,r1,r2,r3],rfl,hfin⟩
theorem rW (w:World):Calls Tryz.prog 33 #[.slice none 0 0] w fun e w'=>e = .returned (.tuple #[.agg #[.int .i64 0,.int .i64 0,.int .i64 0,.int .i64 0,.int .i64 0],.slice none 0 0,.int .i64 0,.int .i64 250])∧Below w.heap.size w w':=by
 have HB:=wB ((wI w.heap.size w).alloc (wC _) (.cells #[.int .i64 0,.int .i64 0,.int .i64 0,.int .i64 0,.int .i64 0] 23));have HH:=wB (wF w (.cells #[.int .i64 0,.int .i64 0,.int .i64 0,.int .i64 0,.int .i64 0] 23));go_enter Tryz.func33,Tryz.ntmps33
 go_wp2_with fail
 generalize w.alloc (.cells #[.int .i64 0,.int .i64 0,.int .i64 0,.int .i64 0,.int .i64 0] 23)=W at *;refine (tD W).mono ?_;rintro e w2 ⟨rfl,hb2⟩;have HB2:=wB (Below.next HB.out hb2);have h2:=(Keep.of_below hb2 (wC _) (fun _=>False)).old HH.out id;have HZ:=wB (nZ h2);obtain ⟨x0,x1,x2,x3,x4⟩:=aK (c:=⟨0,0,0,0,0⟩) h2;have xf:=fun j=>wZ w2 w.heap.size j _ _ h2
 clear hb2;go_wp2_with fail
 obtain ⟨z1,k1⟩:=HZ.out;generalize (((((w2.setCell ⟨w.heap.size,0,none⟩ (.int .i64 0)).setCell ⟨w.heap.size,1,none⟩ (.int .i64 0)).setCell ⟨w.heap.size,2,none⟩ (.int .i64 0)).setCell ⟨w.heap.size,3,none⟩ (.int .i64 0)).setCell ⟨w.heap.size,4,none⟩ (.int .i64 0))=w3 at *;obtain ⟨z2,k2⟩:=nZ z1;generalize (((((w3.setCell ⟨w.heap.size,0,none⟩ (.int .i64 0)).setCell ⟨w.heap.size,1,none⟩ (.int .i64 0)).setCell ⟨w.heap.size,2,none⟩ (.int .i64 0)).setCell ⟨w.heap.size,3,none⟩ (.int .i64 0)).setCell ⟨w.heap.size,4,none⟩ (.int .i64 0))=w4 at *;have HF:=wB ((HB2.out.trans (k1.below HB2.out.size (fun i hi h=>by omega))).trans (k2.below (Nat.le_trans HB2.out.size k1.size) (fun i hi h=>by omega)));obtain ⟨v0,v1,v2,v3,v4⟩:=aK (c:=⟨0,0,0,0,0⟩) z2;exact bodyPost_ret (v:=.tuple #[.agg #[.int .i64 0,.int .i64 0,.int .i64 0,.int .i64 0,.int .i64 0],.slice none 0 0,.int .i64 0,.int .i64 250]) (by simp [results,Tryz.results33,go_sem,v0,v1,v2,v3,v4]) rfl ⟨rfl,HF.out⟩
theorem tE (c:ag):∀ u ∈ c.cells,u.oneCell'=true:=by
 intro u hu;simp only [ag.cells,List.mem_cons,List.not_mem_nil,or_false] at hu;rcases hu with rfl | rfl | rfl | rfl | rfl <;> rfl
theorem vA (w:World):Calls Tryz.prog 24 #[.slice none 0 0] w fun e w'=>e = .returned (.agg #[.int .i64 0,.int .i64 0,.int .i64 250])∧Below w.heap.size w w':=by
 have HB:=wB ((wI w.heap.size w).alloc (wC _) (.cells #[.int .i64 0,.int .i64 0,.int .i64 0] 62));have HH:=wB (wF w (.cells #[.int .i64 0,.int .i64 0,.int .i64 0] 62));go_enter Tryz.func24,Tryz.ntmps24
 go_wp2_with fail
 generalize w.alloc (.cells #[.int .i64 0,.int .i64 0,.int .i64 0] 62)=W at *;refine (rW W).mono ?_;rintro e w2 ⟨rfl,hb2⟩;have HB2:=wB (Below.next HB.out hb2);have h2:=(Keep.of_below hb2 (wC _) (fun _=>False)).old HH.out id;clear hb2;have HB3:=wB (show Below w.heap.size w (w2.alloc (.cells #[.int .i64 0,.int .i64 0,.int .i64 0,.int .i64 0,.int .i64 0] 23)) from HB2.out.alloc HB2.out.size _);have h3:(w2.alloc (.cells #[.int .i64 0,.int .i64 0,.int .i64 0,.int .i64 0,.int .i64 0] 23)).heap[w.heap.size]?=some (.cells #[.int .i64 0,.int .i64 0,.int .i64 0] 62 (0,0)):=(Keep.alloc (fun _=>False) w2 _).old h2 id;have HQ:=wB (ae (ae (ae h3 0 (.int .i64 0)) 1 (.int .i64 0)) 2 (.int .i64 250));have HK:=wB (Keep.setCells (w2.alloc (.cells #[.int .i64 0,.int .i64 0,.int .i64 0,.int .i64 0,.int .i64 0] 23)) w.heap.size 0 [.int .i64 0,.int .i64 0,.int .i64 250]);obtain ⟨g0,g1,g2,gf⟩:=cells3 h3;clear h2 h3;go_wp2_with (first | ((with_reducible refine aj (o:=⟨none,.store 23 (.tmp 3) (.tmp 16),_,_,_,_⟩) ?_ 23 (.tmp 3) (.tmp 16) ?_ _ #[.int .i64 0,.int .i64 0,.int .i64 0,.int .i64 0,.int .i64 0] ?_ ?_ (ag.cells ⟨0,0,0,0,0⟩) ?_ ?_ ?_ (tE _) ?_);rfl;rfl;rfl;rfl;rfl;exact cg;rfl))
 exact bodyPost_ret (v:=.agg #[.int .i64 0,.int .i64 0,.int .i64 250]) (gn 2 62 Tryz.results24 w.heap.size rfl #[.int .i64 0,.int .i64 0,.int .i64 250] _ HQ.out _ Tryz.underlying62 rfl (by kernel_rfl)) rfl ⟨rfl,HB3.out.trans (HK.out.below HB3.out.size (fun i hi h=>by omega))⟩
end Go.Proofs.YtcaicgipibcicaaGreat
namespace Go.Proofs.YtcaicgipibcicaaGreat
open Go.RowKit Go.Sort
theorem RV.cells_one (v:RV):∀ u ∈ v.cells,u.oneCell'=true:=by
 intro u hu;simp only [RV.cells,List.mem_cons,List.not_mem_nil,or_false] at hu;rcases hu with rfl | rfl | rfl | rfl | rfl | rfl | rfl | rfl | rfl <;> rfl
end Go.Proofs.YtcaicgipibcicaaGreat
