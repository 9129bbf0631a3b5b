/- Chapter 13 in the reference: what speaks against a pair; who fits. -/
import Derived.Test.YtcaicgipibcicaaGreatQRFit3
import Derived.Test.YtcaicgipibcicaaGreatQHeldTail
import Derived.Test.YtcaicgipibcicaaGreatQRFit1
import Derived.WalkMore
import Derived.Deep.RegionHeld3
set_option maxRecDepth 100000
set_option maxHeartbeats 16000000
set_option linter.unusedSimpArgs false
set_option linter.unusedVariables false
open Go renaming bodyPost_ret→yS,cell_regrown→yR,heap_alloc_new→yE,lt_of_block→yK,wp_region_quiet_below→zJ
open Go.Calls renaming regrown_of→zP
open Go.Lib renaming hid→yA
open Go.RowKit.Below renaming refl→yH
open Go.World renaming block_lt_of_cell?→yL
open Int renaming eq_ofNat_of_zero_le→zV
open List renaming getElem?_eq_getElem→yC,getElem?_eq_some_iff→yD,mem_of_getElem?→yP,setIfInBounds_toArray→yM,take_of_length_le→zh
open Nat renaming le_refl→yB,lt_succ_iff_lt_or_eq→yW,zero_le→yQ
open Prod.mk renaming inj→zZ
namespace Go.Proofs.YtcaicgipibcicaaGreat
open Go.RowKit Go.Sort
theorem uz (b:Nat) (k:Int) (h0:0≤k) (h7:k≤7) (w:World):(Instr.index 274 (.agg (gJ b 8)) (.int .i64 k)).run Tryz.prog w = .ok (.bool (aH b k)) w:=by
 obtain ⟨n,rfl⟩:=zV h0;have hlt:n<8:=by omega
 have hat:=kC b 8 n hlt;have:ij b 8 n = .bool (aH b n):=by simp [ij,hlt]
 rw [this] at hat
 have hn:(0:Int)≤n∧(n:Int)<((8:Nat):Int):=by omega
 have hi:(Tryz.prog.info? 4).map (·.size)=some 1:=by kernel_rfl
 cases hq:Tryz.prog.info? 4 with
 | none=>simp [hq] at hi
 | some j=>
   have hj:j.size=1:=by simpa [hq] using hi
   simp [Instr.index,run_underlying Tryz.underlying274,asIntOf,hn,hat,hlt,sizeOf,typeInfo,go_sem,hq,hj]
theorem pm (w:World) (r:az) (d:gQ) (hr:r.Ok) (hd:d.Ok):Calls Tryz.prog 174 #[.agg #[.int .u8 r.i0,.int .u8 r.i1,.int .u8 r.i2,.int .u8 r.i3,.int .u8 r.i4,.int .u8 r.i5,.int .u8 r.i6,.int .u8 r.i7,.int .i16 r.fx,.int .i16 r.fy,.int .i16 r.tx,.int .i16 r.ty,.int .u8 r.seats,.int .u8 r.classes,.int .i64 r.base,.int .i64 r.ttl],.agg #[.int .u8 d.i0,.int .u8 d.i1,.int .u8 d.i2,.int .u8 d.i3,.int .u8 d.i4,.int .u8 d.i5,.int .u8 d.i6,.int .u8 d.i7,.int .i16 d.ax,.int .i16 d.ay,.int .u8 d.seats,.int .u8 d.cls,.int .i64 d.radius]] w fun e w'=>e = .returned (.int .i64 (eN r d))∧Below w.heap.size w w':=by
 have HB:=yA (((yH w.heap.size w).alloc (yB _) (.cells #[.int .u8 r.i0,.int .u8 r.i1,.int .u8 r.i2,.int .u8 r.i3,.int .u8 r.i4,.int .u8 r.i5,.int .u8 r.i6,.int .u8 r.i7,.int .i16 r.fx,.int .i16 r.fy,.int .i16 r.tx,.int .i16 r.ty,.int .u8 r.seats,.int .u8 r.classes,.int .i64 r.base,.int .i64 r.ttl] 77)).alloc (by simp) (.cells #[.int .u8 d.i0,.int .u8 d.i1,.int .u8 d.i2,.int .u8 d.i3,.int .u8 d.i4,.int .u8 d.i5,.int .u8 d.i6,.int .u8 d.i7,.int .i16 d.ax,.int .i16 d.ay,.int .u8 d.seats,.int .u8 d.cls,.int .i64 d.radius] 81));have hz:(w.alloc (.cells #[.int .u8 r.i0,.int .u8 r.i1,.int .u8 r.i2,.int .u8 r.i3,.int .u8 r.i4,.int .u8 r.i5,.int .u8 r.i6,.int .u8 r.i7,.int .i16 r.fx,.int .i16 r.fy,.int .i16 r.tx,.int .i16 r.ty,.int .u8 r.seats,.int .u8 r.classes,.int .i64 r.base,.int .i64 r.ttl] 77)).heap.size=w.heap.size+1:=by simp
 have hh0:=(Keep.alloc (fun _=>False) (w.alloc (.cells #[.int .u8 r.i0,.int .u8 r.i1,.int .u8 r.i2,.int .u8 r.i3,.int .u8 r.i4,.int .u8 r.i5,.int .u8 r.i6,.int .u8 r.i7,.int .i16 r.fx,.int .i16 r.fy,.int .i16 r.tx,.int .i16 r.ty,.int .u8 r.seats,.int .u8 r.classes,.int .i64 r.base,.int .i64 r.ttl] 77)) (.cells #[.int .u8 d.i0,.int .u8 d.i1,.int .u8 d.i2,.int .u8 d.i3,.int .u8 d.i4,.int .u8 d.i5,.int .u8 d.i6,.int .u8 d.i7,.int .i16 d.ax,.int .i16 d.ay,.int .u8 d.seats,.int .u8 d.cls,.int .i64 d.radius] 81)).old (yE w (.cells #[.int .u8 r.i0,.int .u8 r.i1,.int .u8 r.i2,.int .u8 r.i3,.int .u8 r.i4,.int .u8 r.i5,.int .u8 r.i6,.int .u8 r.i7,.int .i16 r.fx,.int .i16 r.fy,.int .i16 r.tx,.int .i16 r.ty,.int .u8 r.seats,.int .u8 r.classes,.int .i64 r.base,.int .i64 r.ttl] 77)) id;have hh1:=yE (w.alloc (.cells #[.int .u8 r.i0,.int .u8 r.i1,.int .u8 r.i2,.int .u8 r.i3,.int .u8 r.i4,.int .u8 r.i5,.int .u8 r.i6,.int .u8 r.i7,.int .i16 r.fx,.int .i16 r.fy,.int .i16 r.tx,.int .i16 r.ty,.int .u8 r.seats,.int .u8 r.classes,.int .i64 r.base,.int .i64 r.ttl] 77)) (.cells #[.int .u8 d.i0,.int .u8 d.i1,.int .u8 d.i2,.int .u8 d.i3,.int .u8 d.i4,.int .u8 d.i5,.int .u8 d.i6,.int .u8 d.i7,.int .i16 d.ax,.int .i16 d.ay,.int .u8 d.seats,.int .u8 d.cls,.int .i64 d.radius] 81);rw [hz] at hh1;have H0:=yA hh0;have H1:=yA hh1;clear hz hh0 hh1;have HDI:=yA (fun w=>ux w d.ax d.ay r.fx r.fy hd.at_.1 hd.at_.2 hr.from_.1 hr.from_.2);obtain ⟨s1,s2⟩:=hr.seats;obtain ⟨s3,s4⟩:=hr.classes;obtain ⟨s5,s6⟩:=hd.seats;obtain ⟨s7,s8⟩:=hd.cls;obtain ⟨cn,hcn⟩:=zV s3;have HCL:=yA (fun w=>qC w cn (by omega));have HIX:=yA (fun (h7:d.cls≤7) w=>uz cn d.cls s7 h7 w)
 have hcase:((if d.cls≤7∧aH r.classes d.cls=true then (0:Int) else 1)=1∧7<d.cls)∨((if d.cls≤7∧aH r.classes d.cls=true then (0:Int) else 1)=1∧d.cls≤7∧aH cn d.cls=false)∨((if d.cls≤7∧aH r.classes d.cls=true then (0:Int) else 1)=0∧d.cls≤7∧aH cn d.cls=true):=by
  rw [hcn];by_cases a1:7<d.cls
  · exact .inl ⟨if_neg (by omega),a1⟩
  · cases hcl:aH (cn:Int) d.cls with
    | true=>exact .inr (.inr ⟨if_pos ⟨by omega,rfl⟩,by omega,rfl⟩)
    | false=>exact .inr (.inl ⟨if_neg (by simp),by omega,rfl⟩)
 have hseat:((if r.seats≤d.seats then (0:Int) else 2)=0∧r.seats≤d.seats)∨((if r.seats≤d.seats then (0:Int) else 2)=2∧d.seats<r.seats):=by
  by_cases a:r.seats≤d.seats
  · exact .inl ⟨if_pos a,a⟩
  · exact .inr ⟨if_neg a,by omega⟩
 have HA:=yA (show eN r d=(if d.cls≤7∧aH r.classes d.cls=true then (0:Int) else 1)+(if r.seats≤d.seats then (0:Int) else 2)+(if dW d.ax d.ay r.fx r.fy≤d.radius then (0:Int) else 4) from rfl);generalize (if d.cls≤7∧aH r.classes d.cls=true then (0:Int) else 1)=A at *;generalize (if r.seats≤d.seats then (0:Int) else 2)=B at *;generalize gJ cn 8=CL at *;have HCN:=yA hcn;clear hcn;rcases hcase with ⟨rfl,a1⟩ | ⟨rfl,a1,a2⟩ | ⟨rfl,a1,a2⟩ <;> rcases hseat with ⟨rfl,a3⟩ | ⟨rfl,a3⟩
 all_goals
  go_enter Tryz.func174,Tryz.ntmps174
  go_wp2_with fail
  generalize (w.alloc (.cells #[.int .u8 r.i0,.int .u8 r.i1,.int .u8 r.i2,.int .u8 r.i3,.int .u8 r.i4,.int .u8 r.i5,.int .u8 r.i6,.int .u8 r.i7,.int .i16 r.fx,.int .i16 r.fy,.int .i16 r.tx,.int .i16 r.ty,.int .u8 r.seats,.int .u8 r.classes,.int .i64 r.base,.int .i64 r.ttl] 77)).alloc (.cells #[.int .u8 d.i0,.int .u8 d.i1,.int .u8 d.i2,.int .u8 d.i3,.int .u8 d.i4,.int .u8 d.i5,.int .u8 d.i6,.int .u8 d.i7,.int .i16 d.ax,.int .i16 d.ay,.int .u8 d.seats,.int .u8 d.cls,.int .i64 d.radius] 81)=W at *;generalize w.heap.size+1=H2 at *;have k0:=yR (show W.cell? ⟨w.heap.size,13,none⟩=some (.int .u8 r.classes) by simp [World.cell?,H0.out]);have k1:=yR (show W.cell? ⟨H2,11,none⟩=some (.int .u8 d.cls) by simp [World.cell?,H1.out]);have cQ:∀ dd os,Calls Tryz.prog 194 #[.int .u8 r.classes] (grow (redrawn W dd) os) fun e w''=>e = .returned (.agg CL)∧∃ p:Regrown,w''=grow (redrawn W p.d) p.os:=fun dd os=>zP (by rw [HCN.out];exact HCL.out _)
  have k5:d.cls≤7→∀ w,Sem.run Tryz.prog (Instr.index 274 (Value.agg CL) (Value.int IntKind.i64 d.cls)) w=Result.ok (Value.bool (aH cn d.cls)) w:=HIX.out;have k6:d.cls≤7→decide (7<d.cls)=false:=fun h=>by simp;omega
  refine zJ (by kernel_rfl) (by kernel_rfl) ?_
  first
   | (have k7:=k5 a1
      have k8:=k6 a1;clear k5 k6
      repeat (go_big_quiet_step (exact cQ _ _)))
   | repeat (go_big_quiet_step (exact cQ _ _))
  refine wpQuiet_nil ?_;intro _ hw';obtain ⟨⟨dq,osq⟩,hw''⟩:=hw';subst hw'';have HBX:=yA (dN HB.out (below_regrown W dq osq));have hkx:=Keep.of_below (below_regrown W dq osq) (yB _) (fun _=>False);have g0:=hkx.old H0.out id;have g1:=hkx.old H1.out id;clear k0 k1 cQ hkx;try clear k5 k6
  generalize grow (redrawn W dq) osq=WX at *;have c0:WX.cell? ⟨w.heap.size,12,none⟩=some (.int .u8 r.seats):=by simp [World.cell?,g0]
  have c1:WX.cell? ⟨H2,10,none⟩=some (.int .u8 d.seats):=by simp [World.cell?,g1]
  have k0:=yR (show WX.cell? ⟨w.heap.size,8,none⟩=some (.int .i16 r.fx) by simp [World.cell?,g0]);have k1:=yR (show WX.cell? ⟨w.heap.size,9,none⟩=some (.int .i16 r.fy) by simp [World.cell?,g0]);have k2:=yR (show WX.cell? ⟨H2,8,none⟩=some (.int .i16 d.ax) by simp [World.cell?,g1]);have k3:=yR (show WX.cell? ⟨H2,9,none⟩=some (.int .i16 d.ay) by simp [World.cell?,g1]);have k4:=yR (show WX.cell? ⟨H2,12,none⟩=some (.int .i64 d.radius) by simp [World.cell?,g1]);clear g0 g1;go_wp2_with fail
  have cQ:∀ dd os,Calls Tryz.prog 195 #[.agg #[.int .i16 d.ax,.int .i16 d.ay],.agg #[.int .i16 r.fx,.int .i16 r.fy]] (grow (redrawn WX dd) os) fun e w''=>e = .returned (.int .i64 (dW d.ax d.ay r.fx r.fy))∧∃ p:Regrown,w''=grow (redrawn WX p.d) p.os:=fun dd os=>zP (HDI.out _)
  refine zJ (by kernel_rfl) (by kernel_rfl) ?_
  repeat (go_big_quiet_step (exact cQ _ _))
  refine wpQuiet_nil ?_;intro _ hw';obtain ⟨⟨dr,osr⟩,hw''⟩:=hw';subst hw'';have HBY:=yA (dN HBX.out (below_regrown WX dr osr));clear k0 k1 k2 k3 k4 cQ;generalize grow (redrawn WX dr) osr=WY at *;by_cases a9:dW d.ax d.ay r.fx r.fy≤d.radius
  · have hF:(if dW d.ax d.ay r.fx r.fy≤d.radius then (0:Int) else 4)=0:=if_pos a9
    rw [hF] at HA;clear hF;go_wp2_with fail
    go_ret
    exact ⟨by rw [HA.out];rfl,HBY.out⟩
  · have hF:(if dW d.ax d.ay r.fx r.fy≤d.radius then (0:Int) else 4)=4:=if_neg a9
    rw [hF] at HA;clear hF;have a9':d.radius<dW d.ax d.ay r.fx r.fy:=by omega
    go_wp2_with fail
    go_ret
    exact ⟨by rw [HA.out];rfl,HBY.out⟩
theorem uA (w:World) (r:az) (d:gQ) (hr:r.Ok) (hd:d.Ok):Calls Tryz.prog 134 #[.agg #[.int .u8 r.i0,.int .u8 r.i1,.int .u8 r.i2,.int .u8 r.i3,.int .u8 r.i4,.int .u8 r.i5,.int .u8 r.i6,.int .u8 r.i7,.int .i16 r.fx,.int .i16 r.fy,.int .i16 r.tx,.int .i16 r.ty,.int .u8 r.seats,.int .u8 r.classes,.int .i64 r.base,.int .i64 r.ttl],.agg #[.int .u8 d.i0,.int .u8 d.i1,.int .u8 d.i2,.int .u8 d.i3,.int .u8 d.i4,.int .u8 d.i5,.int .u8 d.i6,.int .u8 d.i7,.int .i16 d.ax,.int .i16 d.ay,.int .u8 d.seats,.int .u8 d.cls,.int .i64 d.radius]] w fun e w'=>e = .returned (.bool (jr r d))∧Below w.heap.size w w':=by
 have HB:=yA (((yH w.heap.size w).alloc (yB _) (.cells #[.int .u8 r.i0,.int .u8 r.i1,.int .u8 r.i2,.int .u8 r.i3,.int .u8 r.i4,.int .u8 r.i5,.int .u8 r.i6,.int .u8 r.i7,.int .i16 r.fx,.int .i16 r.fy,.int .i16 r.tx,.int .i16 r.ty,.int .u8 r.seats,.int .u8 r.classes,.int .i64 r.base,.int .i64 r.ttl] 77)).alloc (by simp) (.cells #[.int .u8 d.i0,.int .u8 d.i1,.int .u8 d.i2,.int .u8 d.i3,.int .u8 d.i4,.int .u8 d.i5,.int .u8 d.i6,.int .u8 d.i7,.int .i16 d.ax,.int .i16 d.ay,.int .u8 d.seats,.int .u8 d.cls,.int .i64 d.radius] 81));have HA:=yA (fun w=>pm w r d hr hd);have HE:=yA (tf r d);go_enter Tryz.func134,Tryz.ntmps134
 go_wp2_with fail
 generalize (w.alloc (.cells #[.int .u8 r.i0,.int .u8 r.i1,.int .u8 r.i2,.int .u8 r.i3,.int .u8 r.i4,.int .u8 r.i5,.int .u8 r.i6,.int .u8 r.i7,.int .i16 r.fx,.int .i16 r.fy,.int .i16 r.tx,.int .i16 r.ty,.int .u8 r.seats,.int .u8 r.classes,.int .i64 r.base,.int .i64 r.ttl] 77)).alloc (.cells #[.int .u8 d.i0,.int .u8 d.i1,.int .u8 d.i2,.int .u8 d.i3,.int .u8 d.i4,.int .u8 d.i5,.int .u8 d.i6,.int .u8 d.i7,.int .i16 d.ax,.int .i16 d.ay,.int .u8 d.seats,.int .u8 d.cls,.int .i64 d.radius] 81)=W at *;refine (HA.out W).mono ?_;rintro e w1 ⟨rfl,hb1⟩;have HB1:=yA (dN HB.out hb1);clear hb1;generalize eN r d=A at *;go_wp2_with fail
 go_ret
 exact ⟨by rw [←HE.out];rfl,HB1.out⟩
theorem sk (w:World) (ao bo:Option Addr) (n m c c':Nat) (ws:List ad) (ds:List ak) (hn:ws.length=n) (hm:ds.length=m) (hw:RdC w ao (cellsOf ad.cells ws)) (hd:RdC w bo (cellsOf ak.cells ds))
 (how:∀ x ∈ ws,x.Ok) (hod:∀ x ∈ ds,x.Ok) (hn':n≤1048576) (hm':m≤1048576) :
 Calls Tryz.prog 100 #[.slice ao n c,.slice bo m c'] w fun e w'=>∃ v,e = .returned v∧Grown w ag.cells 2 (bN ws ds) v w':=by
 have HN:=yA hn;have HM:=yA hm;have HW:=yA hw;have HD:=yA hd;have HOW:=yA how;have HOD:=yA hod;clear hn hm hw hd how hod;go_enter Tryz.func100,Tryz.ntmps100
 go_wp2_with fail
 have hst:=yA (show Grown w ag.cells 2 (aV ws ds 0 0) (.slice none 0 0) w from Grown.begin _ _ _);obtain ⟨i5,hi,hz0,hz1,hz2⟩:=cR gI;go_loopw [5,6] (fun a i wr=>Hid (∃ p:Nat,i = .int .i64 p∧p≤n∧Grown w ag.cells 2 (aV ws ds p 0) a wr)) (fun _ i _=>n - (intOf i).toNat)
 case atStart=>exact yA ⟨0,rfl,yQ _,hst.out⟩
 case round=>
  obtain ⟨p,rfl,hp,hrel1⟩:=hrel.out;clear hrel;have HR:=yA hrel1;clear hrel1;by_cases hlt:p<n
  · obtain ⟨x,hx⟩:∃ x,ws[p]?=some x:=⟨ws[p]'(by rw [HN.out];exact hlt),yC _⟩
    obtain ⟨b,o,rfl,_⟩:=HW.out.place (by rw [cellsOf_length _ 18 ad.cells_length,HN.out];omega);have HX:=yA hx;have HXO:=yA (HOW.out x (yP hx));clear hx;go_wp2_with fail
    go_loopw [5,7] (fun a i wr=>Hid (∃ q:Nat,i = .int .i64 q∧q≤m∧Grown w ag.cells 2 (aV ws ds p q) a wr)) (fun _ i _=>m - (intOf i).toNat)
    case atStart=>exact yA ⟨0,rfl,yQ _,HR.out⟩
    case round=>
     obtain ⟨q,rfl,hq,hrel1⟩:=hrel.out;clear hrel;have HR1:=yA hrel1;clear hrel1;by_cases hqm:q<m
     · obtain ⟨y,hy⟩:∃ y,ds[q]?=some y:=⟨ds[q]'(by rw [HM.out];exact hqm),yC _⟩
       obtain ⟨b',o',rfl,_⟩:=HD.out.place (by rw [cellsOf_length _ 14 ak.cells_length,HM.out];omega);have HY:=yA hy;have HYO:=yA (HOD.out y (yP hy));clear hy;go_wp2_with fail
       have cQ:∀ dd os,Calls Tryz.prog 134 #[.agg #[.int .u8 x.r.i0,.int .u8 x.r.i1,.int .u8 x.r.i2,.int .u8 x.r.i3,.int .u8 x.r.i4,.int .u8 x.r.i5,.int .u8 x.r.i6,.int .u8 x.r.i7,.int .i16 x.r.fx,.int .i16 x.r.fy,.int .i16 x.r.tx,.int .i16 x.r.ty,.int .u8 x.r.seats,.int .u8 x.r.classes,.int .i64 x.r.base,.int .i64 x.r.ttl],.agg #[.int .u8 y.d.i0,.int .u8 y.d.i1,.int .u8 y.d.i2,.int .u8 y.d.i3,.int .u8 y.d.i4,.int .u8 y.d.i5,.int .u8 y.d.i6,.int .u8 y.d.i7,.int .i16 y.d.ax,.int .i16 y.d.ay,.int .u8 y.d.seats,.int .u8 y.d.cls,.int .i64 y.d.radius]] (grow (redrawn wr dd) os) fun e w''=>e = .returned (.bool (jr x.r y.d))∧∃ p:Regrown,w''=grow (redrawn wr p.d) p.os:=fun dd os=>zP (uA _ _ _ HXO.out.r HYO.out.d)
       obtain ⟨k0,k1,k2,k3,k4,k5,k6,k7,k8,k9,k10,k11,k12,k13,k14,k15,k16,k17⟩:=oX (HW.out.below HR1.out.below) HX.out;obtain ⟨j0,j1,j2,j3,j4,j5,j6,j7,j8,j9,j10,j11,j12,j13⟩:=tj (HD.out.below HR1.out.below) HY.out;have HF:=yA (qc HX.out HY.out);refine zJ (by kernel_rfl) (by kernel_rfl) ?_
       repeat (go_big_quiet_step (exact cQ _ _))
       refine wpQuiet_nil ?_;intro _ hw';obtain ⟨⟨dq,osq⟩,hw''⟩:=hw';subst hw'';clear cQ k0 k1 k2 k3 k4 k5 k6 k7 k8 k9 k10 k11 k12 k13 k14 k15 k16 k17 j0 j1 j2 j3 j4 j5 j6 j7 j8 j9 j10 j11 j12 j13;have HBX:=yA (below_regrown wr dq osq);generalize grow (redrawn wr dq) osq=WX at *;cases hfit:jr x.r y.d with
       | true=>
         rw [hfit] at HF;have hlen:=lJ ws ds p q
         have hsmall:(aV ws ds p q).length+1≤1099512676353:=by
          have h1:p*ds.length≤1048576*1048576:=Nat.mul_le_mul (by omega) (by rw [HM.out];exact hm');omega
         clear hlen;have HG:=yA (HR1.out.next HBX.out);go_wp2_with (at_builtin;refine br rfl (.tmp 31) (.tmp 35) 29 29 rfl 69 i5 nb 2 16 Tryz.underlying29 hi hz0 hz1 hz2 rfl u5 (aV ws ds p q).length _ rfl (HG.out.own.keep (Keep.alloc (fun _=>False) _ _) (fun _ _=>id)) (.slice (some ⟨WX.heap.size,0,none⟩) 1 1) 1 (ag.cells ⟨p,q⟩) rfl (Src.lit Tryz.underlying29 2 _ rfl (ag.cells_one _) _ _ rfl) (by omega) (by unfold maxLen;omega) (by omega) ?_)
         intro g cap w2 ho2 hc2
         have hrel2:=yA (show Grown w ag.cells 2 (aV ws ds p (q+1)) (.slice (some ⟨g,0,none⟩) ((aV ws ds p q).length+1) cap) w2 from by
          rw [lK HF.out];exact HG.out.app (Keep.alloc (fun _=>False) _ _) ho2 hc2)
         clear ho2 hc2;generalize (aV ws ds p q).length=N at *;go_wp2_with fail
         go_roundw
         case rel=>exact yA ⟨q+1,by go_num,by omega,hrel2.out⟩
         case measure=>simp [intOf];omega
       | false=>
         rw [hfit] at HF
         have hrel2:=yA (show Grown w ag.cells 2 (aV ws ds p (q+1)) u5 WX from by
          rw [mT HF.out];exact HR1.out.next HBX.out)
         go_wp2_with fail
         go_roundw
         case rel=>exact yA ⟨q+1,by go_num,by omega,hrel2.out⟩
         case measure=>simp [intOf];omega
     · obtain rfl:m=q:=by omega
       go_wp2_with fail
       go_roundw
       case rel=>exact yA ⟨p+1,by go_num,by omega,by rw [kt,HM.out];exact HR1.out⟩
       case measure=>simp [intOf];omega
  · obtain rfl:n=p:=by omega
    go_wp2_with fail
    go_ret
    refine ⟨_,rfl,?_⟩;rw [←lL,HN.out];exact HR.out
theorem uB (w:World) (c:ae) (now:Int) (x:ad) (hx:x.Ok) (hnow:ar now):Calls Tryz.prog 99 #[.agg #[.int .i64 c.q,.int .i64 c.d,.int .i64 c.w,.int .i64 c.ttl,.int .i64 c.b],.int .i64 now,.agg #[.int .u8 x.r.i0,.int .u8 x.r.i1,.int .u8 x.r.i2,.int .u8 x.r.i3,.int .u8 x.r.i4,.int .u8 x.r.i5,.int .u8 x.r.i6,.int .u8 x.r.i7,.int .i16 x.r.fx,.int .i16 x.r.fy,.int .i16 x.r.tx,.int .i16 x.r.ty,.int .u8 x.r.seats,.int .u8 x.r.classes,.int .i64 x.r.base,.int .i64 x.r.ttl,.int .i64 x.since,.int .i64 x.number]] w fun e w'=>e = .returned (.tuple #[.int .i64 (wtP c now x).1,.int .i64 (wtP c now x).2])∧Below w.heap.size w w':=by
 have HXR:=yA hx.r;obtain ⟨xs1,xs2⟩:=hx.since;obtain ⟨xt1,xt2⟩:=hx.r.ttl;obtain ⟨nw1,nw2⟩:=hnow;clear hx;have HW:=yA (ky.begin w c x);obtain ⟨A,E,hAE⟩:∃ A E,wtP c now x=(A,E):=⟨_,_,rfl⟩;rw [hAE];have HAE:=yA hAE;clear hAE;go_enter Tryz.func99,Tryz.ntmps99
 go_upto_region 1 with fail
 generalize (w.alloc (.cells #[.int .i64 c.q,.int .i64 c.d,.int .i64 c.w,.int .i64 c.ttl,.int .i64 c.b] 23)).alloc (.cells #[.int .u8 x.r.i0,.int .u8 x.r.i1,.int .u8 x.r.i2,.int .u8 x.r.i3,.int .u8 x.r.i4,.int .u8 x.r.i5,.int .u8 x.r.i6,.int .u8 x.r.i7,.int .i16 x.r.fx,.int .i16 x.r.fy,.int .i16 x.r.tx,.int .i16 x.r.ty,.int .u8 x.r.seats,.int .u8 x.r.classes,.int .i64 x.r.base,.int .i64 x.r.ttl,.int .i64 x.since,.int .i64 x.number] 79)=W at *;generalize w.heap.size+1=H1 at *;have HHE:=yA (show ∃ H0,w.heap.size=H0 from ⟨_,rfl⟩);obtain ⟨H0,hH0⟩:=HHE.out;rw [hH0] at HW;rw [hH0];have HH:=yA hH0;clear hH0 HHE;go_wp2_with (first | ((with_reducible refine aa (o:=⟨some 10,_,_,_,_,_⟩) ?_ 23 (.tmp 3) ?_ H0 (0) ?_ c.cells #[.int .i64 c.q,.int .i64 c.d,.int .i64 c.w,.int .i64 c.ttl,.int .i64 c.b] ?_ _ (bA HW.out.g) Tryz.underlying23 ?_ ?_ ?_);rfl;rfl;rfl;rfl;rfl;exact aE) | ((with_reducible refine aa (o:=⟨some 12,_,_,_,_,_⟩) ?_ 77 (.tmp 11) ?_ H1 (0) ?_ x.r.cells #[.int .u8 x.r.i0,.int .u8 x.r.i1,.int .u8 x.r.i2,.int .u8 x.r.i3,.int .u8 x.r.i4,.int .u8 x.r.i5,.int .u8 x.r.i6,.int .u8 x.r.i7,.int .i16 x.r.fx,.int .i16 x.r.fy,.int .i16 x.r.tx,.int .i16 x.r.ty,.int .u8 x.r.seats,.int .u8 x.r.classes,.int .i64 x.r.base,.int .i64 x.r.ttl] ?_ _ (iV HW.out.h) Tryz.underlying77 ?_ ?_ ?_);rfl;rfl;rfl;rfl;rfl;exact pd))
 refine (m5 W c x.r HXR.out).mono ?_;rintro e w1 ⟨rfl,hb1⟩;have HW1:=yA (HW.out.keep hb1);clear hb1 HW;obtain ⟨g4,k14,k15,k16⟩:=HW1.out.cells;by_cases h0:bn c x.r=0
 · have HB:=yA (fj h0)
   obtain ⟨b1,b2,b3,b4,b5,b6,b7⟩:=HB.out;have H0E:=yA h0;rw [h0];clear h0;go_wp2_with fail
   refine (kW w1 now).mono ?_;rintro e w2 ⟨rfl,rfl⟩;by_cases ht1:0≤now∧now≤1099511627776
   · obtain ⟨t1,t2⟩:=ht1
     rw [show cx now=true from decide_eq_true ⟨t1,t2⟩];go_wp2_with fail
     refine (kW w1 x.since).mono ?_;rintro e w2 ⟨rfl,rfl⟩;by_cases ht2:0≤x.since∧x.since≤1099511627776
     · obtain ⟨t3,t4⟩:=ht2
       rw [show cx x.since=true from decide_eq_true ⟨t3,t4⟩];by_cases ht3:now<x.since
       · have HE:=yA (zZ (HAE.out.symm.trans (iX H0E.out (by omega))))
         go_wp2_with fail
         go_ret2
         exact ⟨by rw [HE.out.1,HE.out.2];rfl,HW1.out.below⟩
       · have t5:x.since≤now:=by omega
         clear ht3;by_cases ht4:x.r.ttl<now - x.since
         · have HE:=yA (zZ (HAE.out.symm.trans (qo H0E.out ⟨t1,t2,t3,t4,t5⟩ ht4)))
           go_wp2_with fail
           go_ret2
           exact ⟨by rw [HE.out.1,HE.out.2];rfl,HW1.out.below⟩
         · have t6:now - x.since≤x.r.ttl:=by omega
           have HE:=yA (zZ (HAE.out.symm.trans (qp H0E.out ⟨t1,t2,t3,t4,t5⟩ ht4)));have hmb:=vO (a:=now - x.since) (b:=c.b+1) (by omega) (by omega) (by omega) (by omega);obtain ⟨M,hM⟩:∃ M,(now - x.since)*(c.b+1)=M:=⟨_,rfl⟩;rw [hM] at hmb HE;obtain ⟨m1,m2⟩:=hmb;have hw:wrap64 ((now - x.since)*(c.b+1))=M:=by rw [hM];exact IntWalk.wrap64_in M ⟨by omega,by omega⟩
           clear ht4 hM;go_wp2_with fail
           go_ret2
           exact ⟨by rw [HE.out.1,HE.out.2];rfl,HW1.out.below⟩
     · have HE:=yA (zZ (HAE.out.symm.trans (iX H0E.out (by omega))))
       rw [show cx x.since=false from decide_eq_false ht2];clear ht2;go_wp2_with fail
       go_ret2
       exact ⟨by rw [HE.out.1,HE.out.2];rfl,HW1.out.below⟩
   · have HE:=yA (zZ (HAE.out.symm.trans (iX H0E.out (by omega))))
     rw [show cx now=false from decide_eq_false ht1];clear ht1;go_wp2_with fail
     go_ret2
     exact ⟨by rw [HE.out.1,HE.out.2];rfl,HW1.out.below⟩
 · have HE:=yA (zZ (HAE.out.symm.trans (oq h0)))
   have b1:(bn c x.r==0)=false:=by simp [h0]
   have b2:(bn c x.r != 0)=true:=by simp [h0]
   clear h0;generalize bn c x.r=C at *;go_wp2_with fail
   go_ret2
   exact ⟨by rw [HE.out.1,HE.out.2];rfl,HW1.out.below⟩
theorem kD {w:World} {b o:Nat} {l:List ak} (hr:RdC w (some ⟨b,o,none⟩) (cellsOf ak.cells l)) {i:Nat} {x:ak} (hx:l[i]?=some x):∀ j u,x.d.cells[j]?=some u→w.cell? ⟨b,o+i*14+j,none⟩=some u:=by
 intro j u hu;refine bf ak.cells_length hr hx j u ?_;have he:x.cells=x.d.cells++[.int .i64 x.number]:=rfl;rw [he,List.getElem?_append_left (yD.1 hu).1];exact hu
theorem aL {w:World} {H:Nat} {c:ae} (h:w.heap[H]?=some (.cells #[.int .i64 c.q,.int .i64 c.d,.int .i64 c.w,.int .i64 c.ttl,.int .i64 c.b] 23 (0,0))):w.cell? ⟨H,0,none⟩=some (.int .i64 c.q)∧w.cell? ⟨H,1,none⟩=some (.int .i64 c.d)∧w.cell? ⟨H,2,none⟩=some (.int .i64 c.w)∧w.cell? ⟨H,3,none⟩=some (.int .i64 c.ttl)∧w.cell? ⟨H,4,none⟩=some (.int .i64 c.b):=by
 refine ⟨?_,?_,?_,?_,?_⟩ <;> rw [cell_of_row w H _ _ _ (0,0) h] <;> rfl
def kE (c:ae) (now:Int) (ws:List ad) (k:Nat):List Int:=(ws.take k).map (fun x=>(wtP c now x).1)
theorem uC {c:ae} {now:Int} {ws:List ad} {k:Nat} {x:ad} (hx:ws[k]?=some x):kE c now ws (k+1)=kE c now ws k++[(wtP c now x).1]:=dA hx
theorem qD {c:ae} {now:Int} {ws:List ad} {k:Nat} (hk:k≤ws.length):(kE c now ws k).length=k:=by unfold kE;rw [List.length_map,List.length_take];omega
theorem sm (w:World) (c:ae) (now:Int) (ao bo:Option Addr) (n m c' c'':Nat) (ws:List ad) (ds:List ak) (hnow:ar now) (hn:ws.length=n) (hm:ds.length=m) (hw:RdC w ao (cellsOf ad.cells ws)) (hd:RdC w bo (cellsOf ak.cells ds))
 (how:∀ x ∈ ws,x.Ok) (hod:∀ x ∈ ds,x.Ok) (hn':n≤1048576) (hm':m≤1048576) :
 Calls Tryz.prog 56 #[.agg #[.int .i64 c.q,.int .i64 c.d,.int .i64 c.w,.int .i64 c.ttl,.int .i64 c.b],.int .i64 now,.slice ao n c',.slice bo m c''] w (GraphPost w c now ws ds):=by
 have HN:=yA hn;have HM:=yA hm;have HWR:=yA hw;have HDR:=yA hd;have HOW:=yA how;have HOD:=yA hod;have HNOW:=yA hnow;clear hn hm hw hd how hod hnow;have HW:=yA (c7.begin w c);go_enter Tryz.func56,Tryz.ntmps56
 go_upto_region 1 with fail
 generalize (w.alloc (.cells #[.int .i64 c.q,.int .i64 c.d,.int .i64 c.w,.int .i64 c.ttl,.int .i64 c.b] 23)).alloc (.cells #[.int .i64 0,.int .i64 0,.slice none 0 0] 28)=W at *;have hH8:w.heap.size≤w.heap.size+1:=by omega
 have hne8:w.heap.size<w.heap.size+1:=by omega
 generalize w.heap.size+1=H8 at *;have HHE:=yA (show ∃ H0,w.heap.size=H0 from ⟨_,rfl⟩);obtain ⟨H0,hH0⟩:=HHE.out;have H8L:=yA hH8;clear hH8;rw [hH0] at HW hne8;rw [hH0];have HH:=yA hH0;clear hH0 HHE;go_wp2_with (first | ((with_reducible refine aa (o:=⟨some 20,_,_,_,_,_⟩) ?_ 23 (.tmp 4) ?_ H0 (0) ?_ c.cells #[.int .i64 c.q,.int .i64 c.d,.int .i64 c.w,.int .i64 c.ttl,.int .i64 c.b] ?_ _ (bA HW.out.g) Tryz.underlying23 ?_ ?_ ?_);rfl;rfl;rfl;rfl;rfl;exact aE))
 refine (eM W c).mono ?_;rintro e w1 ⟨rfl,hb1⟩;have HW1:=yA (HW.out.keep hb1);clear hb1 HW;obtain ⟨r0,r1,r2,rf⟩:=cells3 HW1.out.r;cases hc:aB c with
 | false=>
   have HE:=yA (qq (now:=now) (ws:=ws) (ds:=ds) hc);rw [show al c=160 by simp [al,hc]];clear hc;have HBW:=yA (HW1.out.write H8L.out (.int .i64 0) (.int .i64 0) (.slice none 0 0));have HQ:=yA (bC HW1.out.r (.int .i64 0) (.int .i64 0) (.slice none 0 0));go_wp2_with fail
   generalize ((w1.setCell ⟨H8,0,none⟩ (.int .i64 0)).setCell ⟨H8,1,none⟩ (.int .i64 0)).setCell ⟨H8,2,none⟩ (.slice none 0 0)=WF at *;obtain ⟨q0,q1,q2⟩:=HQ.out;exact yS (v:=.tuple #[.agg #[.int .i64 0,.int .i64 0,.slice none 0 0],.int .i64 160]) (by simp [results,Tryz.results56,go_sem,q0,q1,q2]) rfl (GraphPost.no HE.out (by omega) HBW.out)
 | true=>
   have HC:=yA hc;rw [show al c=0 by simp [al,hc]];clear hc;go_wp2_with fail
   refine (kW w1 now).mono ?_;rintro e w2 ⟨rfl,rfl⟩;cases ht:cx now with
   | false=>
     have HE:=yA (qr (ws:=ws) (ds:=ds) HC.out ht);clear ht;have HBW:=yA (HW1.out.write H8L.out (.int .i64 0) (.int .i64 0) (.slice none 0 0));have HQ:=yA (bC HW1.out.r (.int .i64 0) (.int .i64 0) (.slice none 0 0));go_wp2_with fail
     generalize ((w1.setCell ⟨H8,0,none⟩ (.int .i64 0)).setCell ⟨H8,1,none⟩ (.int .i64 0)).setCell ⟨H8,2,none⟩ (.slice none 0 0)=WF at *;obtain ⟨q0,q1,q2⟩:=HQ.out;exact yS (v:=.tuple #[.agg #[.int .i64 0,.int .i64 0,.slice none 0 0],.int .i64 1]) (by simp [results,Tryz.results56,go_sem,q0,q1,q2]) rfl (GraphPost.no HE.out (by omega) HBW.out)
   | true=>
     have HT:=yA ht;clear ht;have hsz:(64<n∨(n≤64∧64<m))∨(n≤64∧m≤64):=by omega
     rcases hsz with h | ⟨h1,h2⟩
     · have HE:=yA (qs (ws:=ws) (ds:=ds) HC.out HT.out (by rw [HN.out,HM.out];omega))
       rcases h with h1 | ⟨h1,h2⟩
       · have d1:decide (64<n)=true:=decide_eq_true h1
         have HBW:=yA (HW1.out.write H8L.out (.int .i64 0) (.int .i64 0) (.slice none 0 0));have HQ:=yA (bC HW1.out.r (.int .i64 0) (.int .i64 0) (.slice none 0 0));go_wp2_with fail
         generalize ((w1.setCell ⟨H8,0,none⟩ (.int .i64 0)).setCell ⟨H8,1,none⟩ (.int .i64 0)).setCell ⟨H8,2,none⟩ (.slice none 0 0)=WF at *;obtain ⟨q0,q1,q2⟩:=HQ.out;exact yS (v:=.tuple #[.agg #[.int .i64 0,.int .i64 0,.slice none 0 0],.int .i64 3]) (by simp [results,Tryz.results56,go_sem,q0,q1,q2]) rfl (GraphPost.no HE.out (by omega) HBW.out)
       · have d1:decide (64<n)=false:=decide_eq_false (by omega)
         have d2:decide (64<m)=true:=decide_eq_true h2;have HBW:=yA (HW1.out.write H8L.out (.int .i64 0) (.int .i64 0) (.slice none 0 0));have HQ:=yA (bC HW1.out.r (.int .i64 0) (.int .i64 0) (.slice none 0 0));go_wp2_with fail
         generalize ((w1.setCell ⟨H8,0,none⟩ (.int .i64 0)).setCell ⟨H8,1,none⟩ (.int .i64 0)).setCell ⟨H8,2,none⟩ (.slice none 0 0)=WF at *;obtain ⟨q0,q1,q2⟩:=HQ.out;exact yS (v:=.tuple #[.agg #[.int .i64 0,.int .i64 0,.slice none 0 0],.int .i64 3]) (by simp [results,Tryz.results56,go_sem,q0,q1,q2]) rfl (GraphPost.no HE.out (by omega) HBW.out)
     have HSZ:=yA (show ¬ (64<ws.length∨64<ds.length) by rw [HN.out,HM.out];omega);have d1:decide (64<n)=false:=decide_eq_false (by omega);have d2:decide (64<m)=false:=decide_eq_false (by omega);obtain ⟨i6,hi6,hz60,hz61,hz62⟩:=cR fS;have HGI:=yA (show Grown w1 aP 1 (kE c now ws 0) (.slice none 0 0) w1 from Grown.begin _ _ _);go_wp2_with fail
     clear r0 r1 r2 rf;go_loopw [11,12] (fun a i wr=>Hid (∃ k:Nat,i = .int .i64 k∧k≤n∧(∀ (j:Nat) (y:ad),j<k→ws[j]?=some y→(wtP c now y).2=0)∧c7 w c H0 H8 wr∧Grown w1 aP 1 (kE c now ws k) a wr)) (fun _ i _=>n - (intOf i).toNat)
     case atStart=>exact yA ⟨0,rfl,yQ _,fun j y h=>absurd h (Nat.not_lt_zero j),HW1.out,HGI.out⟩
     case round=>
      obtain ⟨k,rfl,hk,hall,hgh,hgr⟩:=hrel.out;clear hrel;have HALL:=yA hall;have HR1:=yA hgh;have HGR:=yA hgr;clear hall hgh hgr;by_cases hlt:k<n
      · obtain ⟨x,hx⟩:∃ x,ws[k]?=some x:=⟨ws[k]'(by rw [HN.out];exact hlt),yC _⟩
        obtain ⟨b,o,rfl,_⟩:=HWR.out.place (by rw [cellsOf_length _ 18 ad.cells_length,HN.out];omega);obtain ⟨k0,k1,k2,k3,k4,k5,k6,k7,k8,k9,k10,k11,k12,k13,k14,k15,k16,k17⟩:=oX (HWR.out.below HR1.out.below) hx;obtain ⟨g0,g1,g2,g3,g4⟩:=aL HR1.out.g;have f0:=yR g0;have f1:=yR g1;have f2:=yR g2;have f3:=yR g3;have f4:=yR g4;have HX:=yA hx;have HXO:=yA (HOW.out x (yP hx));have HWN:=yA (uC (c:=c) (now:=now) hx);have HWL:=yA (qD (c:=c) (now:=now) (ws:=ws) (k:=k) (by rw [HN.out];exact hk));clear hx g0 g1 g2 g3 g4;obtain ⟨A,E,hAE⟩:∃ A E,wtP c now x=(A,E):=⟨_,_,rfl⟩;have cQ:∀ dd os,Calls Tryz.prog 99 #[.agg #[.int .i64 c.q,.int .i64 c.d,.int .i64 c.w,.int .i64 c.ttl,.int .i64 c.b],.int .i64 now,.agg #[.int .u8 x.r.i0,.int .u8 x.r.i1,.int .u8 x.r.i2,.int .u8 x.r.i3,.int .u8 x.r.i4,.int .u8 x.r.i5,.int .u8 x.r.i6,.int .u8 x.r.i7,.int .i16 x.r.fx,.int .i16 x.r.fy,.int .i16 x.r.tx,.int .i16 x.r.ty,.int .u8 x.r.seats,.int .u8 x.r.classes,.int .i64 x.r.base,.int .i64 x.r.ttl,.int .i64 x.since,.int .i64 x.number]] (grow (redrawn wr dd) os) fun e w''=>e = .returned (.tuple #[.int .i64 A,.int .i64 E])∧∃ p:Regrown,w''=grow (redrawn wr p.d) p.os:=fun dd os=>zP (by have:=uB (grow (redrawn wr dd) os) c now x HXO.out HNOW.out;rw [hAE] at this;exact this)
        have HAE:=yA hAE;clear hAE;go_wp2_with fail
        refine zJ (by kernel_rfl) (by kernel_rfl) ?_
        repeat (go_big_quiet_step (exact cQ _ _))
        refine wpQuiet_nil ?_;intro _ hw';obtain ⟨⟨dq,osq⟩,hw''⟩:=hw';subst hw'';have HBX:=yA (below_regrown wr dq osq);have HR4:=yA (HR1.out.keep HBX.out);have HG4:=yA (HGR.out.next HBX.out);clear cQ k0 k1 k2 k3 k4 k5 k6 k7 k8 k9 k10 k11 k12 k13 k14 k15 k16 k17 f0 f1 f2 f3 f4 HR1 HGR HXO;generalize grow (redrawn wr dq) osq=W4 at *;by_cases h0:E=0
        · have HA:=yA (show ∀ (j:Nat) (y:ad),j<k+1→ws[j]?=some y→(wtP c now y).2=0 from fun j y hj hy=>by
           rcases yW.1 hj with hj | rfl
           · exact HALL.out j y hj hy
           · rw [HX.out] at hy;cases hy;rw [HAE.out];exact h0)
          have e1:(E==0)=true:=by simp [h0]
          have e2:(E != 0)=false:=by simp [h0]
          clear h0;go_wp2_with (at_builtin;refine br rfl (.tmp 59) (.tmp 61) 30 30 rfl 3 i6 (.int .i64 0) 1 8 Tryz.underlying30 hi6 hz60 hz61 hz62 rfl u11 (kE c now ws k).length _ rfl (HG4.out.own.keep (Keep.alloc (fun _=>False) _ _) (fun _ _=>id)) (.slice (some ⟨W4.heap.size,0,none⟩) 1 1) 1 (aP A) rfl (Src.lit Tryz.underlying30 1 _ rfl (ft _) _ _ rfl) (by omega) (by rw [HWL.out];unfold maxLen;omega) (by rw [HWL.out];omega) ?_)
          intro g cap w5 ho5 hc5
          have hrel2:=yA (show Grown w1 aP 1 (kE c now ws (k+1)) (.slice (some ⟨g,0,none⟩) ((kE c now ws k).length+1) cap) w5 from by
           rw [HWN.out,HAE.out];exact HG4.out.app (Keep.alloc (fun _=>False) _ _) ho5 hc5)
          have HR5:=yA (show c7 w c H0 H8 w5 from by
           have hA:=HR4.out.one (.cells #[.int .i64 A] 3);rcases hc5 with ⟨hv,hk5⟩ | ⟨_,hk5⟩
           · exact hA.keepX hk5 (fun he=>by have:=HG4.out.new _ he;have:=yK HW1.out.g;omega) (fun he=>by have:=HG4.out.new _ he;have:=yK HW1.out.r;omega) (fun i hi he=>by have:=HG4.out.new _ he;have:=HW1.out.below.size;omega)
           · exact hA.keepX hk5 id id (fun i hi he=>he))
          clear ho5 hc5;generalize (kE c now ws k).length=N at *;go_wp2_with fail
          go_roundw
          case rel=>exact yA ⟨k+1,by go_num,by omega,HA.out,HR5.out,hrel2.out⟩
          case measure=>simp [intOf];omega
        · have HE:=yA (show bO c now ws ds=E by
           have h1:=lh HX.out (by rw [HAE.out];exact h0) HALL.out;rw [HAE.out] at h1;rw [qt HC.out HT.out HSZ.out (by rw [h1];exact h0),h1])
          have HE0:=yA h0;have e1:(E==0)=false:=by simp [h0]
          have e2:(E != 0)=true:=by simp [h0]
          clear h0;obtain ⟨r0,r1,r2,rf⟩:=cells3 HR4.out.r;have HBW:=yA (HR4.out.write H8L.out (.int .i64 0) (.int .i64 0) (.slice none 0 0));have HQ:=yA (bC HR4.out.r (.int .i64 0) (.int .i64 0) (.slice none 0 0));go_wp2_with fail
          generalize ((W4.setCell ⟨H8,0,none⟩ (.int .i64 0)).setCell ⟨H8,1,none⟩ (.int .i64 0)).setCell ⟨H8,2,none⟩ (.slice none 0 0)=WF at *;obtain ⟨q0,q1,q2⟩:=HQ.out;exact yS (v:=.tuple #[.agg #[.int .i64 0,.int .i64 0,.slice none 0 0],.int .i64 E]) (by simp [results,Tryz.results56,go_sem,q0,q1,q2]) rfl (GraphPost.no HE.out HE0.out HBW.out)
      · obtain rfl:n=k:=by omega
        have HWE:=yA (lR (c:=c) (now:=now) (l:=ws) (fun j y hy=>HALL.out j y (by rw [←HN.out];exact (yD.1 hy).1) hy));have HBE:=yA (qu (ds:=ds) HC.out HT.out HSZ.out HWE.out);obtain ⟨wo,wcap,rfl,hwrd⟩:=HGR.out.shape;have HWL:=yA (qD (c:=c) (now:=now) (ws:=ws) (k:=n) (by rw [HN.out];exact yB _))
        have HWB:=yA (show ∀ b o,wo=some ⟨b,o,none⟩→o=0∧w1.heap.size≤b from fun b o h=>by
         subst h;rcases HGR.out.own.2 with ⟨h,_⟩ | ⟨g,cap,h,_⟩
         · cases h
         · cases h;exact ⟨rfl,HGR.out.new _ rfl⟩)
        have HWD:=yA hwrd;rw [HWL.out];clear HALL hlt hk hwrd HGR
        as_aux_lemma=>
         go_wp2_with fail
         go_loopw [15] (fun i wr=>Hid (∃ k:Nat,i = .int .i64 k∧k≤m∧(∀ (j:Nat) (y:ak),j<k→ds[j]?=some y→aR y.d=0)∧c7 w c H0 H8 wr∧RdC wr wo (cellsOf aP (kE c now ws n)))) (fun i _=>m - (intOf i).toNat)
         case atStart=>exact yA ⟨0,rfl,yQ _,fun j y h=>absurd h (Nat.not_lt_zero j),HR1.out,HWD.out⟩
         case round=>
          clear HWD;obtain ⟨k,rfl,hk,hall,hgh,hrow⟩:=hrel.out;clear hrel;have HALL:=yA hall;have HR1:=yA hgh;have HWD:=yA hrow;clear hall hgh hrow;by_cases hlt:k<m
          · obtain ⟨x,hx⟩:∃ x,ds[k]?=some x:=⟨ds[k]'(by rw [HM.out];exact hlt),yC _⟩
            obtain ⟨b,o,rfl,_⟩:=HDR.out.place (by rw [cellsOf_length _ 14 ak.cells_length,HM.out];omega);have HCE:=yA (kD (HDR.out.below HR1.out.below) hx);have HX:=yA hx;have HXO:=yA (HOD.out x (yP hx));clear hx;go_wp2_with (first | ((with_reducible refine aa (o:=⟨some 73,_,_,_,_,_⟩) ?_ 81 (.tmp 72) ?_ b (o+k*14) ?_ x.d.cells #[.int .u8 x.d.i0,.int .u8 x.d.i1,.int .u8 x.d.i2,.int .u8 x.d.i3,.int .u8 x.d.i4,.int .u8 x.d.i5,.int .u8 x.d.i6,.int .u8 x.d.i7,.int .i16 x.d.ax,.int .i16 x.d.ay,.int .u8 x.d.seats,.int .u8 x.d.cls,.int .i64 x.d.radius] ?_ _ HCE.out Tryz.underlying81 ?_ ?_ ?_);rfl;rfl;rfl;rfl;rfl;exact pg))
            refine (lV wr x.d HXO.out.d).mono ?_;rintro e w4 ⟨rfl,hb4⟩;have HR4:=yA (HR1.out.keep hb4);have HWD4:=yA (HWD.out.below hb4);clear hb4 HR1 HWD HCE HXO;obtain ⟨E,hE⟩:∃ E,aR x.d=E:=⟨_,rfl⟩;rw [hE];have HEE:=yA hE;clear hE;by_cases h0:E=0
            · have HA:=yA (show ∀ (j:Nat) (y:ak),j<k+1→ds[j]?=some y→aR y.d=0 from fun j y hj hy=>by
               rcases yW.1 hj with hj | rfl
               · exact HALL.out j y hj hy
               · rw [HX.out] at hy;cases hy;rw [HEE.out];exact h0)
              have e1:(E==0)=true:=by simp [h0]
              have e2:(E != 0)=false:=by simp [h0]
              clear h0;go_wp2_with fail
              go_roundw
              case rel=>exact yA ⟨k+1,by go_num,by omega,HA.out,HR4.out,HWD4.out⟩
              case measure=>simp [intOf];omega
            · have HE:=yA (show bO c now ws ds=E by
               have h1:=iy HX.out (by rw [HEE.out];exact h0) HALL.out;rw [HBE.out,h1,HEE.out])
              have HE0:=yA h0;have e1:(E==0)=false:=by simp [h0]
              have e2:(E != 0)=true:=by simp [h0]
              clear h0;obtain ⟨r0,r1,r2,rf⟩:=cells3 HR4.out.r;have HBW:=yA (HR4.out.write H8L.out (.int .i64 0) (.int .i64 0) (.slice none 0 0));have HQ:=yA (bC HR4.out.r (.int .i64 0) (.int .i64 0) (.slice none 0 0));go_wp2_with fail
              generalize ((w4.setCell ⟨H8,0,none⟩ (.int .i64 0)).setCell ⟨H8,1,none⟩ (.int .i64 0)).setCell ⟨H8,2,none⟩ (.slice none 0 0)=WF at *;obtain ⟨q0,q1,q2⟩:=HQ.out;exact yS (v:=.tuple #[.agg #[.int .i64 0,.int .i64 0,.slice none 0 0],.int .i64 E]) (by simp [results,Tryz.results56,go_sem,q0,q1,q2]) rfl (GraphPost.no HE.out HE0.out HBW.out)
          · obtain rfl:m=k:=by omega
            have HE:=yA (show bO c now ws ds=0 by rw [HBE.out];exact jv (fun j y hy=>HALL.out j y (by rw [←HM.out];exact (yD.1 hy).1) hy));clear HALL hlt hk HBE
            as_aux_lemma=>
             have HR9:=yA (HR1.out.one (.cells #[.int .i64 n,.int .i64 m,.slice none 0 0] 28));have HWD9:=yA (HWD.out.below ((yH wr.heap.size wr).alloc (yB _) (.cells #[.int .i64 n,.int .i64 m,.slice none 0 0] 28)));have HBOX:=yA (yE wr (.cells #[.int .i64 n,.int .i64 m,.slice none 0 0] 28));have HW9:=yA HR1.out.below.size;have HH89:=yA (yK HR1.out.r)
             have HWLT:=yA (show ∀ b o,wo=some ⟨b,o,none⟩→0<n→b<wr.heap.size from fun b o h hn0=>by
              obtain ⟨b',o',h',hc⟩:=HWD.out.place (by rw [cellsOf_length _ 1 aT,HWL.out];omega);rw [h] at h';cases h'
              obtain ⟨u,hu⟩:∃ u,(cellsOf aP (kE c now ws n))[0]?=some u:=⟨_,yC (by rw [cellsOf_length _ 1 aT,HWL.out];omega)⟩;exact yL wr _ (hc 0 u hu))
             go_wp2_with fail
             generalize wr.alloc (.cells #[.int .i64 n,.int .i64 m,.slice none 0 0] 28)=W9 at *;generalize wr.heap.size=H9 at *;refine (sk W9 ao bo n m c' c'' ws ds HN.out HM.out (HWR.out.below HR9.out.below) (HDR.out.below HR9.out.below) HOW.out HOD.out hn' hm').mono ?_;rintro e w3 ⟨pv,rfl,hpg⟩;obtain ⟨po,pcap,rfl,hprd⟩:=hpg.shape;have HR3:=yA (HR9.out.keep hpg.below);have HWD3:=yA (HWD9.out.below hpg.below);have HED:=yA (gd.begin ((Keep.of_below hpg.below (yB _) (fun _=>False)).old HBOX.out id));have HNB:=yA (show ∀ p ∈ bN ws ds,0≤p.r∧p.r<n∧0≤p.c∧p.c<m from fun p hp=>by have:=ou hp;rw [HN.out,HM.out] at this;exact this);have HPR:=yA hprd
             have HPB:=yA (show ∀ b o,po=some ⟨b,o,none⟩→0<(bN ws ds).length→b≠H9 from fun b o h hl he=>by
              rcases hpg.own.2 with ⟨h1,h2⟩ | ⟨g,cap,h1,_⟩
              · omega
              · cases h1
                cases h
                have h3:W9.heap.size≤b:=hpg.new b rfl;have:=yK HBOX.out;omega)
             have hlen:(bN ws ds).length≤4096:=by
              have k1:=jR ws ds;have k2:ws.length*ds.length≤64*64:=Nat.mul_le_mul (by rw [HN.out];exact h1) (by rw [HM.out];exact h2);omega
             obtain ⟨q,hq⟩:∃ q,(bN ws ds).length=q:=⟨_,rfl⟩;rw [hq] at hlen HPB ⊢;have HQL:=yA hq;clear hprd hpg hq HR9 HWD9 HBOX HR1 HWD;obtain ⟨i5,hi,hz0,hz1,hz2⟩:=cR gH;go_wp2_with fail
             go_loopw [19] (fun i wr=>Hid (∃ (k:Nat) (ev:Value),i = .int .i64 k∧k≤q∧gd w3 n m (((bN ws ds).take k).map (e8 c now ws)) ev H9 wr)) (fun i _=>q - (intOf i).toNat)
             case atStart=>exact yA ⟨0,.slice none 0 0,rfl,yQ _,HED.out⟩
             case round=>
              obtain ⟨k,ev,rfl,hk,hed⟩:=hrel.out;clear hrel;have HED1:=yA hed;clear hed;by_cases hlt:k<q
              · obtain ⟨p,hp⟩:∃ p,(bN ws ds)[k]?=some p:=⟨(bN ws ds)[k]'(by rw [HQL.out];exact hlt),yC _⟩
                obtain ⟨b,o,rfl,_⟩:=HPR.out.place (by rw [cellsOf_length _ 2 ag.cells_length,HQL.out];omega);have hbH9:b≠H9:=HPB.out b o rfl (by omega);obtain ⟨y0,y1⟩:=bi (HPR.out.keep HED1.out.keep (fun b' o' h=>HPB.out b' o' h (by omega))) hp;have hb3:b<w3.heap.size:=by obtain ⟨u0,_⟩:=bi HPR.out hp;exact yL w3 _ u0
                obtain ⟨v1,v2,v3,v4⟩:=HNB.out p (yP hp);obtain ⟨x,hx⟩:∃ x,ws[p.r.toNat]?=some x:=⟨ws[p.r.toNat]'(by rw [HN.out];omega),yC _⟩;have HEO:=yA (ot (c:=c) (now:=now) hx);obtain ⟨G,o0,rfl,_⟩:=HWD3.out.place (by rw [cellsOf_length _ 1 aT,HWL.out];omega);obtain ⟨rfl,_⟩:=HWB.out G o0 rfl;have hGH9:G<H9:=HWLT.out G 0 rfl (by omega);have hG3:G<w3.heap.size:=by have:=HED1.out.lt;omega
                have y3:=tg (HWD3.out.keep HED1.out.keep (fun b' o' h=>by cases h;omega)) (show (kE c now ws n)[p.r.toNat]?=some (wtP c now x).1 by
                 unfold kE;rw [zh (by rw [HN.out];exact yB _)];simp [hx])
                have HNEXT:=yA (dA (f:=e8 c now ws) hp);obtain ⟨g0,g1,y2,gf⟩:=cells3 HED1.out.box;have hLl:(((bN ws ds).take k).map (e8 c now ws)).length≤4096:=by rw [List.length_map,List.length_take];omega
                clear hp hx g0 g1 gf;generalize (wtP c now x).1=wt at *;obtain ⟨L,hL⟩:∃ L,((bN ws ds).take k).map (e8 c now ws)=L:=⟨_,rfl⟩;rw [hL] at HED1 HNEXT hLl;clear hL;go_wp2_with fail
                have HNO:=yA (show ∀ b,b<w3.heap.size→¬ ev.ownBlock=some b from fun b hb he=>by
                 have k1:=HED1.out.new b he;omega)
                have hneG:G≠H9:=by omega
                have HYS:=yA HED1.out.lt;have HPK:=yA (fun (w':World) (hk:Keep (fun _=>False) wr w')=>show w'.cell? ⟨H9,2,none⟩=some ev∧w'.cell? ⟨b,o+k*2,none⟩=some (.int .i64 p.r)∧w'.cell? ⟨b,o+k*2+1,none⟩=some (.int .i64 p.c)∧w'.cell? ⟨G,p.r.toNat,none⟩=some (.int .i64 wt) from ⟨hk.cell y2 id,hk.cell y0 id,hk.cell y1 id,hk.cell y3 id⟩);clear y0 y1 y2 y3;refine fa 21 (fun w'=>w'.cell? ⟨H9,2,none⟩=some ev∧w'.cell? ⟨b,o+k*2,none⟩=some (.int .i64 p.r)∧w'.cell? ⟨b,o+k*2+1,none⟩=some (.int .i64 p.c)∧w'.cell? ⟨G,p.r.toNat,none⟩=some (.int .i64 wt)) (by kernel_rfl) (by kernel_rfl) (fun _ _ _ _ _ h=>h) (HPK.out _ (Keep.drew _ _)) ?_;simp only [List.take_succ_cons,List.take_zero,List.drop_succ_cons,List.drop_zero]
                iterate 21 (
                 refine bg (v:=?_) (Or.inl ⟨by rfl,?_⟩) ?_
                 rotate_left
                 · intro w' hSw
                   try dsimp only at hSw
                   go_simp
                   try with_reducible rfl
                 try simp only [Act.put,yM,List.set_cons_zero,List.set_cons_succ])
                refine bs ?_;refine aC rfl (fun K hK=>?_);go_simp
                refine hK _ _ ⟨by first | exact HPK.out _ (Keep.of_below ((yH wr.heap.size wr).alloc (yB _) _) (yB _) _) | exact HPK.out _ (Keep.of_below (((yH wr.heap.size wr).alloc (yB _) _).drew) (yB _) _),?_⟩;clear hK K;try simp only [Act.put,yM,List.set_cons_zero,List.set_cons_succ]
                refine dw rfl (.tmp 94) (.tmp 114) 26 26 rfl 114 i5 na 3 24 Tryz.underlying26 hi hz0 hz1 hz2 rfl ev L.length (cellsOf ab.cells L) (by simp [Act.eval]) (HED1.out.own.keep (Keep.of_below (((yH wr.heap.size wr).alloc (yB _) _).drew) (yB _) (fun _=>False)) (fun _ _=>id)) (.slice (some ⟨wr.heap.size,0,none⟩) 1 1) 1 (ab.cells ⟨p.r,p.c,wt⟩) (by simp [Act.eval]) (Src.litDrew Tryz.underlying26 3 _ rfl (ab.cells_one _) _ _ (by first | rfl | simp [ab.cells])) (by unfold maxLen;omega) (by omega) ?_;intro ao2 q2 w5 ho2 hk2 hb2;have HO2:=yA ho2;have HS2:=yA hb2;have HK2:=yA hk2;have HKY:=yA (Keep.of_below (((yH wr.heap.size wr).alloc (yB _) (.cells #[.int .i64 p.r,.int .i64 p.c,.int .i64 wt] 114)).drew) (yB _) (fun _=>False));clear ho2 hk2 hb2;have HB5:=yA (HK2.out.old (HKY.out.old HED1.out.box id) (HNO.out _ HYS.out));obtain ⟨zz0,zz1,zz2,zf⟩:=cells3 HB5.out;clear HPK;have HN5:=yA (HED1.out.next (x:=⟨p.r,p.c,wt⟩) HKY.out HO2.out HK2.out HS2.out);rw [←HEO.out,←HNEXT.out] at HN5;go_wp2_with fail
                go_roundw
                case rel=>exact yA ⟨k+1,_,by go_num,by omega,HN5.out⟩
                case measure=>simp [intOf];omega
              · obtain rfl:q=k:=by omega
                have HEF:=yA (show (((bN ws ds).take q).map (e8 c now ws))=bj c now ws ds by rw [zh (by rw [HQL.out];exact yB _)];rfl);rw [HEF.out] at HED1;obtain ⟨ea,ec,rfl⟩:=HED1.out.own.sl;obtain ⟨g0,g1,g2,gf⟩:=cells3 HED1.out.box;have hb8:wr.heap[H8]?=some (.cells #[.int .i64 0,.int .i64 0,.slice none 0 0] 28 (0,0)):=HED1.out.keep.old HR3.out.r (by have:=HH89.out;omega);obtain ⟨r0,r1,r2,rf⟩:=cells3 hb8;have HGW:=yA ((HED1.out.grown HR3.out.below HW9.out).write H8L.out (fun g hg he=>by have:=HED1.out.new g hg;have:=HR3.out.r;have:=yK this;omega) (.int .i64 n) (.int .i64 m) (.slice ea (bj c now ws ds).length ec));have HQ:=yA (bC hb8 (.int .i64 n) (.int .i64 m) (.slice ea (bj c now ws ds).length ec));clear hb8;go_wp2_with fail
                generalize ((wr.setCell ⟨H8,0,none⟩ (.int .i64 n)).setCell ⟨H8,1,none⟩ (.int .i64 m)).setCell ⟨H8,2,none⟩ (.slice ea (bj c now ws ds).length ec)=WF at *;obtain ⟨q0,q1,q2⟩:=HQ.out;exact yS (v:=.tuple #[.agg #[.int .i64 n,.int .i64 m,.slice ea (bj c now ws ds).length ec],.int .i64 0]) (by simp [results,Tryz.results56,go_sem,q0,q1,q2]) rfl (GraphPost.yes HE.out HN.out HM.out HGW.out)
end Go.Proofs.YtcaicgipibcicaaGreat
