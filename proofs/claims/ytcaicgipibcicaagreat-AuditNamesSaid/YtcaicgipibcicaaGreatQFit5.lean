/- Chapter 13: requests and drivers that may be. -/
import Derived.Test.YtcaicgipibcicaaGreatQFit2
import Derived.Lib.QuietBelow
import Derived.BigQuiet
import Derived.Deep.RegionWith
import Derived.Laws.BitsAllLaws
set_option maxRecDepth 100000
set_option maxHeartbeats 4000000
set_option linter.unusedSimpArgs false
set_option linter.unusedVariables false
open Go renaming cell_regrown→xk,heap_alloc_new→wF
open Go.Lib renaming hid→wB
open Go.RowKit.Below renaming refl→wI
open Nat renaming le_refl→wC
namespace Go.Proofs.YtcaicgipibcicaaGreat
open Go.RowKit
def bt (c:ag) (r:aB):Int:=if aG c then (if iX c r then 0 else 1) else 160
def bc (d:iD):Int:=if gS d then 0 else 1
theorem jy {w w0 w1:World} (h:Below w.heap.size w w0) (k:Below w0.heap.size w0 w1):Below w.heap.size w w1:=h.trans (k.mono h.size)
theorem check_any (w:World) (c:ag) (r:aB):Calls Tryz.prog 29 #[.agg #[.int .i64 c.q,.int .i64 c.d,.int .i64 c.w,.int .i64 c.ttl,.int .i64 c.b],.agg #[.int .u8 r.i0,.int .u8 r.i1,.int .u8 r.i2,.int .u8 r.i3,.int .u8 r.i4,.int .u8 r.i5,.int .u8 r.i6,.int .u8 r.i7,.int .i16 r.fx,.int .i16 r.fy,.int .i16 r.tx,.int .i16 r.ty,.int .u8 r.seats,.int .u8 r.classes,.int .i64 r.base,.int .i64 r.ttl]] w fun e w'=>e = .returned (.int .i64 (bt c r))∧Below w.heap.size w w':=by
 have HB:=wB (((wI w.heap.size w).alloc (wC _) (.cells #[.int .i64 c.q,.int .i64 c.d,.int .i64 c.w,.int .i64 c.ttl,.int .i64 c.b] 23)).alloc (by simp) (.cells #[.int .u8 r.i0,.int .u8 r.i1,.int .u8 r.i2,.int .u8 r.i3,.int .u8 r.i4,.int .u8 r.i5,.int .u8 r.i6,.int .u8 r.i7,.int .i16 r.fx,.int .i16 r.fy,.int .i16 r.tx,.int .i16 r.ty,.int .u8 r.seats,.int .u8 r.classes,.int .i64 r.base,.int .i64 r.ttl] 77));go_enter Tryz.func29,Tryz.ntmps29
 go_wp2_with fail
 have hz:(w.alloc (.cells #[.int .i64 c.q,.int .i64 c.d,.int .i64 c.w,.int .i64 c.ttl,.int .i64 c.b] 23)).heap.size=w.heap.size+1:=by simp
 have hh0:=(Keep.alloc (fun _=>False) (w.alloc (.cells #[.int .i64 c.q,.int .i64 c.d,.int .i64 c.w,.int .i64 c.ttl,.int .i64 c.b] 23)) (.cells #[.int .u8 r.i0,.int .u8 r.i1,.int .u8 r.i2,.int .u8 r.i3,.int .u8 r.i4,.int .u8 r.i5,.int .u8 r.i6,.int .u8 r.i7,.int .i16 r.fx,.int .i16 r.fy,.int .i16 r.tx,.int .i16 r.ty,.int .u8 r.seats,.int .u8 r.classes,.int .i64 r.base,.int .i64 r.ttl] 77)).old (wF w (.cells #[.int .i64 c.q,.int .i64 c.d,.int .i64 c.w,.int .i64 c.ttl,.int .i64 c.b] 23)) id;have hh1:=wF (w.alloc (.cells #[.int .i64 c.q,.int .i64 c.d,.int .i64 c.w,.int .i64 c.ttl,.int .i64 c.b] 23)) (.cells #[.int .u8 r.i0,.int .u8 r.i1,.int .u8 r.i2,.int .u8 r.i3,.int .u8 r.i4,.int .u8 r.i5,.int .u8 r.i6,.int .u8 r.i7,.int .i16 r.fx,.int .i16 r.fy,.int .i16 r.tx,.int .i16 r.ty,.int .u8 r.seats,.int .u8 r.classes,.int .i64 r.base,.int .i64 r.ttl] 77);rw [hz] at hh1;have H0:=wB hh0;have H1:=wB hh1;clear hz hh0 hh1;generalize (w.alloc (.cells #[.int .i64 c.q,.int .i64 c.d,.int .i64 c.w,.int .i64 c.ttl,.int .i64 c.b] 23)).alloc (.cells #[.int .u8 r.i0,.int .u8 r.i1,.int .u8 r.i2,.int .u8 r.i3,.int .u8 r.i4,.int .u8 r.i5,.int .u8 r.i6,.int .u8 r.i7,.int .i16 r.fx,.int .i16 r.fy,.int .i16 r.tx,.int .i16 r.ty,.int .u8 r.seats,.int .u8 r.classes,.int .i64 r.base,.int .i64 r.ttl] 77)=W at *;generalize w.heap.size+1=H2 at *;refine (dN W c).mono ?_;rintro e w1 ⟨rfl,hb1⟩;have hk1:=Keep.of_below hb1 (wC _) (fun _=>False);have g0:=hk1.old H0.out id;have g1:=hk1.old H1.out id;have q3:w1.cell? ⟨w.heap.size,3,none⟩=some (.int .i64 c.ttl):=by simp [World.cell?,g0]
 have q4:w1.cell? ⟨w.heap.size,4,none⟩=some (.int .i64 c.b):=by simp [World.cell?,g0]
 have r12:w1.cell? ⟨H2,12,none⟩=some (.int .u8 r.seats):=by simp [World.cell?,g1]
 have r13:w1.cell? ⟨H2,13,none⟩=some (.int .u8 r.classes):=by simp [World.cell?,g1]
 have r14:w1.cell? ⟨H2,14,none⟩=some (.int .i64 r.base):=by simp [World.cell?,g1]
 have r15:w1.cell? ⟨H2,15,none⟩=some (.int .i64 r.ttl):=by simp [World.cell?,g1]
 have HB1:=wB (jy HB.out hb1);clear hb1 hk1 g0 g1;cases hc:aG c with
 | false=>
   have he:bt c r=160:=by simp [bt,hc]
   have HE:=wB he;have hce:aA c=160:=by simp [aA,hc]
   rw [hce];clear he hce hc;go_wp2_with fail
   go_ret
   exact ⟨by rw [HE.out];rfl,HB1.out⟩
 | true=>
   have he:bt c r=if iX c r then 0 else 1:=by simp [bt,hc]
   have HE:=wB he;have hce:aA c=0:=by simp [aA,hc]
   rw [hce];clear he hce hc;by_cases a1:r.seats=0
   · have b1:(r.seats==0)=true:=by simp [a1]
     have HM:=wB (show iX c r=false by simp [iX,a1]);clear a1;go_wp2_with fail
     go_ret
     exact ⟨by rw [HE.out,HM.out];rfl,HB1.out⟩
   have b1:(r.seats==0)=false:=by simp [a1]
   by_cases a2:r.classes=0
   · have b2:(r.classes==0)=true:=by simp [a2]
     have HM:=wB (show iX c r=false by simp [iX,a2]);clear a1 a2;go_wp2_with fail
     go_ret
     exact ⟨by rw [HE.out,HM.out];rfl,HB1.out⟩
   have b2:(r.classes==0)=false:=by simp [a2]
   by_cases a3:r.base<0
   · have HM:=wB (show iX c r=false by simp [iX];intro _ _ h;omega)
     clear a1 a2;go_wp2_with fail
     go_ret
     exact ⟨by rw [HE.out,HM.out];rfl,HB1.out⟩
   by_cases a4:c.b<r.base
   · have HM:=wB (show iX c r=false by simp [iX];intro _ _ _ h;omega)
     clear a1 a2;go_wp2_with fail
     go_ret
     exact ⟨by rw [HE.out,HM.out];rfl,HB1.out⟩
   have HM:=wB (show iX c r=bw r.ttl c.ttl by
    have h1:decide (r.seats≠0)=true:=by simp [a1]
    have h2:decide (r.classes≠0)=true:=by simp [a2]
    have h3:decide (0≤r.base∧r.base≤c.b)=true:=by simp;omega
    simp only [iX,h1,h2,h3,Bool.true_and])
   have a3':0≤r.base:=by omega
   have a4':r.base≤c.b:=by omega
   clear a1 a2 a3 a4;go_wp2_with fail
   refine (eB w1 r.ttl c.ttl).mono ?_;rintro e w2 ⟨rfl,rfl⟩;cases h5:bw r.ttl c.ttl with
   | false=>
     go_wp2_with fail
     go_ret
     exact ⟨by rw [HE.out,HM.out,h5];rfl,HB1.out⟩
   | true=>
     go_wp2_with fail
     go_ret
     exact ⟨by rw [HE.out,HM.out,h5];rfl,HB1.out⟩
end Go.Proofs.YtcaicgipibcicaaGreat
namespace Go.Proofs.YtcaicgipibcicaaGreat
open Go.RowKit Go.Sort
theorem lr (w:World) (d:iD):Calls Tryz.prog 84 #[.agg #[.int .u8 d.i0,.int .u8 d.i1,.int .u8 d.i2,.int .u8 d.i3,.int .u8 d.i4,.int .u8 d.i5,.int .u8 d.i6,.int .u8 d.i7,.int .i16 d.ax,.int .i16 d.ay,.int .u8 d.seats,.int .u8 d.cls,.int .i64 d.radius]] w fun e w'=>e = .returned (.int .i64 (bc d))∧Below w.heap.size w w':=by
 have HB:=wB ((wI w.heap.size w).alloc (wC _) (.cells #[.int .u8 d.i0,.int .u8 d.i1,.int .u8 d.i2,.int .u8 d.i3,.int .u8 d.i4,.int .u8 d.i5,.int .u8 d.i6,.int .u8 d.i7,.int .i16 d.ax,.int .i16 d.ay,.int .u8 d.seats,.int .u8 d.cls,.int .i64 d.radius] 81));by_cases a1:d.seats=0
 · have b1:(d.seats==0)=true:=by simp [a1]
   have HM:=wB (show bc d=1 by simp [bc,gS,a1]);clear a1;go_enter Tryz.func84,Tryz.ntmps84
   go_wp2_with fail
   go_ret
   exact ⟨by rw [HM.out];rfl,HB.out⟩
 have b1:(d.seats==0)=false:=by simp [a1]
 by_cases a2:7<d.cls
 · have HM:=wB (show bc d=1 by
    have:decide (d.cls≤7)=false:=by simp;omega
    simp [bc,gS,this])
   clear a1;go_enter Tryz.func84,Tryz.ntmps84
   go_wp2_with fail
   go_ret
   exact ⟨by rw [HM.out];rfl,HB.out⟩
 by_cases a3:d.radius<0
 · have HM:=wB (show bc d=1 by
    have:decide (0≤d.radius∧d.radius≤131070)=false:=by simp;omega
    simp [bc,gS,this])
   have a2':d.cls≤7:=by omega
   clear a1 a2;go_enter Tryz.func84,Tryz.ntmps84
   go_wp2_with fail
   go_ret
   exact ⟨by rw [HM.out];rfl,HB.out⟩
 by_cases a4:131070<d.radius
 · have HM:=wB (show bc d=1 by
    have:decide (0≤d.radius∧d.radius≤131070)=false:=by simp;omega
    simp [bc,gS,this])
   have a2':d.cls≤7:=by omega
   have a3':0≤d.radius:=by omega
   clear a1 a2 a3;go_enter Tryz.func84,Tryz.ntmps84
   go_wp2_with fail
   go_ret
   exact ⟨by rw [HM.out];rfl,HB.out⟩
 have HM:=wB (show bc d=0 by
  have h1:decide (0≤d.radius∧d.radius≤131070)=true:=by simp;omega
  have h2:decide (d.cls≤7)=true:=by simp;omega
  have h3:decide (d.seats≠0)=true:=by simp [a1]
  simp only [bc,gS,h1,h2,h3];rfl)
 have a2':d.cls≤7:=by omega
 have a3':0≤d.radius:=by omega
 have a4':d.radius≤131070:=by omega
 clear a1 a2 a3 a4;go_enter Tryz.func84,Tryz.ntmps84
 go_wp2_with fail
 go_ret
 exact ⟨by rw [HM.out];rfl,HB.out⟩
theorem below_drewN {B:Nat} {a w:World} (h:Below B a w) (n:Nat):Below B a (w.drewN n):=h.trans ⟨rfl,rfl,rfl,wC _,fun _ _=>rfl⟩
theorem mF (w:World) (a b:Int) (ha:aY a) (hb:aY b):Calls Tryz.prog 153 #[.int .i16 a,.int .i16 b] w fun e w'=>e = .returned (.int .i64 ((a - b).natAbs:Int))∧w=w':=by
 obtain ⟨a1,a2⟩:=ha;obtain ⟨b1,b2⟩:=hb;go_enter Tryz.func153,Tryz.ntmps153
 go_wp2_with fail
 all_goals
  go_ret
  refine ⟨?_,rfl⟩
  show Ending.returned (Value.int .i64 _)=_
  congr 2
  omega
theorem _root_.Go.Calls.same {P:Program} {f:FuncId} {args:Array Value} {w:World} {v:Value} (h:Calls P f args w fun e w'=>e = .returned v∧w=w'):Calls P f args w fun e w'=>e = .returned v∧w'=w:=
 h.mono fun _ _ ⟨h,hw⟩=>⟨h,hw.symm⟩
theorem tY (w:World) (ax ay bx by_:Int) (h1:aY ax) (h2:aY ay) (h3:aY bx) (h4:aY by_) :
 Calls Tryz.prog 116 #[.agg #[.int .i16 ax,.int .i16 ay],.agg #[.int .i16 bx,.int .i16 by_]] w fun e w'=>e = .returned (.int .i64 (gA ax ay bx by_))∧Below w.heap.size w w':=by
 have HB:=wB (((wI w.heap.size w).alloc (wC _) (.cells #[.int .i16 ax,.int .i16 ay] 75)).alloc (by simp) (.cells #[.int .i16 bx,.int .i16 by_] 75));have n1:(((ax - bx).natAbs:Nat):Int)≤65535:=by obtain ⟨_,_⟩:=h1;obtain ⟨_,_⟩:=h3;omega
 have n2:(((ay - by_).natAbs:Nat):Int)≤65535:=by obtain ⟨_,_⟩:=h2;obtain ⟨_,_⟩:=h4;omega
 have n3:(0:Int)≤(((ax - bx).natAbs:Nat):Int):=by omega
 have n4:(0:Int)≤(((ay - by_).natAbs:Nat):Int):=by omega
 have HX:=wB (fun w=>(mF w ax bx h1 h3).same);have HY:=wB (fun w=>(mF w ay by_ h2 h4).same);have HD:=wB (show gA ax ay bx by_=(((ax - bx).natAbs:Nat):Int)+(((ay - by_).natAbs:Nat):Int) from rfl);generalize (((ax - bx).natAbs:Nat):Int)=X at *;generalize (((ay - by_).natAbs:Nat):Int)=Y at *;go_enter Tryz.func116,Tryz.ntmps116
 go_wp2_with fail
 go_quiet (first | (go_at_call_of 153 ax;exact Calls.quiet_of_same (HX.out _)) | (go_at_call_of 153 ay;exact Calls.quiet_of_same (HY.out _)))
 go_wp2_with fail
 go_ret
 exact ⟨by rw [HD.out];rfl,below_drewN HB.out _⟩
def gB (r:aB) (d:iD):Int:=
 (if d.cls≤7∧eI r.classes d.cls=true then 0 else 1)+(if r.seats≤d.seats then 0 else 2)+(if gA d.ax d.ay r.fx r.fy≤d.radius then 0 else 4)
theorem sx (c k:Int) (h1:0≤c) (h2:c≤255) (h3:0≤k):(bits BinOp.and IntKind.u8 (c / 2 ^ k.toNat) 1==0)=!eI c k:=by
 obtain ⟨a,rfl⟩:=Int.eq_ofNat_of_zero_le h1;obtain ⟨b,rfl⟩:=Int.eq_ofNat_of_zero_le h3;have e:((a:Int) / 2 ^ ((b:Int).toNat))=((a / 2 ^ b:Nat):Int):=by simp
 have hlt:a / 2 ^ b<256:=Nat.lt_of_le_of_lt (Nat.div_le_self _ _) (by omega);have hb:=u8_and_nat (a / 2 ^ b) 1 hlt (by omega);rw [e];rw [show ((1:Nat):Int)=1 from rfl] at hb;rw [hb,Nat.and_one_is_mod];unfold eI;simp only [Int.toNat_natCast];rcases Nat.mod_two_eq_zero_or_one (a / 2 ^ b) with h | h <;> simp [h]
theorem oB (w:World) (r:aB) (d:iD) (hr:r.Ok) (hd:d.Ok):Calls Tryz.prog 69 #[.agg #[.int .u8 r.i0,.int .u8 r.i1,.int .u8 r.i2,.int .u8 r.i3,.int .u8 r.i4,.int .u8 r.i5,.int .u8 r.i6,.int .u8 r.i7,.int .i16 r.fx,.int .i16 r.fy,.int .i16 r.tx,.int .i16 r.ty,.int .u8 r.seats,.int .u8 r.classes,.int .i64 r.base,.int .i64 r.ttl],.agg #[.int .u8 d.i0,.int .u8 d.i1,.int .u8 d.i2,.int .u8 d.i3,.int .u8 d.i4,.int .u8 d.i5,.int .u8 d.i6,.int .u8 d.i7,.int .i16 d.ax,.int .i16 d.ay,.int .u8 d.seats,.int .u8 d.cls,.int .i64 d.radius]] w fun e w'=>e = .returned (.int .u8 (gB r d))∧Below w.heap.size w w':=by
 have HB:=wB (((wI w.heap.size w).alloc (wC _) (.cells #[.int .u8 r.i0,.int .u8 r.i1,.int .u8 r.i2,.int .u8 r.i3,.int .u8 r.i4,.int .u8 r.i5,.int .u8 r.i6,.int .u8 r.i7,.int .i16 r.fx,.int .i16 r.fy,.int .i16 r.tx,.int .i16 r.ty,.int .u8 r.seats,.int .u8 r.classes,.int .i64 r.base,.int .i64 r.ttl] 77)).alloc (by simp) (.cells #[.int .u8 d.i0,.int .u8 d.i1,.int .u8 d.i2,.int .u8 d.i3,.int .u8 d.i4,.int .u8 d.i5,.int .u8 d.i6,.int .u8 d.i7,.int .i16 d.ax,.int .i16 d.ay,.int .u8 d.seats,.int .u8 d.cls,.int .i64 d.radius] 81));have hz:(w.alloc (.cells #[.int .u8 r.i0,.int .u8 r.i1,.int .u8 r.i2,.int .u8 r.i3,.int .u8 r.i4,.int .u8 r.i5,.int .u8 r.i6,.int .u8 r.i7,.int .i16 r.fx,.int .i16 r.fy,.int .i16 r.tx,.int .i16 r.ty,.int .u8 r.seats,.int .u8 r.classes,.int .i64 r.base,.int .i64 r.ttl] 77)).heap.size=w.heap.size+1:=by simp
 have hh0:=(Keep.alloc (fun _=>False) (w.alloc (.cells #[.int .u8 r.i0,.int .u8 r.i1,.int .u8 r.i2,.int .u8 r.i3,.int .u8 r.i4,.int .u8 r.i5,.int .u8 r.i6,.int .u8 r.i7,.int .i16 r.fx,.int .i16 r.fy,.int .i16 r.tx,.int .i16 r.ty,.int .u8 r.seats,.int .u8 r.classes,.int .i64 r.base,.int .i64 r.ttl] 77)) (.cells #[.int .u8 d.i0,.int .u8 d.i1,.int .u8 d.i2,.int .u8 d.i3,.int .u8 d.i4,.int .u8 d.i5,.int .u8 d.i6,.int .u8 d.i7,.int .i16 d.ax,.int .i16 d.ay,.int .u8 d.seats,.int .u8 d.cls,.int .i64 d.radius] 81)).old (wF w (.cells #[.int .u8 r.i0,.int .u8 r.i1,.int .u8 r.i2,.int .u8 r.i3,.int .u8 r.i4,.int .u8 r.i5,.int .u8 r.i6,.int .u8 r.i7,.int .i16 r.fx,.int .i16 r.fy,.int .i16 r.tx,.int .i16 r.ty,.int .u8 r.seats,.int .u8 r.classes,.int .i64 r.base,.int .i64 r.ttl] 77)) id;have hh1:=wF (w.alloc (.cells #[.int .u8 r.i0,.int .u8 r.i1,.int .u8 r.i2,.int .u8 r.i3,.int .u8 r.i4,.int .u8 r.i5,.int .u8 r.i6,.int .u8 r.i7,.int .i16 r.fx,.int .i16 r.fy,.int .i16 r.tx,.int .i16 r.ty,.int .u8 r.seats,.int .u8 r.classes,.int .i64 r.base,.int .i64 r.ttl] 77)) (.cells #[.int .u8 d.i0,.int .u8 d.i1,.int .u8 d.i2,.int .u8 d.i3,.int .u8 d.i4,.int .u8 d.i5,.int .u8 d.i6,.int .u8 d.i7,.int .i16 d.ax,.int .i16 d.ay,.int .u8 d.seats,.int .u8 d.cls,.int .i64 d.radius] 81);rw [hz] at hh1;have H0:=wB hh0;have H1:=wB hh1;clear hz hh0 hh1;have HDI:=wB (fun w=>tY w d.ax d.ay r.fx r.fy hd.at_.1 hd.at_.2 hr.from_.1 hr.from_.2);obtain ⟨s1,s2⟩:=hr.seats;obtain ⟨s3,s4⟩:=hr.classes;obtain ⟨s5,s6⟩:=hd.seats;obtain ⟨s7,s8⟩:=hd.cls;have o1:bits BinOp.or IntKind.u8 0 1=1:=by decide
 have o2:bits BinOp.or IntKind.u8 0 2=2:=by decide
 have o3:bits BinOp.or IntKind.u8 1 2=3:=by decide
 have o4:bits BinOp.or IntKind.u8 0 4=4:=by decide
 have o5:bits BinOp.or IntKind.u8 1 4=5:=by decide
 have o6:bits BinOp.or IntKind.u8 2 4=6:=by decide
 have o7:bits BinOp.or IntKind.u8 3 4=7:=by decide
 have hbit:=sx r.classes d.cls s3 s4 s7
 have hcase:((if d.cls≤7∧eI r.classes d.cls=true then (0:Int) else 1)=1∧7<d.cls)∨((if d.cls≤7∧eI r.classes d.cls=true then (0:Int) else 1)=1∧d.cls≤7∧(bits BinOp.and IntKind.u8 (r.classes / 2 ^ d.cls.toNat) 1==0)=true)∨((if d.cls≤7∧eI r.classes d.cls=true then (0:Int) else 1)=0∧d.cls≤7∧(bits BinOp.and IntKind.u8 (r.classes / 2 ^ d.cls.toNat) 1==0)=false):=by
  by_cases a1:7<d.cls
  · exact .inl ⟨if_neg (by omega),a1⟩
  · cases hcl:eI r.classes d.cls with
    | true=>exact .inr (.inr ⟨if_pos ⟨by omega,rfl⟩,by omega,by rw [hbit,hcl];rfl⟩)
    | false=>exact .inr (.inl ⟨if_neg (by simp),by omega,by rw [hbit,hcl];rfl⟩)
 have hseat:((if r.seats≤d.seats then (0:Int) else 2)=0∧r.seats≤d.seats)∨((if r.seats≤d.seats then (0:Int) else 2)=2∧d.seats<r.seats):=by
  by_cases a:r.seats≤d.seats
  · exact .inl ⟨if_pos a,a⟩
  · exact .inr ⟨if_neg a,by omega⟩
 clear hbit;have HA:=wB (show gB r d=(if d.cls≤7∧eI r.classes d.cls=true then (0:Int) else 1)+(if r.seats≤d.seats then (0:Int) else 2)+(if gA d.ax d.ay r.fx r.fy≤d.radius then (0:Int) else 4) from rfl);generalize (if d.cls≤7∧eI r.classes d.cls=true then (0:Int) else 1)=A at *;generalize (if r.seats≤d.seats then (0:Int) else 2)=B at *;rcases hcase with ⟨rfl,a1⟩ | ⟨rfl,a1,a2⟩ | ⟨rfl,a1,a2⟩ <;> rcases hseat with ⟨rfl,a3⟩ | ⟨rfl,a3⟩
 all_goals
  go_enter Tryz.func69,Tryz.ntmps69
  go_wp2_with fail
  generalize (w.alloc (.cells #[.int .u8 r.i0,.int .u8 r.i1,.int .u8 r.i2,.int .u8 r.i3,.int .u8 r.i4,.int .u8 r.i5,.int .u8 r.i6,.int .u8 r.i7,.int .i16 r.fx,.int .i16 r.fy,.int .i16 r.tx,.int .i16 r.ty,.int .u8 r.seats,.int .u8 r.classes,.int .i64 r.base,.int .i64 r.ttl] 77)).alloc (.cells #[.int .u8 d.i0,.int .u8 d.i1,.int .u8 d.i2,.int .u8 d.i3,.int .u8 d.i4,.int .u8 d.i5,.int .u8 d.i6,.int .u8 d.i7,.int .i16 d.ax,.int .i16 d.ay,.int .u8 d.seats,.int .u8 d.cls,.int .i64 d.radius] 81)=W at *;generalize w.heap.size+1=H2 at *;have k0:=xk (show W.cell? ⟨w.heap.size,8,none⟩=some (.int .i16 r.fx) by simp [World.cell?,H0.out]);have k1:=xk (show W.cell? ⟨w.heap.size,9,none⟩=some (.int .i16 r.fy) by simp [World.cell?,H0.out]);have k2:=xk (show W.cell? ⟨H2,8,none⟩=some (.int .i16 d.ax) by simp [World.cell?,H1.out]);have k3:=xk (show W.cell? ⟨H2,9,none⟩=some (.int .i16 d.ay) by simp [World.cell?,H1.out]);have k4:=xk (show W.cell? ⟨H2,12,none⟩=some (.int .i64 d.radius) by simp [World.cell?,H1.out]);have cQ:∀ dd os,Calls Tryz.prog 116 #[.agg #[.int .i16 d.ax,.int .i16 d.ay],.agg #[.int .i16 r.fx,.int .i16 r.fy]] (grow (redrawn W dd) os) fun e w''=>e = .returned (.int .i64 (gA d.ax d.ay r.fx r.fy))∧∃ p:Regrown,w''=grow (redrawn W p.d) p.os:=fun dd os=>Calls.regrown_of (HDI.out _)
  refine wp_region_quiet_below (by kernel_rfl) (by kernel_rfl) ?_
  repeat (go_big_quiet_step (exact cQ _ _))
  refine wpQuiet_nil ?_;intro _ hw';obtain ⟨⟨dq,osq⟩,hw''⟩:=hw';subst hw'';have HBX:=wB (jy HB.out (below_regrown W dq osq));clear k0 k1 k2 k3 k4 cQ;generalize grow (redrawn W dq) osq=WX at *;by_cases a9:gA d.ax d.ay r.fx r.fy≤d.radius
  · have hF:(if gA d.ax d.ay r.fx r.fy≤d.radius then (0:Int) else 4)=0:=if_pos a9
    rw [hF] at HA;clear hF;go_wp2_with fail
    go_ret
    exact ⟨by rw [HA.out];first | rfl | (simp only [o1,o2,o3];rfl),HBX.out⟩
  · have hF:(if gA d.ax d.ay r.fx r.fy≤d.radius then (0:Int) else 4)=4:=if_neg a9
    rw [hF] at HA;clear hF;have a9':d.radius<gA d.ax d.ay r.fx r.fy:=by omega
    go_wp2_with fail
    go_ret
    exact ⟨by rw [HA.out];first | rfl | (simp only [o1,o2,o3,o4,o5,o6,o7];rfl),HBX.out⟩
end Go.Proofs.YtcaicgipibcicaaGreat
