/- AuditLogs: the walk. -/
import Derived.Test.YtcaicgipibcicaaGreatQAuLog
import Derived.Test.YtcaicgipibcicaaGreatQRowB
import Derived.Lib.QuietBelow
import Derived.Test.YtcaicgipibcicaaGreatQHeldTail
import Derived.Test.YtcaicgipibcicaaGreatQBegins
set_option maxRecDepth 100000
set_option maxHeartbeats 16000000
set_option linter.unusedSimpArgs false
set_option linter.unusedVariables false
open Go renaming cell_of_row→wG,heap_alloc_new→wF
open Go.Lib renaming hid→wB
open List renaming getElem?_eq_getElem→wE
open Nat renaming le_refl→wC
namespace Go.Proofs.YtcaicgipibcicaaGreat
open Go.RowKit Go.Sort
def bS (b:List UInt8):List Int:=b.map fun x=>(x.toNat:Int)
theorem gG (b:List UInt8):cellsOf ah (bS b)=aS b:=by
 induction b with
 | nil=>rfl
 | cons x b ih=>simpa [bS,aS,cellsOf,ah] using ih
theorem mQ (b:List UInt8):(bS b).length=b.length:=by simp [bS]
theorem dR (b:List UInt8):Byt (bS b):=fun x hx=>by
 obtain ⟨y,_,rfl⟩:=List.mem_map.1 hx;have:=y.toNat_lt
 show (0:Int)≤(y.toNat:Int)∧(y.toNat:Int)≤255
 omega
theorem lL {w:World} {ao:Option Addr} {b:List UInt8} (h:Rd w ao b):RdC w ao (cellsOf ah (bS b)):=by
 rw [gG];rcases h with rfl | ⟨c,o,rfl,hc⟩
 · exact .inl rfl
 · refine .inr ⟨c,o,rfl,fun j u hu=>?_⟩
   simp only [aS,List.getElem?_map] at hu;by_cases hj:j<b.length
   · rw [wE hj] at hu
     cases hu
     exact hc j hj
   · rw [List.getElem?_eq_none (by omega)] at hu
     cases hu
theorem nu {w:World} {g k:Nat} {b:List UInt8} {s:UInt8} (h:Row w g (k+1) 1 (aS (b++[s]))):Rd w (some ⟨g,0,none⟩) b:=by
 refine .inr ⟨g,0,rfl,fun i hi=>?_⟩;rw [Nat.zero_add];refine h.cell i _ ?_;simp only [aS,List.getElem?_map];rw [List.getElem?_append_left hi,wE hi];rfl
theorem vV (d:Nat) (w:World) (x0 y0 x1 y1 x2 y2:Int):(Op.equalIn (d+2) 62 (.agg #[.int .i64 x0,.int .i64 x1,.int .i64 x2]) (.agg #[.int .i64 y0,.int .i64 y1,.int .i64 y2])).run Tryz.prog w = .ok ((x0==y0 && (x1==y1 && x2==y2))) w:=by
 refine oM Tryz.underlying62 (by kernel_rfl) ?_;refine cE (by rfl) (by go_simp;rfl) (by go_simp;rfl) (by go_simp) ?_;refine cE (by rfl) (by go_simp;rfl) (by go_simp;rfl) (by go_simp) ?_;exact i9 (by rfl) (by go_simp;rfl) (by go_simp;rfl) (by go_simp)
theorem jd (x0 x1 x2:Int) (w:World):(Op.equalIn 10000 62 (.agg #[.int .i64 x0,.int .i64 x1,.int .i64 x2]) (.agg #[.int .i64 x0,.int .i64 x1,.int .i64 x2])).run Tryz.prog w = .ok true w:=by
 rw [vV 9998 w x0 x0 x1 x1 x2 x2];simp
theorem uv {x y:Int} (hx:0≤x∧x≤255) (hy:0≤y∧y≤255) (h0:y≠0):(0≤bits .xor .u8 x y∧bits .xor .u8 x y≤255)∧bits .xor .u8 x y≠x:=by
 obtain ⟨a,rfl⟩:∃ a:Nat,x=a:=⟨x.toNat,by omega⟩;obtain ⟨b,rfl⟩:∃ b:Nat,y=b:=⟨y.toNat,by omega⟩;rw [u8_xor_nat a b (by omega) (by omega)];have:=Nat.xor_lt_two_pow (n:=8) (show a<2 ^ 8 by omega) (show b<2 ^ 8 by omega);refine ⟨by omega,fun e=>h0 ?_⟩;have e2:a ^^^ b=a:=by omega
 have:b=0:=by
  have:=congrArg (a ^^^ ·) e2
  simpa [←Nat.xor_assoc] using this
 omega
theorem qD (l:List Int) (k:Nat) (y:Int):cellsOf ah (l.set k y)=(cellsOf ah l).set k (.int .u8 y):=by
 induction l generalizing k with
 | nil=>rfl
 | cons x l ih=>
   cases k with
   | zero=>rfl
   | succ k=>simpa [cellsOf,ah] using ih k
theorem oX (w:World) (ao:Option Addr) (n cap:Nat) (b:List UInt8) (at_ by_:Int) (hat:ar at_) (hby:0≤by_∧by_≤255) (hbk:b.length=n) (hrb:Rd w ao b) (hcap:n≤cap) (hn:n≤9223372036854775807) (hlow:∀ a,ao=some a→a.block<w.heap.size) :
 Calls Tryz.prog 6 #[.slice ao n cap,.int .i64 at_,.int .u8 by_] w fun e w'=>e = .returned (.bool true)∧Below w.heap.size w w':=by
 have HL:=wB hbk;have HRB:=wB hrb;have HCP:=wB hcap;have HLO:=wB hlow;have HAT:=wB hat
 have HBY:=wB hby;have HCE:=wB (show (w.alloc (.cells #[.int .i64 (n:Int)] 3)).cell? ⟨w.heap.size,0,none⟩=some (.int .i64 (n:Int)) by rw [wG _ _ _ _ _ (0,0) (wF w _)];rfl);have HB0:=wB (ck w (.cells #[.int .i64 (n:Int)] 3));clear hbk hrb hcap hlow hat hby;go_enter Tryz.func6,Tryz.ntmps6
 go_wp2_with fail
 refine (kU _ w.heap.size n HCE.out ⟨by omega,by omega⟩).mono ?_;rintro e w1 ⟨rfl,rfl⟩;generalize w.alloc (.cells #[.int .i64 (n:Int)] 3)=w1 at *;by_cases hbig:1048576<n
 · have b1:decide ((1048576:Int)<(n:Int))=true:=decide_eq_true (by omega)
   go_wp2_with fail
   go_ret
   exact ⟨rfl,HB0.out⟩
 · have b1:decide ((1048576:Int)<(n:Int))=false:=decide_eq_false (by omega)
   have HM:=wB (show n≤1048576 by omega);clear hn;go_wp2_with fail
   refine (jO w1 ao n cap b HL.out (Below.rd HB0.out HRB.out (wC _)) (by omega)).mono ?_;rintro e w2 ⟨rfl,hrow,hb2⟩;obtain ⟨G,hG⟩:∃ G,w1.heap.size=G:=⟨_,rfl⟩;have HROW:=wB hrow;rw [hG] at HROW;try rw [hG]
   have HB2:=wB (Below.next HB0.out hb2);clear hrow hb2 hG b1;go_wp2_with fail
   obtain ⟨p1,p2,hp⟩:∃ (p1:Nat) (p2:Int),bR (bS b)=(p1,p2):=⟨_,_,rfl⟩;have HLP:=wB hp;have HLB:=wB (show (bS b).length=n from by rw [mQ,HL.out]);refine (eF w2 (some ⟨G,0,none⟩) n (n+1) (bS b) HLB.out (dR b) HM.out (Nat.le_succ n) (lL (nu HROW.out)) (fun a e=>by cases e;exact HROW.out.lt)).mono ?_;rintro e w3 ⟨hb3,rfl⟩;rw [hp];clear hp;have HB3:=wB (Below.next HB2.out hb3);clear hb3;have HB4:=wB (Below.next HB3.out (ck w3 (.cells #[.int .i64 (p1:Int),.int .i64 (p1:Int),.int .i64 p2] 62)));have HT4:=wB (wF w3 (.cells #[.int .i64 (p1:Int),.int .i64 (p1:Int),.int .i64 p2] 62));go_upto_region 4 with (first | ((with_reducible refine aj (o:=⟨none,.store 62 (.tmp 7) (.tmp 17),_,_,_,_⟩) ?_ 62 (.tmp 7) (.tmp 17) ?_ _ #[.int .i64 (p1:Int),.int .i64 (p1:Int),.int .i64 p2] ?_ ?_ [.int .i64 (p1:Int),.int .i64 (p1:Int),.int .i64 p2] ?_ ?_ ?_ (pU p1 p1 p2) ?_);rfl;rfl;rfl;rfl;rfl;exact cA;rfl))
   obtain ⟨T,hT⟩:∃ T,w3.heap.size=T:=⟨_,rfl⟩;rw [hT] at HT4;try rw [hT]
   clear hT;generalize w3.alloc (.cells #[.int .i64 (p1:Int),.int .i64 (p1:Int),.int .i64 p2] 62)=w4 at *;have k2:w4.cell? ⟨T,2,none⟩=some (.int .i64 p2):=by rw [wG _ _ _ _ _ (0,0) HT4.out];rfl
   have HLV:=wB (fun (wx:World)=>jN wx);by_cases hz2:p2=0
   · by_cases hy0:by_=0
     · have b3:(p2 != 0)=false:=by simp [hz2]
       have b4:(by_==0)=true:=by simp [hy0]
       clear hz2 hy0;go_wp2_with fail
       refine (HLV.out _).mono ?_;rintro e w5 ⟨rfl,hb5⟩;have HE:=wB (Below.next HB4.out hb5);clear hb5;go_wp2_with fail
       go_ret
       exact ⟨rfl,HE.out⟩
     · by_cases hn0:n=0
       · have b3:(p2 != 0)=false:=by simp [hz2]
         have b4:(by_==0)=false:=by simp [hy0]
         have b5:((n:Int)==0)=true:=by simp [hn0]
         clear hz2 hy0 hn0;go_wp2_with fail
         refine (HLV.out _).mono ?_;rintro e w5 ⟨rfl,hb5⟩;have HE:=wB (Below.next HB4.out hb5);clear hb5;go_wp2_with fail
         go_ret
         exact ⟨rfl,HE.out⟩
       · have b3:(p2 != 0)=false:=by simp [hz2]
         have b4:(by_==0)=false:=by simp [hy0]
         have b5:((n:Int)==0)=false:=by simp [hn0]
         have HNP:=wB (show 0<n by omega);have HY0:=wB hy0;have HPZ:=wB (show bR (bS b)=(p1,0) from by rw [HLP.out,hz2]);obtain ⟨i5,hi,hz0,hz1,hzz⟩:=dF kM;clear hz2 hy0 hn0;go_upto_region 7 with fail
         have HRB4:=wB (Below.rd HB4.out HRB.out (wC _));go_wp2_with (at_builtin;refine bE rfl (.tmp 31) (.tmp 32) 59 59 rfl 5 i5 (.int .u8 0) 1 1 Tryz.underlying59 hi hz0 hz1 hzz rfl (.slice none 0 0) 0 [] rfl (Own.nil _ 1) (.slice ao n cap) n (aS b) rfl (Src.bytes Tryz.underlying59 ao n cap b HL.out HRB4.out) (.inl (by have:=HNP.out;omega)) (by unfold maxLen;have:=HM.out;omega) (by have:=HM.out;omega) ?_)
         intro g c5 w5 ho5 hk5 hg5;have HG5:=wB (show w4.heap.size≤g from hg5.resolve_left (fun e=>by cases e));have HB5:=wB (HB4.out.trans (hk5.below HB4.out.size (fun i hi e=>by cases e)));have HT5:=wB (hk5.old HT4.out (fun e=>by cases e));have HO5:=wB ho5;clear hg5 hk5 ho5 hi hz0 hz1 hzz i5 b3 b4 b5 k2;go_wp2_with fail
         refine (m6 w5 at_ n HNP.out (by have:=HM.out;omega) HAT.out).mono ?_;rintro e w6 ⟨⟨k,hkn,rfl⟩,hb6⟩;have HK:=wB hkn;have HB6:=wB (Below.next HB5.out hb6);have HK6:=wB (Keep.of_below hb6 (wC _) (fun _=>False));have HT6:=wB (HK6.out.old HT5.out id);have HO6:=wB (HO5.out.keep HK6.out (fun _ _=>id));obtain ⟨hlen6,h6⟩:=HO6.out
         obtain ⟨hc5,hrow6⟩:n≤c5∧Row w6 g c5 1 (aS b):=by
          rcases h6 with ⟨h6,_⟩ | ⟨g',c',h6,hnc,hcm,hr⟩
          · cases h6
          · cases h6
            exact ⟨hnc,hr⟩
         have HROW6:=wB hrow6;have HC5:=wB hc5;obtain ⟨x,hx⟩:∃ x,(bS b)[k]?=some x:=⟨(bS b)[k]'(by rw [HLB.out];exact hkn),wE _⟩
         have kc:w6.cell? ⟨g,k,none⟩=some (.int .u8 x):=by
          refine hrow6.cell k _ ?_;rw [←gG];have h1:=ei ah 1 dC (bS b) k x hx 0 (by omega)
          simpa [ah] using h1
         have kf:w6.frozen? ⟨g,k,none⟩=false:=hrow6.free k (by omega);have HX:=wB hx;obtain ⟨y,hy⟩:∃ y,bits .xor .u8 x by_=y:=⟨_,rfl⟩;have HYX:=wB (show (0≤y∧y≤255)∧y≠x from by rw [←hy];exact uv (dR b x (List.mem_of_getElem? hx)) HBY.out HY0.out);clear hlen6 h6 hrow6 hc5 hx hb6 hkn;go_upto_region 10 with fail
         have HK7:=wB (aJ w6 g k (.int .u8 y));have HB7:=wB (HB6.out.trans (HK7.out.below HB6.out.size (fun i hi e=>by have:=HG5.out;have:=HB4.out.size;omega)));have HT7:=wB (HK7.out.old HT6.out (fun e=>by have:=lt_of_block HT4.out;have:=HG5.out;omega))
         have HRW7:=wB (show Row (w6.setCell ⟨g,k,none⟩ (.int .u8 y)) g c5 1 (cellsOf ah ((bS b).set k y)) from by
          rw [qD,gG];exact HROW6.out.setB1 k _ (by have:=HK.out;have:=HC5.out;omega))
         clear kc kf hy;generalize w6.setCell ⟨g,k,none⟩ (.int .u8 y)=w7 at *;have HBL:=wB ((dR b).set HYX.out.1 k);have HLL:=wB (show ((bS b).set k y).length=n from by rw [List.length_set,HLB.out]);have HRC:=wB (show RdC w7 (some ⟨g,0,none⟩) (cellsOf ah ((bS b).set k y)) from .inr ⟨g,0,rfl,fun j u hu=>by rw [Nat.zero_add];exact HRW7.out.cell j u hu⟩);obtain ⟨q1,q2,hq⟩:∃ (q1:Nat) (q2:Int),bR ((bS b).set k y)=(q1,q2):=⟨_,_,rfl⟩;have hlt:=qe (l:=bS b) (j:=k) (y:=y) (dR b) HYX.out.1 (by rw [HPZ.out]) (by rw [HLB.out];exact HK.out) (by rw [HX.out];intro e;cases e;exact HYX.out.2 rfl);rw [hq,HPZ.out] at hlt;simp only at hlt;obtain ⟨rfl,hle⟩:=hlt;have HQ:=wB hq;have HLE:=wB hle;clear hq hle;go_wp2_with fail
         refine (eF w7 (some ⟨g,0,none⟩) n c5 ((bS b).set k y) HLL.out HBL.out HM.out HC5.out HRC.out (fun a e=>by cases e;exact HRW7.out.lt)).mono ?_;rintro e w8 ⟨hb8,rfl⟩;rw [HQ.out];have HB8:=wB (Below.next HB7.out hb8);have HT8:=wB ((Keep.of_below hb8 (wC _) (fun _=>False)).old HT7.out id);clear hb8;have HB9:=wB (Below.next HB8.out (ck w8 (.cells #[.int .i64 (q1:Int),.int .i64 (q1:Int),.int .i64 250] 62)));have HU9:=wB (wF w8 (.cells #[.int .i64 (q1:Int),.int .i64 (q1:Int),.int .i64 250] 62));have HT9:=wB ((Keep.alloc (fun _=>False) w8 (.cells #[.int .i64 (q1:Int),.int .i64 (q1:Int),.int .i64 250] 62)).old HT8.out id);go_upto_region 11 with (first | ((with_reducible refine aj (o:=⟨none,.store 62 (.tmp 10) (.tmp 48),_,_,_,_⟩) ?_ 62 (.tmp 10) (.tmp 48) ?_ _ #[.int .i64 (q1:Int),.int .i64 (q1:Int),.int .i64 250] ?_ ?_ [.int .i64 (q1:Int),.int .i64 (q1:Int),.int .i64 250] ?_ ?_ ?_ (pU q1 q1 250) ?_);rfl;rfl;rfl;rfl;rfl;exact cA;rfl))
         obtain ⟨U,hU⟩:∃ U,w8.heap.size=U:=⟨_,rfl⟩;rw [hU] at HU9;try rw [hU]
         clear hU;generalize w8.alloc (.cells #[.int .i64 (q1:Int),.int .i64 (q1:Int),.int .i64 250] 62)=w9 at *;have k0:w9.cell? ⟨T,0,none⟩=some (.int .i64 p1):=by rw [wG _ _ _ _ _ (0,0) HT9.out];rfl
         have m0:w9.cell? ⟨U,0,none⟩=some (.int .i64 q1):=by rw [wG _ _ _ _ _ (0,0) HU9.out];rfl
         have m1:w9.cell? ⟨U,1,none⟩=some (.int .i64 q1):=by rw [wG _ _ _ _ _ (0,0) HU9.out];rfl
         have m2:w9.cell? ⟨U,2,none⟩=some (.int .i64 250):=by rw [wG _ _ _ _ _ (0,0) HU9.out];rfl
         have b6:decide ((q1:Int)≤(p1:Int))=true:=decide_eq_true (by have:=HLE.out;omega);go_wp2_with fail
         refine (HLV.out _).mono ?_;rintro e w10 ⟨rfl,hb10⟩;have HE:=wB (Below.next HB9.out hb10);clear hb10;go_wp2_with fail
         go_ret
         exact ⟨rfl,HE.out⟩
   · have b3:(p2 != 0)=true:=by simp [hz2]
     clear hz2;go_wp2_with fail
     refine (HLV.out _).mono ?_;rintro e w5 ⟨rfl,hb5⟩;have HE:=wB (Below.next HB4.out hb5);clear hb5;go_wp2_with fail
     go_ret
     exact ⟨rfl,HE.out⟩
def ej (t:Int):aw:={ bQ 13 5 with tick:=t }
theorem dw:aL ⟨2,2,2,10,4⟩ (ej 2)=1∧aL ⟨1,2,2,10,5⟩ (ej 2)=1∧aL ⟨1,2,0,10,5⟩ (ej 2)=160∧aL aM (ej 3)=262∧aL aM (ej 4)=260:=by decide +kernel
def cv:List Int:=co aM [ej 2]
theorem qE:aA aM=0:=by decide +kernel
theorem lM:bR cv=(1,0)∧bR (cv.take (cv.length - 1))=(0,250)∧bR (cv++[0])=(1,250):=by decide +kernel
end Go.Proofs.YtcaicgipibcicaaGreat
