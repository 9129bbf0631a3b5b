/- audit.Record: what the program says of a record. -/
import Derived.Test.YtcaicgipibcicaaGreatQEnc
import Derived.Test.YtcaicgipibcicaaGreatQRAudit
import Derived.Test.YtcaicgipibcicaaGreatQHeldTail
import Derived.Test.YtcaicgipibcicaaGreatQRowB
import Derived.Deep.MidRow
import Derived.Test.YtcaicgipibcicaaGreatQSame2
import Derived.Deep.RegionHeld3
import Derived.StillTailTactics
set_option maxRecDepth 100000
set_option maxHeartbeats 8000000
set_option linter.unusedSimpArgs false
set_option linter.unusedVariables false
open Go.Lib renaming hid→yA
open Go.RowKit.Below renaming refl→yH
open List renaming getElem?_eq_getElem→yC
namespace Go.Proofs.YtcaicgipibcicaaGreat
open Go.RowKit Go.Sort
def dS (c:ae) (t:Int):Int:=if bR c t then 0 else 262
def dT (c:ae) (x:aF):List Int:=[al c,dS c x.tick,bw x,il c x,iA c x,fN x.rows x.cols x.es x.ps x.ys x.zs]
theorem lC (c:ae) (x:aF):da (dT c x)=aO c x:=by
 unfold dT aO dS il iA;rcases fR c with ⟨h,_⟩ | ⟨h,_⟩
 · by_cases h3:bw x=0
   · cases h2:bR c x.tick <;> cases h4:bZ c x <;> cases h5:cM c x <;> simp [da,h,h3]
     intro h6;exact h6.symm
   · cases h2:bR c x.tick <;> cases h4:bZ c x <;> cases h5:cM c x <;> simp [da,h,h3]
 · simp [da,h]
theorem tL (w wr:World) (c:ae) (v:RV) (H0 H1:Nat) (h:cm w c v H0 H1 wr):Calls Tryz.prog 41 #[.pointer (some ⟨H0,0,none⟩)] wr fun e w'=>e = .returned (.int .i64 (al c))∧Below wr.heap.size wr w':=by
 have HW:=yA h;clear h;go_enter Tryz.func41,Tryz.ntmps41
 go_wp2_with (first | ((with_reducible refine aa (o:=⟨some 2,_,_,_,_,_⟩) ?_ 23 (.tmp 0) ?_ H0 (0) ?_ c.cells #[.int .i64 c.q,.int .i64 c.d,.int .i64 c.w,.int .i64 c.ttl,.int .i64 c.b] ?_ _ (bA HW.out.g) Tryz.underlying23 ?_ ?_ ?_);rfl;rfl;rfl;rfl;rfl;exact aE))
 refine (fI wr c).mono ?_;rintro e w1 ⟨rfl,hb1⟩;have HB:=yA hb1;clear hb1;go_wp2_with fail
 go_ret
 exact ⟨rfl,HB.out⟩
theorem tM (w wr:World) (c:ae) (v:RV) (H0 H1:Nat) (h:cm w c v H0 H1 wr) (hc:aB c=true):Calls Tryz.prog 43 #[.pointer (some ⟨H1,0,none⟩),.pointer (some ⟨H0,0,none⟩)] wr fun e w'=>e = .returned (.int .i64 (dS c v.x.tick))∧Below wr.heap.size wr w':=by
 obtain ⟨g0,g1,g2,g3,g4,g5,g6,g7,g8⟩:=cells9 h.h;have q2:=(aL h.g).2.2.1
 have hw:1≤c.w:=by
  simp only [aB,bu,Bool.and_eq_true,decide_eq_true_eq] at hc;omega
 clear h hc;by_cases h1:1≤v.x.tick
 · by_cases h2:v.x.tick≤1099511627776
   · have hm:v.x.tick.tmod c.w=v.x.tick % c.w:=Int.tmod_eq_emod_of_nonneg (by omega)
     by_cases h3:v.x.tick % c.w=0
     · have HF:=yA (show dS c v.x.tick=0 by simp [dS,bR,h1,h2,h3])
       have e1:(v.x.tick % c.w != 0)=false:=by simp [h3]
       clear h3;go_enter Tryz.func43,Tryz.ntmps43
       go_wp2_with fail
       go_ret
       exact ⟨by rw [HF.out];rfl,yH _ _⟩
     · have HF:=yA (show dS c v.x.tick=262 by simp [dS,bR,h3])
       have e1:(v.x.tick % c.w != 0)=true:=by simp [h3]
       clear h3;go_enter Tryz.func43,Tryz.ntmps43
       go_wp2_with fail
       go_ret
       exact ⟨by rw [HF.out];rfl,yH _ _⟩
   · have HF:=yA (show dS c v.x.tick=262 by simp [dS,bR,h2])
     go_enter Tryz.func43,Tryz.ntmps43
     go_wp2_with fail
     go_ret
     exact ⟨by rw [HF.out];rfl,yH _ _⟩
 · have HF:=yA (show dS c v.x.tick=262 by simp [dS,bR,h1])
   go_enter Tryz.func43,Tryz.ntmps43
   go_wp2_with fail
   go_ret
   exact ⟨by rw [HF.out];rfl,yH _ _⟩
theorem tN (w wr:World) (c:ae) (v:RV) (H0 H1:Nat) (h:cm w c v H0 H1 wr) (hin:v.In wr):Calls Tryz.prog 44 #[.pointer (some ⟨H1,0,none⟩)] wr fun e w'=>e = .returned (.int .i64 (bw v.x))∧Below wr.heap.size wr w':=by
 obtain ⟨g0,g1,g2,g3,g4,g5,g6,g7,g8⟩:=cells9 h.h;have HIN:=yA hin;clear h hin;go_enter Tryz.func44,Tryz.ntmps44
 go_wp2_with fail
 refine (xH wr v HIN.out).mono ?_;rintro e w1 ⟨rfl,hb1⟩;have HB:=yA hb1;clear hb1;go_wp2_with fail
 go_ret
 exact ⟨rfl,HB.out⟩
theorem tO (w wr:World) (c:ae) (v:RV) (H0 H1:Nat) (h:cm w c v H0 H1 wr) (hin:v.In wr) (hrec:bw v.x=0):Calls Tryz.prog 46 #[.pointer (some ⟨H0,0,none⟩),.pointer (some ⟨H1,0,none⟩)] wr fun e w'=>e = .returned (.int .i64 (il c v.x))∧Below wr.heap.size wr w':=by
 obtain ⟨g0,g1,g2,g3,g4,g5,g6,g7,g8⟩:=cells9 h.h;have HIN:=yA hin;have HW:=yA h;have HREC:=yA hrec;clear h hin hrec;go_enter Tryz.func46,Tryz.ntmps46
 go_wp2_with (first | ((with_reducible refine aa (o:=⟨some 3,_,_,_,_,_⟩) ?_ 23 (.tmp 0) ?_ H0 (0) ?_ c.cells #[.int .i64 c.q,.int .i64 c.d,.int .i64 c.w,.int .i64 c.ttl,.int .i64 c.b] ?_ _ (bA HW.out.g) Tryz.underlying23 ?_ ?_ ?_);rfl;rfl;rfl;rfl;rfl;exact aE))
 refine (rz wr c v HIN.out HREC.out).mono ?_;rintro e w1 ⟨rfl,hb1⟩;have HB:=yA hb1;clear hb1;go_wp2_with fail
 go_ret
 exact ⟨rfl,HB.out⟩
theorem tP (w wr:World) (c:ae) (v:RV) (H0 H1:Nat) (h:cm w c v H0 H1 wr) (hin:v.In wr):Calls Tryz.prog 48 #[.pointer (some ⟨H0,0,none⟩),.pointer (some ⟨H1,0,none⟩)] wr fun e w'=>e = .returned (.int .i64 (iA c v.x))∧Below wr.heap.size wr w':=by
 obtain ⟨g0,g1,g2,g3,g4,g5,g6,g7,g8⟩:=cells9 h.h;have HIN:=yA hin;have HW:=yA h;clear h hin;go_enter Tryz.func48,Tryz.ntmps48
 go_wp2_with (first | ((with_reducible refine aa (o:=⟨some 3,_,_,_,_,_⟩) ?_ 23 (.tmp 0) ?_ H0 (0) ?_ c.cells #[.int .i64 c.q,.int .i64 c.d,.int .i64 c.w,.int .i64 c.ttl,.int .i64 c.b] ?_ _ (bA HW.out.g) Tryz.underlying23 ?_ ?_ ?_);rfl;rfl;rfl;rfl;rfl;exact aE))
 refine (uu wr c v HIN.out).mono ?_;rintro e w1 ⟨rfl,hb1⟩;have HB:=yA hb1;clear hb1;go_wp2_with fail
 go_ret
 exact ⟨rfl,HB.out⟩
theorem tQ (w wr:World) (c:ae) (v:RV) (H0 H1:Nat) (h:cm w c v H0 H1 wr) (hin:v.In wr):Calls Tryz.prog 50 #[.pointer (some ⟨H1,0,none⟩)] wr fun e w'=>e = .returned (.int .i64 (fN v.x.rows v.x.cols v.x.es v.x.ps v.x.ys v.x.zs))∧Below wr.heap.size wr w':=by
 obtain ⟨g0,g1,g2,g3,g4,g5,g6,g7,g8⟩:=cells9 h.h;have eb:=hin.eb;have pb:=hin.pb;have yb:=hin.yb;have zb:=hin.zb;have HIN:=yA hin;clear h hin;go_enter Tryz.func50,Tryz.ntmps50
 go_wp2_with fail
 refine (nN wr v.x.rows v.x.cols v.eo v.po v.yo v.zo v.en v.ec v.pn v.pc v.yn v.yc v.zn v.zc v.x.es v.x.ps v.x.ys v.x.zs HIN.out.el HIN.out.er (by omega) HIN.out.pl HIN.out.pr pb (by omega) (by omega) HIN.out.yl HIN.out.yr HIN.out.zl HIN.out.zr HIN.out.ok.ys).mono ?_;rintro e w1 ⟨rfl,hb1⟩;have HB:=yA hb1;clear hb1;go_wp2_with fail
 go_ret
 exact ⟨rfl,HB.out⟩
def looks (H0 H1:Nat):List (Nat × Array Value):=[(41,#[.pointer (some ⟨H0,0,none⟩)]),(43,#[.pointer (some ⟨H1,0,none⟩),.pointer (some ⟨H0,0,none⟩)]),(44,#[.pointer (some ⟨H1,0,none⟩)]),(46,#[.pointer (some ⟨H0,0,none⟩),.pointer (some ⟨H1,0,none⟩)]),(48,#[.pointer (some ⟨H0,0,none⟩),.pointer (some ⟨H1,0,none⟩)]),(50,#[.pointer (some ⟨H1,0,none⟩)])]
theorem rB (w:World) (H0 H1:Nat):∀ (k:Nat) (p:Nat × Array Value),(looks H0 H1)[k]?=some p→(w.alloc (.cells #[.func (.func 41) #[] #[.pointer (some ⟨H0,0,none⟩)],.func (.func 43) #[] #[.pointer (some ⟨H1,0,none⟩),.pointer (some ⟨H0,0,none⟩)],.func (.func 44) #[] #[.pointer (some ⟨H1,0,none⟩)],.func (.func 46) #[] #[.pointer (some ⟨H0,0,none⟩),.pointer (some ⟨H1,0,none⟩)],.func (.func 48) #[] #[.pointer (some ⟨H0,0,none⟩),.pointer (some ⟨H1,0,none⟩)],.func (.func 50) #[] #[.pointer (some ⟨H1,0,none⟩)]] 103)).cell? ⟨w.heap.size,k,none⟩=some (.func (.func p.1) #[] p.2):=by
 intro k p hp;rw [cell_of_row _ _ _ _ _ (0,0) (heap_alloc_new w _)]
 match k,hp with
 | 0,hp=>simp [looks] at hp;subst hp;rfl
 | 1,hp=>simp [looks] at hp;subst hp;rfl
 | 2,hp=>simp [looks] at hp;subst hp;rfl
 | 3,hp=>simp [looks] at hp;subst hp;rfl
 | 4,hp=>simp [looks] at hp;subst hp;rfl
 | 5,hp=>simp [looks] at hp;subst hp;rfl
theorem pR (args:Array Value) (w:World):(callFunc 41 args).run Tryz.prog w = .ok (.enter 41 args) w:=by kernel_rfl
theorem pS (args:Array Value) (w:World):(callFunc 43 args).run Tryz.prog w = .ok (.enter 43 args) w:=by kernel_rfl
theorem pT (args:Array Value) (w:World):(callFunc 44 args).run Tryz.prog w = .ok (.enter 44 args) w:=by kernel_rfl
theorem pU (args:Array Value) (w:World):(callFunc 46 args).run Tryz.prog w = .ok (.enter 46 args) w:=by kernel_rfl
theorem pV (args:Array Value) (w:World):(callFunc 48 args).run Tryz.prog w = .ok (.enter 48 args) w:=by kernel_rfl
theorem pW (args:Array Value) (w:World):(callFunc 50 args).run Tryz.prog w = .ok (.enter 50 args) w:=by kernel_rfl
theorem tR (H0 H1:Nat):∀ p ∈ looks H0 H1,∀ args w,(callFunc p.1 args).run Tryz.prog w = .ok (.enter p.1 args) w:=by
 intro p hp args w;simp only [looks,List.mem_cons,List.not_mem_nil,or_false] at hp;rcases hp with rfl | rfl | rfl | rfl | rfl | rfl
 · exact pR args w
 · exact pS args w
 · exact pT args w
 · exact pU args w
 · exact pV args w
 · exact pW args w
theorem tS (w wr:World) (c:ae) (v:RV) (H0 H1:Nat) (h:cm w c v H0 H1 wr) (hin:v.In wr) (k:Nat) (p:Nat × Array Value) (e:Int) (hp:(looks H0 H1)[k]?=some p) (he:(dT c v.x)[k]?=some e) (hz:∀ j:Nat,j<k→(dT c v.x)[j]?=some 0) :
 Calls Tryz.prog p.1 p.2 wr fun r w'=>r = .returned (.int .i64 e)∧Below wr.heap.size wr w':=by
 match k,hp,he,hz with
 | 0,hp,he,hz=>simp [looks,dT] at hp he;subst hp;subst he;exact tL w wr c v H0 H1 h
 | 1,hp,he,hz=>
   have h0:=hz 0 (by omega);simp [dT] at h0;simp [looks,dT] at hp he;subst hp;subst he;refine tM w wr c v H0 H1 h ?_;rcases fR c with ⟨_,q⟩ | ⟨q,_⟩
   · exact q
   · omega
 | 2,hp,he,hz=>simp [looks,dT] at hp he;subst hp;subst he;exact tN w wr c v H0 H1 h hin
 | 3,hp,he,hz=>
   have h2:=hz 2 (by omega);simp [dT] at h2;simp [looks,dT] at hp he;subst hp;subst he;exact tO w wr c v H0 H1 h hin h2
 | 4,hp,he,hz=>simp [looks,dT] at hp he;subst hp;subst he;exact tP w wr c v H0 H1 h hin
 | 5,hp,he,hz=>simp [looks,dT] at hp he;subst hp;subst he;exact tQ w wr c v H0 H1 h hin
theorem iS (w:World) (c:ae) (v:RV) (hin:v.In w):Calls Tryz.prog 13 #[.agg #[.int .i64 c.q,.int .i64 c.d,.int .i64 c.w,.int .i64 c.ttl,.int .i64 c.b],.agg #[.int .i64 v.x.tick,.slice v.wo v.wn v.wc,.slice v.ko v.kn v.kc,.int .i64 v.x.rows,.int .i64 v.x.cols,.slice v.eo v.en v.ec,.slice v.po v.pn v.pc,.slice v.yo v.yn v.yc,.slice v.zo v.zn v.zc]] w fun e w'=>e = .returned (.int .i64 (aO c v.x))∧Below w.heap.size w w':=by
 have hmf:∀ (fn:Fn) (first cap:Array Value) (w:World),(Instr.makeFunc fn first cap).run Tryz.prog w = .ok (.func fn first cap) w:=fun _ _ _ _=>rfl
 have HIN:=yA hin;clear hin;have HW:=yA (cm.begin w c v);go_enter Tryz.func13,Tryz.ntmps13
 go_upto_region 1 with fail
 generalize (w.alloc (.cells #[.int .i64 c.q,.int .i64 c.d,.int .i64 c.w,.int .i64 c.ttl,.int .i64 c.b] 23)).alloc (.cells #[.int .i64 v.x.tick,.slice v.wo v.wn v.wc,.slice v.ko v.kn v.kc,.int .i64 v.x.rows,.int .i64 v.x.cols,.slice v.eo v.en v.ec,.slice v.po v.pn v.pc,.slice v.yo v.yn v.yc,.slice v.zo v.zn v.zc] 34)=W at *;generalize w.heap.size+1=H1 at *;have HHE:=yA (show ∃ H0,w.heap.size=H0 from ⟨_,rfl⟩);obtain ⟨H0,hH0⟩:=HHE.out;rw [hH0] at HW;rw [hH0];have HH:=yA hH0;clear hH0 HHE;have HCL:=yA (rB W H0 H1);have HR0:=yA (HW.out.one (.cells #[.func (.func 41) #[] #[.pointer (some ⟨H0,0,none⟩)],.func (.func 43) #[] #[.pointer (some ⟨H1,0,none⟩),.pointer (some ⟨H0,0,none⟩)],.func (.func 44) #[] #[.pointer (some ⟨H1,0,none⟩)],.func (.func 46) #[] #[.pointer (some ⟨H0,0,none⟩),.pointer (some ⟨H1,0,none⟩)],.func (.func 48) #[] #[.pointer (some ⟨H0,0,none⟩),.pointer (some ⟨H1,0,none⟩)],.func (.func 50) #[] #[.pointer (some ⟨H1,0,none⟩)]] 103));go_upto_region 2 with fail
 generalize W.alloc (.cells #[.func (.func 41) #[] #[.pointer (some ⟨H0,0,none⟩)],.func (.func 43) #[] #[.pointer (some ⟨H1,0,none⟩),.pointer (some ⟨H0,0,none⟩)],.func (.func 44) #[] #[.pointer (some ⟨H1,0,none⟩)],.func (.func 46) #[] #[.pointer (some ⟨H0,0,none⟩),.pointer (some ⟨H1,0,none⟩)],.func (.func 48) #[] #[.pointer (some ⟨H0,0,none⟩),.pointer (some ⟨H1,0,none⟩)],.func (.func 50) #[] #[.pointer (some ⟨H1,0,none⟩)]] 103)=W0 at *;generalize W.heap.size=H2 at *;clear HW hmf;go_wp2_with fail
 go_loopw [18] (fun i wr=>Hid (∃ k:Nat,i = .int .i64 k∧k≤6∧(∀ j:Nat,j<k→(dT c v.x)[j]?=some 0)∧Below W0.heap.size W0 wr)) (fun i _=>6 - (intOf i).toNat)
 case atStart=>exact yA ⟨0,rfl,Nat.zero_le _,fun j hj=>absurd hj (Nat.not_lt_zero j),yH _ _⟩
 case round=>
  obtain ⟨k,rfl,hk,hall,hbel⟩:=hrel.out;clear hrel;have HALL:=yA hall;have HB:=yA hbel;clear hall hbel;by_cases hlt:k<6
  · obtain ⟨p,hp⟩:∃ p,(looks H0 H1)[k]?=some p:=⟨(looks H0 H1)[k]'(by simpa [looks] using hlt),yC _⟩
    obtain ⟨e,he⟩:∃ e,(dT c v.x)[k]?=some e:=⟨(dT c v.x)[k]'(by simpa [dT] using hlt),yC _⟩;have hc:=(Keep.of_below HB.out (Nat.le_refl _) (fun _=>False)).cell (HCL.out k p hp) id;have HR:=yA (HR0.out.keep HB.out);have HCALL:=yA (tS w wr c v H0 H1 HR.out (HIN.out.keep HR.out.below) k p e hp he HALL.out);have HE:=yA he;have hrun:=tR H0 H1 p (List.mem_of_getElem? hp);clear hp he;obtain ⟨g,cp⟩:=p;go_wp2_with fail
    refine HCALL.out.mono ?_;rintro r w2 ⟨rfl,hb2⟩;have HB2:=yA (Below.next HB.out hb2);clear hb2 hc hrun HCALL;by_cases h0:e=0
    · have HZ:=yA (show ∀ j:Nat,j<k+1→(dT c v.x)[j]?=some 0 from fun j hj=>by
       rcases Nat.lt_succ_iff_lt_or_eq.1 hj with hj | rfl
       · exact HALL.out j hj
       · rw [HE.out,h0])
      have h1:(e==0)=true:=by simp [h0]
      have h2:(e != 0)=false:=by simp [h0]
      clear h0;go_wp2_with fail
      go_roundw
      case rel=>exact yA ⟨k+1,by go_num,by omega,HZ.out,HB2.out⟩
      case measure=>simp [intOf];omega
    · have HZ:=yA ((lC c v.x).symm.trans (lg HE.out h0 HALL.out))
      have h1:(e==0)=false:=by simp [h0]
      have h2:(e != 0)=true:=by simp [h0]
      clear h0;go_wp2_with fail
      go_ret
      exact ⟨by rw [HZ.out];rfl,Below.next HR0.out.below HB2.out⟩
  · obtain rfl:6=k:=by omega
    have HZ:=yA ((lC c v.x).symm.trans (lN (l:=dT c v.x) (fun e he=>by
     obtain ⟨j,hj,rfl⟩:=List.getElem_of_mem he;have h1:=HALL.out j (by simpa [dT] using hj);rw [yC hj] at h1;exact Option.some.inj h1)))
    go_wp2_with fail
    go_ret
    exact ⟨by rw [HZ.out];rfl,Below.next HR0.out.below HB.out⟩
theorem rC (w:World) (g:Nat) (n:Int) (hc:w.cell? ⟨g,0,none⟩=some (.int .i64 n)) (hn:ar n) :
 Calls Tryz.prog 10 #[.slice (some ⟨g,0,none⟩) 1 1] w fun e w'=>e = .returned (.bool (decide (1048576<n)))∧w'=w:=by
 obtain ⟨n1,n2⟩:=hn;by_cases h:1048576<n
 · rw [decide_eq_true h]
   go_enter Tryz.func10,Tryz.ntmps10
   go_wp2_with fail
   refine wp_loop_rounds 2 ?_;rw [rounds_succ];go_wp2_with fail
   go_ret
   exact ⟨rfl,rfl⟩
 · rw [decide_eq_false h]
   go_enter Tryz.func10,Tryz.ntmps10
   go_wp2_with fail
   refine wp_loop_rounds 2 ?_;rw [rounds_succ];go_wp2_with fail
   rw [rounds_succ];go_wp2_with fail
   go_ret
   exact ⟨rfl,rfl⟩
theorem aW {P:Program} {fn:Func} {tmps:Array Value} {w:World} (a:Nat) (t:TypeId) (hr:fn.results=#[.cell a t]) (H:Nat) (ha:tmps.getD a undef = .pointer (some ⟨H,0,none⟩)) (cs:List Value) (V:Array Value) (hV:cs.toArray=V) (d:TypeDesc)
 (hc:∀ j u,cs[j]?=some u→w.cell? ⟨H,0+j,none⟩=some u) (hu:P.underlying t=some d) (hd:(match d with | .struct _ | .array _ _=>true | _=>false)=true) (hi:(P.info? t).map (·.size)=some cs.length):(results fn tmps).run P w = .ok (.agg V) w:=by
 have h:=bk (P:=P) w H 0 t cs d hc hu hd hi;rw [hV] at h;unfold results;rw [hr];rw [Array.getD_eq_getD_getElem?] at ha;simp [ha,asAddr,Sem.run_bind,h]
theorem eL {P:Program} {fn:Func} {tmps:Array Value} {w:World} (a:Nat) (t:TypeId) (hr:fn.results=#[.cell a t]) (H:Nat) (ha:tmps.getD a undef = .pointer (some ⟨H,0,none⟩)) (V:Array Value) (t':TypeId) (hb:w.heap[H]?=some (.cells V t' (0,0))) (d:TypeDesc)
 (hu:P.underlying t=some d) (hd:(match d with | .struct _ | .array _ _=>true | _=>false)=true) (hi:(P.info? t).map (·.size)=some V.size):(results fn tmps).run P w = .ok (.agg V) w:=
 aW a t hr H ha V.toList V (by simp) d (fun j u hu=>by rw [Nat.zero_add,cell_of_row w H j V t' (0,0) hb];simpa using hu) hu hd (by simpa using hi)
theorem bQ {w:World} {b o:Nat} {A B:List Value} (h1:w.rangeAt b o A) (h2:w.rangeAt b (o+A.length) B):w.rangeAt b o (A++B):=by
 intro j v hv;rw [List.getElem?_append] at hv;split at hv
 · exact h1 j v hv
 · rename_i hj
   have:=h2 (j - A.length) v hv;rw [show o+A.length+(j - A.length)=o+j by omega] at this;exact this
theorem aq {X:Nat→Prop} {w w':World} {b o n:Nat} (h:w.there b o n) (hk:Keep X w w') (hx:¬ X b):w'.there b o n:=fun j hj=>by
 obtain ⟨h1,h2⟩:=h j hj;obtain ⟨u,hu⟩:=Option.isSome_iff_exists.1 h1;refine ⟨by rw [hk.cell hu hx];rfl,?_⟩
 have hob:∃ ob,w.heap[b]?=some ob:=by
  cases hq:w.heap[b]? with
  | none=>simp [World.cell?,hq] at hu
  | some ob=>exact ⟨ob,rfl⟩
 obtain ⟨ob,hob⟩:=hob;have hob':=hk.old hob hx;unfold World.frozen? at h2 ⊢;simp only [hob,hob'] at h2 ⊢;exact h2
theorem f9 {w w':World} {b o n:Nat} (h:w.there b o n) (hb:Below w.heap.size w w'):w'.there b o n:=aq h (Keep.of_below hb (Nat.le_refl _) (fun _=>False)) id
theorem aS (w:World) (g o:Nat) (v:Value):Keep (fun k=>k=g) w (w.setCell ⟨g,o,none⟩ v):=Keep.setCells w g o [v]
theorem ke {P:Program} {ops:Array Oper} {w:World} {Q:Act→Prop} {a:Act} {o:Oper} {rest:List Oper} (hw:Region.wanted o (yielded ops a.tmps)=true) (ty:TypeId) (x:Operand) (ho:o.op = .load ty x)
 (b off:Nat) (hx:a.eval x = .pointer (some ⟨b,off,none⟩)) (cs:List Value) (V:Array Value) (hvs:cs.toArray=V) (d:TypeDesc) (hc:∀ j u,cs[j]?=some u→w.cell? ⟨b,off+j,none⟩=some u)
 (hu:P.underlying ty=some d) (hd:(match d with | .struct _ | .array _ _=>true | _=>false)=true) (hi:(P.info? ty).map (·.size)=some cs.length)
 (h:wpStill P ops w Q rest (a.put o.dst (.agg V))):wpStill P ops w Q (o::rest) a:=by
 refine wpStill_step fun K hK=>?_
 rw [if_pos hw];have hl:=bk (P:=P) w b off ty cs d hc hu hd hi;rw [hvs] at hl;unfold Oper.still execOp;simp only [ho,hx,Instr.loadAt,Instr.sureAddr,Sem.run_bind,Sem.run_pure,Result.andThen_ok,hl];exact ⟨rfl,hK _ h⟩
def iT (v:Value):Option (DataW Value × List MemPlace):=some (.held v,[])
structure aZ where
 w:ad
 tick:Int
 left:Bool
def aZ.cells (s:aZ):List Value:=s.w.cells++[.int .i64 s.tick,.bool s.left]
def aZ.V (s:aZ):Array Value:=s.cells.toArray
def gz:aZ:=⟨⟨⟨0,0,0,0,0,0,0,0,0,0,0,0,0,0,0,0⟩,0,0⟩,0,false⟩
theorem vl:(Tryz.prog.info? 117).map (·.size)=some 20:=by kernel_rfl
theorem rD (w:World):(zeroValue 117).run Tryz.prog w = .ok (.agg gz.V) w:=by kernel_rfl
theorem aZ.cells_one (s:aZ):∀ u ∈ s.cells,u.oneCell'=true:=by
 intro u hu;rcases List.mem_append.1 hu with h | h
 · exact s.w.cells_one u h
 · simp only [List.mem_cons,List.not_mem_nil,or_false] at h
   rcases h with rfl | rfl <;> rfl
def bU (m:List (List Int × aZ)) (id:List Int):Option aZ:=match m.find? (fun p=>decide (p.1=id)) with
 | none=>none
 | some p=>some p.2
noncomputable def kg:List (List Int × aZ)→DataW Value
 | []=>.map []
 | p::m=>(kg m).put (cI p.1) (.held (.agg p.2.V))
def pX (id:List Int):Prop:=∃ l,keyOf Tryz.prog 72 (idV id)=some l
theorem lD (m:List (List Int × aZ)):Maps.IsMap (kg m):=by
 cases m with
 | nil=>exact Maps.isMap_empty
 | cons p m=>
   have h:∀ m:List (List Int × aZ),Maps.IsMap (kg m):=by
    intro m
    induction m with
    | nil=>exact Maps.isMap_empty
    | cons p m ih=>exact ih.put _ _
   exact h _
theorem rE {m:List (List Int × aZ)} (hm:∀ p ∈ m,pX p.1) {id:List Int} (hid:pX id) (z:Value) :
 (kg m).atKey (cI id) (.held z) = .held (match bU m id with | none=>z | some s=>.agg s.V)∧Maps.has (kg m) (cI id)=(bU m id).isSome:=by
 induction m with
 | nil=>exact ⟨rfl,rfl⟩
 | cons p m ih=>
   obtain ⟨h1,h2⟩:=ih (fun q hq=>hm q (List.mem_cons_of_mem _ hq));have hp:=hm p List.mem_cons_self;by_cases he:p.1=id
   · subst he
     have hl:bU (p::m) p.1=some p.2:=by simp [bU]
     rw [hl];exact ⟨Maps.atKey_put_same (lD m) (mq hp) _ _,Maps.has_put_same (lD m) (mq hp) _⟩
   · have hne:cI id≠cI p.1:=fun e=>he ((ta hp hid).1 e.symm)
     have hl:bU (p::m) id=bU m id:=by simp [bU,he]
     rw [hl,←h1,←h2];exact ⟨Maps.atKey_put_other hne _ _,Maps.has_put_other hne _⟩
structure PAu where
 c:ae
 tick:Int
 m:List (List Int × aZ)
structure jG (a:PAu) (A M n:Nat) (w:World):Prop where
 box:w.heap[A]?=some (.cells #[.int .i64 a.c.q,.int .i64 a.c.d,.int .i64 a.c.w,.int .i64 a.c.ttl,.int .i64 a.c.b,.int .i64 a.tick,.map (some M)] 56 (0,0))
 own:w.ownsMap Tryz.prog 72 iT M n (kg a.m)
 keys:∀ p ∈ a.m,pX p.1
theorem jG.keepX {a:PAu} {A M n:Nat} {w w':World} {X:Nat→Prop} (h:jG a A M n w) (hk:Keep X w w') (h1:¬ X A) (h2:¬ X M):jG a A M n w':=by
 refine ⟨hk.old h.box h1,?_,h.keys⟩;obtain ⟨es,clock,hb,r⟩:=h.own;exact ⟨es,clock,hk.old hb h2,r⟩
theorem jG.keep {a:PAu} {A M n:Nat} {w w':World} (h:jG a A M n w) (hb:Below w.heap.size w w'):jG a A M n w':=h.keepX (Keep.of_below hb (Nat.le_refl _) (fun _=>False)) id id
theorem kT {w:World} {b:Nat} {a0 a1 a2 a3 a4 a5 a6:Value} {t:TypeId} (h:w.heap[b]?=some (.cells #[a0,a1,a2,a3,a4,a5,a6] t (0,0))) :
 w.cell? ⟨b,0,none⟩=some a0∧w.cell? ⟨b,1,none⟩=some a1∧w.cell? ⟨b,2,none⟩=some a2∧w.cell? ⟨b,3,none⟩=some a3∧w.cell? ⟨b,4,none⟩=some a4∧w.cell? ⟨b,5,none⟩=some a5∧w.cell? ⟨b,6,none⟩=some a6:=by
 refine ⟨?_,?_,?_,?_,?_,?_,?_⟩ <;> rw [cell_of_row w b _ _ t (0,0) h] <;> rfl
def bqW (x y:ad):Bool:=mr x.r.i0 y.r.i0 x.r.i1 y.r.i1 x.r.i2 y.r.i2 x.r.i3 y.r.i3 x.r.i4 y.r.i4 x.r.i5 y.r.i5 x.r.i6 y.r.i6 x.r.i7 y.r.i7 x.r.fx y.r.fx x.r.fy y.r.fy x.r.tx y.r.tx x.r.ty y.r.ty x.r.seats y.r.seats x.r.classes y.r.classes x.r.base y.r.base x.r.ttl y.r.ttl x.since y.since x.number y.number
theorem vm (x y:ad) (w:World):(Op.equalIn 10000 79 (.agg x.cells.toArray) (.agg y.cells.toArray)).run Tryz.prog w = .ok (bqW x y) w:=vM x.r.i0 y.r.i0 x.r.i1 y.r.i1 x.r.i2 y.r.i2 x.r.i3 y.r.i3 x.r.i4 y.r.i4 x.r.i5 y.r.i5 x.r.i6 y.r.i6 x.r.i7 y.r.i7 x.r.fx y.r.fx x.r.fy y.r.fy x.r.tx y.r.tx x.r.ty y.r.ty x.r.seats y.r.seats x.r.classes y.r.classes x.r.base y.r.base x.r.ttl y.r.ttl x.since y.since x.number y.number w
theorem te (x y:ad):bqW x y=true↔x=y:=by
 unfold bqW;rw [qk];constructor
 · intro h
   obtain ⟨⟨_,_,_,_,_,_,_,_,_,_,_,_,_,_,_,_⟩,_,_⟩:=x;obtain ⟨⟨_,_,_,_,_,_,_,_,_,_,_,_,_,_,_,_⟩,_,_⟩:=y;simp only at h;obtain ⟨h0,h1,h2,h3,h4,h5,h6,h7,h8,h9,h10,h11,h12,h13,h14,h15,h16,h17⟩:=h;subst h0 h1 h2 h3 h4 h5 h6 h7 h8 h9 h10 h11 h12 h13 h14 h15 h16 h17;rfl
 · rintro rfl
   exact ⟨rfl,rfl,rfl,rfl,rfl,rfl,rfl,rfl,rfl,rfl,rfl,rfl,rfl,rfl,rfl,rfl,rfl,rfl⟩
def dU (a:PAu) (x:ad) (t:Int):Bool:=if t≤x.since then false else match bU a.m (idR x.r) with
 | none=>decide (a.tick≤x.since)
 | some s=>s.left && decide (s.tick=a.tick) && bqW s.w x
end Go.Proofs.YtcaicgipibcicaaGreat
