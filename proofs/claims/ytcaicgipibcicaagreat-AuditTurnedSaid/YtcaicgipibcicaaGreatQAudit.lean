/- audit.Record: what the program says of a record. -/
import Derived.Test.YtcaicgipibcicaaGreatQEnc
import Derived.Test.YtcaicgipibcicaaGreatQRAudit
import Derived.Test.YtcaicgipibcicaaGreatQRecCk2
set_option maxRecDepth 100000
set_option maxHeartbeats 8000000
set_option linter.unusedSimpArgs false
set_option linter.unusedVariables false
open Go.Lib renaming hid→wB
open Go.RowKit.Below renaming refl→wI
open List renaming getElem?_eq_getElem→wE
namespace Go.Proofs.YtcaicgipibcicaaGreat
open Go.RowKit Go.Sort
def dp (c:ag) (t:Int):Int:=if eX c t then 0 else 262
def dr (c:ag) (x:aw):List Int:=[aA c,dp c x.tick,bh x,gl c x,gH c x,mJ x.rows x.cols x.es x.ps x.ys x.zs]
theorem jV (c:ag) (x:aw):cd (dr c x)=aL c x:=by
 unfold dr aL dp gl gH;rcases iK c with ⟨h,_⟩ | ⟨h,_⟩
 · by_cases h3:bh x=0
   · cases h2:eX c x.tick <;> cases h4:bO c x <;> cases h5:cS c x <;> simp [cd,h,h3]
     intro h6;exact h6.symm
   · cases h2:eX c x.tick <;> cases h4:bO c x <;> cases h5:cS c x <;> simp [cd,h,h3]
 · simp [cd,h]
theorem rZ (w wr:World) (c:ag) (v:RV) (H0 H1:Nat) (h:cu w c v H0 H1 wr):Calls Tryz.prog 41 #[.pointer (some ⟨H0,0,none⟩)] wr fun e w'=>e = .returned (.int .i64 (aA c))∧Below wr.heap.size wr w':=by
 have HW:=wB h;clear h;go_enter Tryz.func41,Tryz.ntmps41
 go_wp2_with (first | ((with_reducible refine ad (o:=⟨some 2,_,_,_,_,_⟩) ?_ 23 (.tmp 0) ?_ H0 (0) ?_ c.cells #[.int .i64 c.q,.int .i64 c.d,.int .i64 c.w,.int .i64 c.ttl,.int .i64 c.b] ?_ _ (cq HW.out.g) Tryz.underlying23 ?_ ?_ ?_);rfl;rfl;rfl;rfl;rfl;exact cg))
 refine (dN wr c).mono ?_;rintro e w1 ⟨rfl,hb1⟩;have HB:=wB hb1;clear hb1;go_wp2_with fail
 go_ret
 exact ⟨rfl,HB.out⟩
theorem r8 (w wr:World) (c:ag) (v:RV) (H0 H1:Nat) (h:cu w c v H0 H1 wr) (hc:aG c=true):Calls Tryz.prog 43 #[.pointer (some ⟨H1,0,none⟩),.pointer (some ⟨H0,0,none⟩)] wr fun e w'=>e = .returned (.int .i64 (dp c v.x.tick))∧Below wr.heap.size wr w':=by
 obtain ⟨g0,g1,g2,g3,g4,g5,g6,g7,g8⟩:=cells9 h.h;have q2:=(aK h.g).2.2.1
 have hw:1≤c.w:=by
  simp only [aG,bw,Bool.and_eq_true,decide_eq_true_eq] at hc;omega
 clear h hc;by_cases h1:1≤v.x.tick
 · by_cases h2:v.x.tick≤1099511627776
   · have hm:v.x.tick.tmod c.w=v.x.tick % c.w:=Int.tmod_eq_emod_of_nonneg (by omega)
     by_cases h3:v.x.tick % c.w=0
     · have HF:=wB (show dp c v.x.tick=0 by simp [dp,eX,h1,h2,h3])
       have e1:(v.x.tick % c.w != 0)=false:=by simp [h3]
       clear h3;go_enter Tryz.func43,Tryz.ntmps43
       go_wp2_with fail
       go_ret
       exact ⟨by rw [HF.out];rfl,wI _ _⟩
     · have HF:=wB (show dp c v.x.tick=262 by simp [dp,eX,h3])
       have e1:(v.x.tick % c.w != 0)=true:=by simp [h3]
       clear h3;go_enter Tryz.func43,Tryz.ntmps43
       go_wp2_with fail
       go_ret
       exact ⟨by rw [HF.out];rfl,wI _ _⟩
   · have HF:=wB (show dp c v.x.tick=262 by simp [dp,eX,h2])
     go_enter Tryz.func43,Tryz.ntmps43
     go_wp2_with fail
     go_ret
     exact ⟨by rw [HF.out];rfl,wI _ _⟩
 · have HF:=wB (show dp c v.x.tick=262 by simp [dp,eX,h1])
   go_enter Tryz.func43,Tryz.ntmps43
   go_wp2_with fail
   go_ret
   exact ⟨by rw [HF.out];rfl,wI _ _⟩
theorem r9 (w wr:World) (c:ag) (v:RV) (H0 H1:Nat) (h:cu w c v H0 H1 wr) (hin:v.In wr):Calls Tryz.prog 44 #[.pointer (some ⟨H1,0,none⟩)] wr fun e w'=>e = .returned (.int .i64 (bh v.x))∧Below wr.heap.size wr w':=by
 obtain ⟨g0,g1,g2,g3,g4,g5,g6,g7,g8⟩:=cells9 h.h;have HIN:=wB hin;clear h hin;go_enter Tryz.func44,Tryz.ntmps44
 go_wp2_with fail
 refine (vI wr v HIN.out).mono ?_;rintro e w1 ⟨rfl,hb1⟩;have HB:=wB hb1;clear hb1;go_wp2_with fail
 go_ret
 exact ⟨rfl,HB.out⟩
theorem sd (w wr:World) (c:ag) (v:RV) (H0 H1:Nat) (h:cu w c v H0 H1 wr) (hin:v.In wr) (hrec:bh v.x=0):Calls Tryz.prog 46 #[.pointer (some ⟨H0,0,none⟩),.pointer (some ⟨H1,0,none⟩)] wr fun e w'=>e = .returned (.int .i64 (gl c v.x))∧Below wr.heap.size wr w':=by
 obtain ⟨g0,g1,g2,g3,g4,g5,g6,g7,g8⟩:=cells9 h.h;have HIN:=wB hin;have HW:=wB h;have HREC:=wB hrec;clear h hin hrec;go_enter Tryz.func46,Tryz.ntmps46
 go_wp2_with (first | ((with_reducible refine ad (o:=⟨some 3,_,_,_,_,_⟩) ?_ 23 (.tmp 0) ?_ H0 (0) ?_ c.cells #[.int .i64 c.q,.int .i64 c.d,.int .i64 c.w,.int .i64 c.ttl,.int .i64 c.b] ?_ _ (cq HW.out.g) Tryz.underlying23 ?_ ?_ ?_);rfl;rfl;rfl;rfl;rfl;exact cg))
 refine (pT wr c v HIN.out HREC.out).mono ?_;rintro e w1 ⟨rfl,hb1⟩;have HB:=wB hb1;clear hb1;go_wp2_with fail
 go_ret
 exact ⟨rfl,HB.out⟩
theorem se (w wr:World) (c:ag) (v:RV) (H0 H1:Nat) (h:cu w c v H0 H1 wr) (hin:v.In wr):Calls Tryz.prog 48 #[.pointer (some ⟨H0,0,none⟩),.pointer (some ⟨H1,0,none⟩)] wr fun e w'=>e = .returned (.int .i64 (gH c v.x))∧Below wr.heap.size wr w':=by
 obtain ⟨g0,g1,g2,g3,g4,g5,g6,g7,g8⟩:=cells9 h.h;have HIN:=wB hin;have HW:=wB h;clear h hin;go_enter Tryz.func48,Tryz.ntmps48
 go_wp2_with (first | ((with_reducible refine ad (o:=⟨some 3,_,_,_,_,_⟩) ?_ 23 (.tmp 0) ?_ H0 (0) ?_ c.cells #[.int .i64 c.q,.int .i64 c.d,.int .i64 c.w,.int .i64 c.ttl,.int .i64 c.b] ?_ _ (cq HW.out.g) Tryz.underlying23 ?_ ?_ ?_);rfl;rfl;rfl;rfl;rfl;exact cg))
 refine (sO wr c v HIN.out).mono ?_;rintro e w1 ⟨rfl,hb1⟩;have HB:=wB hb1;clear hb1;go_wp2_with fail
 go_ret
 exact ⟨rfl,HB.out⟩
theorem sf (w wr:World) (c:ag) (v:RV) (H0 H1:Nat) (h:cu w c v H0 H1 wr) (hin:v.In wr):Calls Tryz.prog 50 #[.pointer (some ⟨H1,0,none⟩)] wr fun e w'=>e = .returned (.int .i64 (mJ v.x.rows v.x.cols v.x.es v.x.ps v.x.ys v.x.zs))∧Below wr.heap.size wr w':=by
 obtain ⟨g0,g1,g2,g3,g4,g5,g6,g7,g8⟩:=cells9 h.h;have eb:=hin.eb;have pb:=hin.pb;have yb:=hin.yb;have zb:=hin.zb;have HIN:=wB hin;clear h hin;go_enter Tryz.func50,Tryz.ntmps50
 go_wp2_with fail
 refine (mp wr v.x.rows v.x.cols v.eo v.po v.yo v.zo v.en v.ec v.pn v.pc v.yn v.yc v.zn v.zc v.x.es v.x.ps v.x.ys v.x.zs HIN.out.el HIN.out.er (by omega) HIN.out.pl HIN.out.pr pb (by omega) (by omega) HIN.out.yl HIN.out.yr HIN.out.zl HIN.out.zr HIN.out.ok.ys).mono ?_;rintro e w1 ⟨rfl,hb1⟩;have HB:=wB hb1;clear hb1;go_wp2_with fail
 go_ret
 exact ⟨rfl,HB.out⟩
def looks (H0 H1:Nat):List (Nat × Array Value):=[(41,#[.pointer (some ⟨H0,0,none⟩)]),(43,#[.pointer (some ⟨H1,0,none⟩),.pointer (some ⟨H0,0,none⟩)]),(44,#[.pointer (some ⟨H1,0,none⟩)]),(46,#[.pointer (some ⟨H0,0,none⟩),.pointer (some ⟨H1,0,none⟩)]),(48,#[.pointer (some ⟨H0,0,none⟩),.pointer (some ⟨H1,0,none⟩)]),(50,#[.pointer (some ⟨H1,0,none⟩)])]
theorem qc (w:World) (H0 H1:Nat):∀ (k:Nat) (p:Nat × Array Value),(looks H0 H1)[k]?=some p→(w.alloc (.cells #[.func (.func 41) #[] #[.pointer (some ⟨H0,0,none⟩)],.func (.func 43) #[] #[.pointer (some ⟨H1,0,none⟩),.pointer (some ⟨H0,0,none⟩)],.func (.func 44) #[] #[.pointer (some ⟨H1,0,none⟩)],.func (.func 46) #[] #[.pointer (some ⟨H0,0,none⟩),.pointer (some ⟨H1,0,none⟩)],.func (.func 48) #[] #[.pointer (some ⟨H0,0,none⟩),.pointer (some ⟨H1,0,none⟩)],.func (.func 50) #[] #[.pointer (some ⟨H1,0,none⟩)]] 103)).cell? ⟨w.heap.size,k,none⟩=some (.func (.func p.1) #[] p.2):=by
 intro k p hp;rw [cell_of_row _ _ _ _ _ (0,0) (heap_alloc_new w _)]
 match k,hp with
 | 0,hp=>simp [looks] at hp;subst hp;rfl
 | 1,hp=>simp [looks] at hp;subst hp;rfl
 | 2,hp=>simp [looks] at hp;subst hp;rfl
 | 3,hp=>simp [looks] at hp;subst hp;rfl
 | 4,hp=>simp [looks] at hp;subst hp;rfl
 | 5,hp=>simp [looks] at hp;subst hp;rfl
theorem n9 (args:Array Value) (w:World):(callFunc 41 args).run Tryz.prog w = .ok (.enter 41 args) w:=by kernel_rfl
theorem oa (args:Array Value) (w:World):(callFunc 43 args).run Tryz.prog w = .ok (.enter 43 args) w:=by kernel_rfl
theorem oc (args:Array Value) (w:World):(callFunc 44 args).run Tryz.prog w = .ok (.enter 44 args) w:=by kernel_rfl
theorem oe (args:Array Value) (w:World):(callFunc 46 args).run Tryz.prog w = .ok (.enter 46 args) w:=by kernel_rfl
theorem og (args:Array Value) (w:World):(callFunc 48 args).run Tryz.prog w = .ok (.enter 48 args) w:=by kernel_rfl
theorem oh (args:Array Value) (w:World):(callFunc 50 args).run Tryz.prog w = .ok (.enter 50 args) w:=by kernel_rfl
theorem sg (H0 H1:Nat):∀ p ∈ looks H0 H1,∀ args w,(callFunc p.1 args).run Tryz.prog w = .ok (.enter p.1 args) w:=by
 intro p hp args w;simp only [looks,List.mem_cons,List.not_mem_nil,or_false] at hp;rcases hp with rfl | rfl | rfl | rfl | rfl | rfl
 · exact n9 args w
 · exact oa args w
 · exact oc args w
 · exact oe args w
 · exact og args w
 · exact oh args w
theorem sh (w wr:World) (c:ag) (v:RV) (H0 H1:Nat) (h:cu w c v H0 H1 wr) (hin:v.In wr) (k:Nat) (p:Nat × Array Value) (e:Int) (hp:(looks H0 H1)[k]?=some p) (he:(dr c v.x)[k]?=some e) (hz:∀ j:Nat,j<k→(dr c v.x)[j]?=some 0) :
 Calls Tryz.prog p.1 p.2 wr fun r w'=>r = .returned (.int .i64 e)∧Below wr.heap.size wr w':=by
 match k,hp,he,hz with
 | 0,hp,he,hz=>simp [looks,dr] at hp he;subst hp;subst he;exact rZ w wr c v H0 H1 h
 | 1,hp,he,hz=>
   have h0:=hz 0 (by omega);simp [dr] at h0;simp [looks,dr] at hp he;subst hp;subst he;refine r8 w wr c v H0 H1 h ?_;rcases iK c with ⟨_,q⟩ | ⟨q,_⟩
   · exact q
   · omega
 | 2,hp,he,hz=>simp [looks,dr] at hp he;subst hp;subst he;exact r9 w wr c v H0 H1 h hin
 | 3,hp,he,hz=>
   have h2:=hz 2 (by omega);simp [dr] at h2;simp [looks,dr] at hp he;subst hp;subst he;exact sd w wr c v H0 H1 h hin h2
 | 4,hp,he,hz=>simp [looks,dr] at hp he;subst hp;subst he;exact se w wr c v H0 H1 h hin
 | 5,hp,he,hz=>simp [looks,dr] at hp he;subst hp;subst he;exact sf w wr c v H0 H1 h hin
theorem cC (w:World) (c:ag) (v:RV) (hin:v.In w):Calls Tryz.prog 13 #[.agg #[.int .i64 c.q,.int .i64 c.d,.int .i64 c.w,.int .i64 c.ttl,.int .i64 c.b],.agg #[.int .i64 v.x.tick,.slice v.wo v.wn v.wc,.slice v.ko v.kn v.kc,.int .i64 v.x.rows,.int .i64 v.x.cols,.slice v.eo v.en v.ec,.slice v.po v.pn v.pc,.slice v.yo v.yn v.yc,.slice v.zo v.zn v.zc]] w fun e w'=>e = .returned (.int .i64 (aL c v.x))∧Below w.heap.size w w':=by
 have hmf:∀ (fn:Fn) (first cap:Array Value) (w:World),(Instr.makeFunc fn first cap).run Tryz.prog w = .ok (.func fn first cap) w:=fun _ _ _ _=>rfl
 have HIN:=wB hin;clear hin;have HW:=wB (cu.begin w c v);go_enter Tryz.func13,Tryz.ntmps13
 go_upto_region 1 with fail
 generalize (w.alloc (.cells #[.int .i64 c.q,.int .i64 c.d,.int .i64 c.w,.int .i64 c.ttl,.int .i64 c.b] 23)).alloc (.cells #[.int .i64 v.x.tick,.slice v.wo v.wn v.wc,.slice v.ko v.kn v.kc,.int .i64 v.x.rows,.int .i64 v.x.cols,.slice v.eo v.en v.ec,.slice v.po v.pn v.pc,.slice v.yo v.yn v.yc,.slice v.zo v.zn v.zc] 34)=W at *;generalize w.heap.size+1=H1 at *;have HHE:=wB (show ∃ H0,w.heap.size=H0 from ⟨_,rfl⟩);obtain ⟨H0,hH0⟩:=HHE.out;rw [hH0] at HW;rw [hH0];have HH:=wB hH0;clear hH0 HHE;have HCL:=wB (qc W H0 H1);have HR0:=wB (HW.out.one (.cells #[.func (.func 41) #[] #[.pointer (some ⟨H0,0,none⟩)],.func (.func 43) #[] #[.pointer (some ⟨H1,0,none⟩),.pointer (some ⟨H0,0,none⟩)],.func (.func 44) #[] #[.pointer (some ⟨H1,0,none⟩)],.func (.func 46) #[] #[.pointer (some ⟨H0,0,none⟩),.pointer (some ⟨H1,0,none⟩)],.func (.func 48) #[] #[.pointer (some ⟨H0,0,none⟩),.pointer (some ⟨H1,0,none⟩)],.func (.func 50) #[] #[.pointer (some ⟨H1,0,none⟩)]] 103));go_upto_region 2 with fail
 generalize W.alloc (.cells #[.func (.func 41) #[] #[.pointer (some ⟨H0,0,none⟩)],.func (.func 43) #[] #[.pointer (some ⟨H1,0,none⟩),.pointer (some ⟨H0,0,none⟩)],.func (.func 44) #[] #[.pointer (some ⟨H1,0,none⟩)],.func (.func 46) #[] #[.pointer (some ⟨H0,0,none⟩),.pointer (some ⟨H1,0,none⟩)],.func (.func 48) #[] #[.pointer (some ⟨H0,0,none⟩),.pointer (some ⟨H1,0,none⟩)],.func (.func 50) #[] #[.pointer (some ⟨H1,0,none⟩)]] 103)=W0 at *;generalize W.heap.size=H2 at *;clear HW hmf;go_wp2_with fail
 go_loopw [18] (fun i wr=>Hid (∃ k:Nat,i = .int .i64 k∧k≤6∧(∀ j:Nat,j<k→(dr c v.x)[j]?=some 0)∧Below W0.heap.size W0 wr)) (fun i _=>6 - (intOf i).toNat)
 case atStart=>exact wB ⟨0,rfl,Nat.zero_le _,fun j hj=>absurd hj (Nat.not_lt_zero j),wI _ _⟩
 case round=>
  obtain ⟨k,rfl,hk,hall,hbel⟩:=hrel.out;clear hrel;have HALL:=wB hall;have HB:=wB hbel;clear hall hbel;by_cases hlt:k<6
  · obtain ⟨p,hp⟩:∃ p,(looks H0 H1)[k]?=some p:=⟨(looks H0 H1)[k]'(by simpa [looks] using hlt),wE _⟩
    obtain ⟨e,he⟩:∃ e,(dr c v.x)[k]?=some e:=⟨(dr c v.x)[k]'(by simpa [dr] using hlt),wE _⟩;have hc:=(Keep.of_below HB.out (Nat.le_refl _) (fun _=>False)).cell (HCL.out k p hp) id;have HR:=wB (HR0.out.keep HB.out);have HCALL:=wB (sh w wr c v H0 H1 HR.out (HIN.out.keep HR.out.below) k p e hp he HALL.out);have HE:=wB he;have hrun:=sg H0 H1 p (List.mem_of_getElem? hp);clear hp he;obtain ⟨g,cp⟩:=p;go_wp2_with fail
    refine HCALL.out.mono ?_;rintro r w2 ⟨rfl,hb2⟩;have HB2:=wB (Below.next HB.out hb2);clear hb2 hc hrun HCALL;by_cases h0:e=0
    · have HZ:=wB (show ∀ j:Nat,j<k+1→(dr c v.x)[j]?=some 0 from fun j hj=>by
       rcases Nat.lt_succ_iff_lt_or_eq.1 hj with hj | rfl
       · exact HALL.out j hj
       · rw [HE.out,h0])
      have h1:(e==0)=true:=by simp [h0]
      have h2:(e != 0)=false:=by simp [h0]
      clear h0;go_wp2_with fail
      go_roundw
      case rel=>exact wB ⟨k+1,by go_num,by omega,HZ.out,HB2.out⟩
      case measure=>simp [intOf];omega
    · have HZ:=wB ((jV c v.x).symm.trans (jL HE.out h0 HALL.out))
      have h1:(e==0)=false:=by simp [h0]
      have h2:(e != 0)=true:=by simp [h0]
      clear h0;go_wp2_with fail
      go_ret
      exact ⟨by rw [HZ.out];rfl,Below.next HR0.out.below HB2.out⟩
  · obtain rfl:6=k:=by omega
    have HZ:=wB ((jV c v.x).symm.trans (ky (l:=dr c v.x) (fun e he=>by
     obtain ⟨j,hj,rfl⟩:=List.getElem_of_mem he;have h1:=HALL.out j (by simpa [dr] using hj);rw [wE hj] at h1;exact Option.some.inj h1)))
    go_wp2_with fail
    go_ret
    exact ⟨by rw [HZ.out];rfl,Below.next HR0.out.below HB.out⟩
end Go.Proofs.YtcaicgipibcicaaGreat
