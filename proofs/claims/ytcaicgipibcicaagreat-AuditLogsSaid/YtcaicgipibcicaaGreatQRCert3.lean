/- Chapter 18 in the reference: matchings, worths. -/
import Derived.Test.YtcaicgipibcicaaGreatQRCert
import Derived.Lib.QuietBelow
import Derived.Deep.RegionWith
set_option maxRecDepth 100000
set_option maxHeartbeats 8000000
set_option linter.unusedSimpArgs false
set_option linter.unusedVariables false
open Go renaming cell_regrown→yR,wp_region_quiet_below→zJ
open Go.Lib renaming hid→yA
open List renaming getElem?_eq_getElem→yC,getElem?_eq_some_iff→yD
open Nat renaming le_refl→yB,lt_succ_iff_lt_or_eq→yW,zero_le→yQ
namespace Go.Proofs.YtcaicgipibcicaaGreat
open Go.RowKit Go.Sort
theorem bV.regrown {w:World} {rows cols:Int} {ev:Value} {H0:Nat} {wr:World} (h:bV w rows cols ev H0 wr) (d:Nat) (os:Array Obj):bV w rows cols ev H0 (grow (redrawn wr d) os):=h.keep (below_regrown wr d os)
theorem ey {ps:List ag} {i:Nat} {c:Int} (h:∀ (j:Nat) (y:ag),j<i→ps[j]?=some y→y.c≠c):cO ps i c=true:=by
 unfold cO;refine aU (fun j hj=>?_);cases hy:ps[j]? with
 | none=>rfl
 | some y=>simpa using h j y hj hy
theorem fq {ps:List ag} {i:Nat} {c:Int} {j:Nat} {y:ag} (hj:j<i) (hy:ps[j]?=some y) (h:y.c=c):cO ps i c=false:=by
 unfold cO;exact bE hj (by simp [hy,h])
theorem sd (w:World) (rows cols:Int) (eo po:Option Addr) (n c q d:Nat) (l:List ab) (ps:List ag) (hg:aQ rows cols l=true) (hl:l.length=n) (hr:RdC w eo (cellsOf ab.cells l)) (hn:n≤9007199254740992)
 (hp:ps.length=q) (hpr:RdC w po (cellsOf ag.cells ps)) (hq:q≤1048576) :
 Calls Tryz.prog 103 #[.agg #[.int .i64 rows,.int .i64 cols,.slice eo n c],.slice po q d] w fun e w'=>e = .returned (.int .i64 (bG l ps))∧Below w.heap.size w w':=by
 have HG:=yA hg;have HP:=yA hp;have HPR:=yA hpr;have HWT:=yA (fun wx hb r kk=>lU wx rows cols eo n c r kk l hl (hr.below hb) hn);clear hl hr hg hp hpr;have HW:=yA (bV.begin w rows cols (.slice eo n c));go_enter Tryz.func103,Tryz.ntmps103
 go_wp2_with fail
 generalize w.alloc (.cells #[.int .i64 rows,.int .i64 cols,.slice eo n c] 28)=W at *;have HHE:=yA (show ∃ H0,w.heap.size=H0 from ⟨_,rfl⟩);obtain ⟨H0,hH0⟩:=HHE.out;rw [hH0] at HW;rw [hH0];have HH:=yA hH0;clear hH0 HHE;go_loopw [5,6] (fun a i wr=>Hid (∃ j:Nat,a = .int .i64 (bG l (ps.take j))∧i = .int .i64 j∧j≤q∧bV w rows cols (.slice eo n c) H0 wr)) (fun _ i _=>q - (intOf i).toNat)
 case atStart=>exact yA ⟨0,rfl,rfl,yQ _,HW.out⟩
 case round=>
  obtain ⟨j,rfl,rfl,hj,hrel1⟩:=hrel.out;clear hrel;obtain ⟨g0,g1,g2,gf⟩:=cells3 hrel1.g;have HR1:=yA hrel1;clear hrel1 gf;have hwb:=ol HG.out (ps.take j);have hlen:(ps.take j).length≤1048576:=by rw [List.length_take];omega
  have hw1:=hwb.1;have hw2:bG l (ps.take j)≤1152923703634296211:=by have:=hwb.2;omega
  clear hwb hlen;by_cases hlt:j<q
  · obtain ⟨x,hx⟩:∃ x,ps[j]?=some x:=⟨ps[j]'(by rw [HP.out];exact hlt),yC _⟩
    obtain ⟨b,o,rfl,_⟩:=HPR.out.place (by rw [cellsOf_length _ 2 ag.cells_length,HP.out];omega);obtain ⟨x0,x1⟩:=bi (HPR.out.keep (Keep.of_below HR1.out.below (yB _) (fun _=>False)) (fun _ _ _=>id)) hx
    have HNX:=yA (show bG l (ps.take (j+1))=bG l (ps.take j)+aJ l x.r x.c by
     rw [List.take_succ_eq_append_getElem (yD.1 hx).1,(yD.1 hx).2,lI])
    obtain ⟨v1,v2⟩:=jL HG.out x.r x.c;clear hx;have HWX:=yA (fun wx hb=>HWT.out wx hb x.r x.c);generalize bG l (ps.take j)=A at *;generalize aJ l x.r x.c=wt at *;go_wp2_with fail
    have cQ:∀ dd os,Calls Tryz.prog 136 #[.agg #[.int .i64 rows,.int .i64 cols,.slice eo n c],.int .i64 x.r,.int .i64 x.c] (grow (redrawn wr dd) os) fun e w''=>e = .returned (.int .i64 wt)∧∃ p:Regrown,w''=grow (redrawn wr p.d) p.os:=fun dd os=>Calls.regrown_of (HWX.out _ (HR1.out.regrown dd os).below)
    have k0:=yR g0;have k1:=yR g1;have k2:=yR g2;have k3:=yR x0;have k4:=yR x1;have e1:=IntWalk.i64_in (A+wt) (by omega);clear g0 g1 g2 x0 x1;refine zJ (by kernel_rfl) (by kernel_rfl) ?_
    repeat (go_big_quiet_step (exact cQ _ _))
    refine wpQuiet_nil ?_;intro _ hw';obtain ⟨⟨dq,osq⟩,hw''⟩:=hw';subst hw'';have HR2:=yA (HR1.out.regrown dq osq);clear cQ k0 k1 k2 k3 k4 e1;generalize grow (redrawn wr dq) osq=WX at *;go_wp2_with fail
    go_roundw
    case rel=>exact yA ⟨j+1,by rw [HNX.out],by go_num,by omega,HR2.out⟩
    case measure=>simp [intOf];omega
  · obtain rfl:q=j:=by omega
    have HFULL:=yA (show bG l (ps.take q)=bG l ps by rw [List.take_of_length_le (by rw [HP.out];exact yB _)]);go_wp2_with fail
    go_ret
    exact ⟨by rw [←HFULL.out];rfl,HR1.out.below⟩
theorem pk {rows cols:Int} {es:List ab} {ps:List ag} (h:aY rows cols es≠0):cX rows cols es ps=aY rows cols es:=by
 unfold aY cX at *;cases hg:aQ rows cols es <;> simp [hg] at h ⊢
theorem kB {rows cols:Int} {es:List ab} {ps:List ag} (h:aQ rows cols es=true):cX rows cols es ps=dJ es ps:=by
 unfold cX dJ;simp [h]
theorem sf (w:World) (rows cols:Int) (eo po:Option Addr) (n c q d:Nat) (l:List ab) (ps:List ag) (hl:l.length=n) (hr:RdC w eo (cellsOf ab.cells l)) (hn:n≤9007199254740992)
 (hp:ps.length=q) (hpr:RdC w po (cellsOf ag.cells ps)) (hq:q≤9007199254740992) :
 Calls Tryz.prog 101 #[.agg #[.int .i64 rows,.int .i64 cols,.slice eo n c],.slice po q d] w fun e w'=>e = .returned (.int .i64 (cX rows cols l ps))∧Below w.heap.size w w':=by
 have HP:=yA hp;have HPR:=yA hpr;have HWT:=yA (fun wx hb r kk=>lU wx rows cols eo n c r kk l hl (hr.below hb) hn);have HCH:=yA (fun wx hb=>iB wx rows cols eo n c l hl (hr.below hb) hn);clear hl hr hp hpr;have HW:=yA (bV.begin w rows cols (.slice eo n c));go_enter Tryz.func101,Tryz.ntmps101
 go_wp2_with fail
 generalize w.alloc (.cells #[.int .i64 rows,.int .i64 cols,.slice eo n c] 28)=W at *;have HHE:=yA (show ∃ H0,w.heap.size=H0 from ⟨_,rfl⟩);obtain ⟨H0,hH0⟩:=HHE.out;rw [hH0] at HW;rw [hH0];have HH:=yA hH0;clear hH0 HHE;refine (HCH.out W HW.out.below).mono ?_;rintro e w1 ⟨rfl,hb1⟩;have HW1:=yA (HW.out.keep hb1);clear hb1 HW HCH;by_cases hg:aY rows cols l=0
 · have HG:=yA (gF hg)
   have HPE:=yA (kB (ps:=ps) HG.out);rw [hg];clear hg;go_wp2_with fail
   go_loopw [6] (fun i wr=>Hid (∃ k:Nat,i = .int .i64 k∧k≤q∧(∀ j,j<k→cW l ps j=true)∧bV w rows cols (.slice eo n c) H0 wr)) (fun i _=>q - (intOf i).toNat)
   case atStart=>exact yA ⟨0,rfl,yQ _,bB,HW1.out⟩
   case round=>
    obtain ⟨k,rfl,hk,hall,hrel1⟩:=hrel.out;clear hrel;obtain ⟨g0,g1,g2,gf⟩:=cells3 hrel1.g;have HR1:=yA hrel1;have HALL:=yA hall;clear hrel1 gf hall;by_cases hlt:k<q
    · obtain ⟨x,hx⟩:∃ x,ps[k]?=some x:=⟨ps[k]'(by rw [HP.out];exact hlt),yC _⟩
      obtain ⟨b,o,rfl,_⟩:=HPR.out.place (by rw [cellsOf_length _ 2 ag.cells_length,HP.out];omega);obtain ⟨x0,x1⟩:=bi (HPR.out.keep (Keep.of_below HR1.out.below (yB _) (fun _=>False)) (fun _ _ _=>id)) hx;have HX:=yA hx;have HBAD:=yA (fun h=>HPE.out.trans (ld (gS (es:=l) HX.out h)));have HEQ:=yA (gD (es:=l) HX.out);have HIN:=yA (cV HG.out x.r x.c);have HWX:=yA (fun wx hb=>HWT.out wx hb x.r x.c);clear hx;have HWQ:Hid (∀ wt,aJ l x.r x.c=wt→∀ dd os,Calls Tryz.prog 136 #[.agg #[.int .i64 rows,.int .i64 cols,.slice eo n c],.int .i64 x.r,.int .i64 x.c] (grow (redrawn wr dd) os) fun e w''=>e = .returned (.int .i64 wt)∧∃ p:Regrown,w''=grow (redrawn wr p.d) p.os):=yA (fun wt h dd os=>by subst h;exact Calls.regrown_of (HWX.out _ (HR1.out.regrown dd os).below));obtain ⟨wt,hwt⟩:∃ wt,aJ l x.r x.c=wt:=⟨_,rfl⟩;have cQ:=HWQ.out wt hwt;have HWE:=yA hwt;clear hwt HWQ HWX;have k0:=yR g0;have k1:=yR g1;have k2:=yR g2;have k3:=yR x0;have k4:=yR x1;by_cases h1:wt=0
      · have HF:=yA (HBAD.out (by rw [HEQ.out,HWE.out,h1];simp))
        have b1:(wt==0)=true:=by simp [h1]
        clear h1 g0 g1 g2 x0 x1;go_wp2_with fail
        refine zJ (by kernel_rfl) (by kernel_rfl) ?_
        repeat (go_big_quiet_step (exact cQ _ _))
        refine wpQuiet_nil ?_;intro _ hw';obtain ⟨⟨dq,osq⟩,hw''⟩:=hw';subst hw'';have HR2:=yA (HR1.out.regrown dq osq);clear cQ k0 k1 k2 k3 k4;generalize grow (redrawn wr dq) osq=WX at *;go_wp2_with fail
        go_ret
        exact ⟨by rw [HF.out];rfl,HR2.out.below⟩
      · have b1:(wt==0)=false:=by simp [h1]
        have hrow:0≤x.r:=by
         rcases HIN.out with ⟨h0,_⟩ | ⟨_,_,h3,_⟩
         · rw [HWE.out] at h0;exact absurd h0 h1
         · exact h3
        have HEQ2:=yA (show cW l ps k=(decide (dX ps k<x.r) && cO ps k x.c) by rw [HEQ.out,HWE.out,decide_eq_true (show wt≠0 from h1),Bool.and_true]);clear h1 HEQ HIN;have hcase:k=0∨0<k:=by omega
        have HROW:Hid ((k=0∧dX ps k<x.r)∨(0<k∧∃ y,ps[k - 1]?=some y∧dX ps k=y.r)):=yA (by
         rcases hcase with rfl | h
         · exact .inl ⟨rfl,by simp only [dX];omega⟩
         · right
           obtain ⟨y,hy⟩:∃ y,ps[k - 1]?=some y:=⟨ps[k - 1]'(by rw [HP.out];omega),yC _⟩;have:=fM hy;rw [show k - 1+1=k by omega] at this;exact ⟨h,y,hy,this⟩)
        clear hcase;rcases HROW.out with ⟨h2,h3⟩ | ⟨h2,y,hy,h3⟩
        · have HEQ3:=yA (show cW l ps k=cO ps k x.c by rw [HEQ2.out,decide_eq_true h3,Bool.true_and])
          have b2:decide (0<k)=false:=by simp [h2]
          clear h2 h3 HROW HEQ2 g0 g1 g2 x0 x1;go_wp2_with fail
          refine zJ (by kernel_rfl) (by kernel_rfl) ?_
          repeat (go_big_quiet_step (exact cQ _ _))
          refine wpQuiet_nil ?_;intro _ hw';obtain ⟨⟨dq,osq⟩,hw''⟩:=hw';subst hw'';have HR2:=yA (HR1.out.regrown dq osq);clear cQ k0 k1 k2 k3 k4;generalize grow (redrawn wr dq) osq=WX at *;go_wp2_with fail
          go_loopw [7] (fun i wr=>Hid (∃ j:Nat,i = .int .i64 j∧j≤k∧(∀ (p:Nat) (y:ag),p<j→ps[p]?=some y→y.c≠x.c)∧bV w rows cols (.slice eo n c) H0 wr)) (fun i _=>k - (intOf i).toNat)
          case atStart=>exact yA ⟨0,rfl,yQ _,fun p y h=>absurd h (Nat.not_lt_zero p),HR2.out⟩
          case round=>
           obtain ⟨j,rfl,hj,hfree,hrel1⟩:=hrel.out;clear hrel;have HR3:=yA hrel1;have HFR:=yA hfree;clear hrel1 hfree;by_cases hjk:j<k
           · obtain ⟨z,hz⟩:∃ z,ps[j]?=some z:=⟨ps[j]'(by rw [HP.out];omega),yC _⟩
             have hkb:=Keep.of_below HR3.out.below (yB _) (fun _=>False);obtain ⟨z0,z1⟩:=bi (HPR.out.keep hkb (fun _ _ _=>id)) hz;obtain ⟨v0,v1⟩:=bi (HPR.out.keep hkb (fun _ _ _=>id)) HX.out;have HZ:=yA hz;clear hz hkb;by_cases h5:z.c=x.c
             · have HF:=yA (HBAD.out (by rw [HEQ3.out];exact fq hjk HZ.out h5))
               have b5:(z.c==x.c)=true:=by simp [h5]
               clear h5;go_wp2_with fail
               go_quiet (fail)
               go_wp2_with fail
               go_ret
               exact ⟨by rw [HF.out];rfl,(HR3.out.drewN _).below⟩
             · have HA:=yA (show ∀ (p:Nat) (y:ag),p<j+1→ps[p]?=some y→y.c≠x.c from fun p y hp hy=>by
                rcases yW.1 hp with hp | rfl
                · exact HFR.out p y hp hy
                · rw [HZ.out] at hy;cases hy;exact h5)
               have b5:(z.c==x.c)=false:=by simp [h5]
               clear h5;go_wp2_with fail
               go_quiet (fail)
               go_wp2_with fail
               go_roundw
               case rel=>exact yA ⟨j+1,by go_num,by omega,HA.out,HR3.out.drewN _⟩
               case measure=>simp [intOf];omega
           · obtain rfl:k=j:=by omega
             have HA:=yA (aX HALL.out (by rw [HEQ3.out];exact ey HFR.out));go_wp2_with fail
             go_roundw
             case rel=>exact yA ⟨k+1,by go_num,by omega,HA.out,HR3.out⟩
             case measure=>simp [intOf];omega
        · obtain ⟨y0,y1⟩:=bi (HPR.out.keep (Keep.of_below HR1.out.below (yB _) (fun _=>False)) (fun _ _ _=>id)) hy
          have k5:=yR y0;have b2:decide (0<k)=true:=by simp [h2]
          by_cases h4:x.r≤y.r
          · have HF:=yA (HBAD.out (by rw [HEQ2.out,h3,decide_eq_false (show ¬ y.r<x.r by omega)];rfl))
            have b4:decide (x.r≤y.r)=true:=decide_eq_true h4;clear h3 hy HROW HEQ2 g0 g1 g2 x0 x1 y0 y1;go_wp2_with fail
            refine zJ (by kernel_rfl) (by kernel_rfl) ?_
            repeat (go_big_quiet_step (exact cQ _ _))
            refine wpQuiet_nil ?_;intro _ hw';obtain ⟨⟨dq,osq⟩,hw''⟩:=hw';subst hw'';have HR2:=yA (HR1.out.regrown dq osq);clear cQ k0 k1 k2 k3 k4 k5;generalize grow (redrawn wr dq) osq=WX at *;go_wp2_with fail
            go_ret
            exact ⟨by rw [HF.out];rfl,HR2.out.below⟩
          · have HEQ3:=yA (show cW l ps k=cO ps k x.c by rw [HEQ2.out,h3,decide_eq_true (show y.r<x.r by omega),Bool.true_and])
            have b4:decide (x.r≤y.r)=false:=decide_eq_false h4;clear h3 h4 hy HROW HEQ2 g0 g1 g2 x0 x1 y0 y1;go_wp2_with fail
            refine zJ (by kernel_rfl) (by kernel_rfl) ?_
            repeat (go_big_quiet_step (exact cQ _ _))
            refine wpQuiet_nil ?_;intro _ hw';obtain ⟨⟨dq,osq⟩,hw''⟩:=hw';subst hw'';have HR2:=yA (HR1.out.regrown dq osq);clear cQ k0 k1 k2 k3 k4 k5;generalize grow (redrawn wr dq) osq=WX at *;go_wp2_with fail
            go_loopw [7] (fun i wr=>Hid (∃ j:Nat,i = .int .i64 j∧j≤k∧(∀ (p:Nat) (y:ag),p<j→ps[p]?=some y→y.c≠x.c)∧bV w rows cols (.slice eo n c) H0 wr)) (fun i _=>k - (intOf i).toNat)
            case atStart=>exact yA ⟨0,rfl,yQ _,fun p y h=>absurd h (Nat.not_lt_zero p),HR2.out⟩
            case round=>
             obtain ⟨j,rfl,hj,hfree,hrel1⟩:=hrel.out;clear hrel;have HR3:=yA hrel1;have HFR:=yA hfree;clear hrel1 hfree;by_cases hjk:j<k
             · obtain ⟨z,hz⟩:∃ z,ps[j]?=some z:=⟨ps[j]'(by rw [HP.out];omega),yC _⟩
               have hkb:=Keep.of_below HR3.out.below (yB _) (fun _=>False);obtain ⟨z0,z1⟩:=bi (HPR.out.keep hkb (fun _ _ _=>id)) hz;obtain ⟨v0,v1⟩:=bi (HPR.out.keep hkb (fun _ _ _=>id)) HX.out;have HZ:=yA hz;clear hz hkb;by_cases h5:z.c=x.c
               · have HF:=yA (HBAD.out (by rw [HEQ3.out];exact fq hjk HZ.out h5))
                 have b5:(z.c==x.c)=true:=by simp [h5]
                 clear h5;go_wp2_with fail
                 go_quiet (fail)
                 go_wp2_with fail
                 go_ret
                 exact ⟨by rw [HF.out];rfl,(HR3.out.drewN _).below⟩
               · have HA:=yA (show ∀ (p:Nat) (y:ag),p<j+1→ps[p]?=some y→y.c≠x.c from fun p y hp hy=>by
                  rcases yW.1 hp with hp | rfl
                  · exact HFR.out p y hp hy
                  · rw [HZ.out] at hy;cases hy;exact h5)
                 have b5:(z.c==x.c)=false:=by simp [h5]
                 clear h5;go_wp2_with fail
                 go_quiet (fail)
                 go_wp2_with fail
                 go_roundw
                 case rel=>exact yA ⟨j+1,by go_num,by omega,HA.out,HR3.out.drewN _⟩
                 case measure=>simp [intOf];omega
             · obtain rfl:k=j:=by omega
               have HA:=yA (aX HALL.out (by rw [HEQ3.out];exact ey HFR.out));go_wp2_with fail
               go_roundw
               case rel=>exact yA ⟨k+1,by go_num,by omega,HA.out,HR3.out⟩
               case measure=>simp [intOf];omega
    · obtain rfl:q=k:=by omega
      have HF:=yA (HPE.out.trans (jP (l:=l) (ps:=ps) (aU (fun j hj=>HALL.out j (by rw [HP.out] at hj;exact hj)))));go_wp2_with fail
      go_ret
      exact ⟨by rw [HF.out];rfl,HR1.out.below⟩
 · have HF:=yA (pk (ps:=ps) hg)
   have b1:(aY rows cols l==0)=false:=by simp [hg]
   have b2:(aY rows cols l != 0)=true:=by simp [hg]
   clear hg;generalize aY rows cols l=E at *;go_wp2_with fail
   go_ret
   exact ⟨by rw [HF.out];rfl,HW1.out.below⟩
end Go.Proofs.YtcaicgipibcicaaGreat
