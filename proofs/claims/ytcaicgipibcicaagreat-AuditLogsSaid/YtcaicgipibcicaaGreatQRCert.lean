/- Chapter 18 in the reference: what a pair is worth, prices, sums. Printed by wip/genrcert.py. -/
import Derived.Test.YtcaicgipibcicaaGreatQHeldTail
import Derived.Test.YtcaicgipibcicaaGreatQRCheck
set_option maxRecDepth 100000
set_option maxHeartbeats 8000000
set_option linter.unusedSimpArgs false
set_option linter.unusedVariables false
open Go.Lib renaming hid→yA
open Go.World renaming block_lt_of_cell?→yL
open List renaming getElem?_eq_getElem→yC,getElem?_eq_some_iff→yD,take_of_length_le→zh
open Nat renaming le_refl→yB,lt_succ_iff_lt_or_eq→yW,not_lt_zero→zz,zero_le→yQ
namespace Go.Proofs.YtcaicgipibcicaaGreat
open Go.RowKit Go.Sort
structure bV (w:World) (rows cols:Int) (ev:Value) (H0:Nat) (wr:World):Prop where
 g:wr.heap[H0]?=some (.cells #[.int .i64 rows,.int .i64 cols,ev] 28 (0,0))
 below:Below w.heap.size w wr
theorem bV.keep {w:World} {rows cols:Int} {ev:Value} {H0:Nat} {wr w':World} (h:bV w rows cols ev H0 wr) (hb:Below wr.heap.size wr w'):bV w rows cols ev H0 w':=
 ⟨(Keep.of_below hb (yB _) (fun _=>False)).old h.g id,Below.next h.below hb⟩
theorem bV.one {w:World} {rows cols:Int} {ev:Value} {H0:Nat} {wr:World} (h:bV w rows cols ev H0 wr) (o:Obj):bV w rows cols ev H0 (wr.alloc o):=
 h.keep ((Below.refl _ _).alloc (yB _) _)
theorem bV.drewN {w:World} {rows cols:Int} {ev:Value} {H0:Nat} {wr:World} (h:bV w rows cols ev H0 wr) (n:Nat):bV w rows cols ev H0 (wr.drewN n):=⟨h.g,below_drewN h.below n⟩
theorem bV.begin (w:World) (rows cols:Int) (ev:Value):bV w rows cols ev w.heap.size (w.alloc (.cells #[.int .i64 rows,.int .i64 cols,ev] 28)):=
 ⟨heap_alloc_new w _,(Below.refl w.heap.size w).alloc (yB _) _⟩
theorem lU (w:World) (rows cols:Int) (eo:Option Addr) (n c:Nat) (r k:Int) (l:List ab) (hl:l.length=n) (hr:RdC w eo (cellsOf ab.cells l)) (hn:n≤9007199254740992) :
 Calls Tryz.prog 136 #[.agg #[.int .i64 rows,.int .i64 cols,.slice eo n c],.int .i64 r,.int .i64 k] w fun e w'=>e = .returned (.int .i64 (aJ l r k))∧Below w.heap.size w w':=by
 have HL:=yA hl;have HR:=yA hr;clear hl hr;have HW:=yA (bV.begin w rows cols (.slice eo n c));go_enter Tryz.func136,Tryz.ntmps136
 go_wp2_with fail
 generalize w.alloc (.cells #[.int .i64 rows,.int .i64 cols,.slice eo n c] 28)=W at *;have HHE:=yA (show ∃ H0,w.heap.size=H0 from ⟨_,rfl⟩);obtain ⟨H0,hH0⟩:=HHE.out;rw [hH0] at HW ⊢;have HH:=yA hH0;clear hH0 HHE;obtain ⟨g0,g1,g2,gf⟩:=cells3 HW.out.g;go_loop [7] (fun i=>Hid (∃ j:Nat,i = .int .i64 j∧j≤n∧∀ (q:Nat) (y:ab),q<j→l[q]?=some y→¬ (y.r=r∧y.c=k))) (fun i=>n - (intOf i).toNat)
 case atStart=>exact yA ⟨0,rfl,yQ _,fun q y h=>absurd h (zz q)⟩
 case round=>
  obtain ⟨j,rfl,hj,hall⟩:=hrel.out;clear hrel;have HALL:=yA hall;clear hall;by_cases hlt:j<n
  · obtain ⟨x,hx⟩:∃ x,l[j]?=some x:=⟨l[j]'(by rw [HL.out];exact hlt),yC _⟩
    obtain ⟨b,o,rfl,_⟩:=HR.out.place (by rw [cellsOf_length _ 3 ab.cells_length,HL.out];omega);obtain ⟨x0,x1,x2⟩:=cH (HR.out.keep (Keep.of_below HW.out.below (yB _) (fun _=>False)) (fun _ _ _=>id)) hx;have HX:=yA hx;clear hx;by_cases h1:x.r=r
    · by_cases h2:x.c=k
      · have HE:=yA (lF (es:=l) HX.out ⟨h1,h2⟩ (fun q y hq hy=>HALL.out q y hq hy))
        have b1:(x.r==r)=true:=by simp [h1]
        have b2:(x.c==k)=true:=by simp [h2]
        clear h1 h2;go_wp2_with fail
        go_ret
        exact ⟨by rw [HE.out];rfl,HW.out.below⟩
      · have HA:=yA (show ∀ (q:Nat) (y:ab),q<j+1→l[q]?=some y→¬ (y.r=r∧y.c=k) from fun q y hq hy=>by
         rcases yW.1 hq with hq | rfl
         · exact HALL.out q y hq hy
         · rw [HX.out] at hy;cases hy;exact fun h=>h2 h.2)
        have b1:(x.r==r)=true:=by simp [h1]
        have b2:(x.c==k)=false:=by simp [h2]
        clear h1 h2;go_wp2_with fail
        go_round
        case rel=>exact yA ⟨j+1,by go_num,by omega,HA.out⟩
        case measure=>simp [intOf];omega
    · have HA:=yA (show ∀ (q:Nat) (y:ab),q<j+1→l[q]?=some y→¬ (y.r=r∧y.c=k) from fun q y hq hy=>by
       rcases yW.1 hq with hq | rfl
       · exact HALL.out q y hq hy
       · rw [HX.out] at hy;cases hy;exact fun h=>h1 h.1)
      have b1:(x.r==r)=false:=by simp [h1]
      clear h1;go_wp2_with fail
      go_round
      case rel=>exact yA ⟨j+1,by go_num,by omega,HA.out⟩
      case measure=>simp [intOf];omega
  · obtain rfl:n=j:=by omega
    have HE:=yA (gR (es:=l) (r:=r) (c:=k) (fun q y hy=>HALL.out q y (by rw [←HL.out];exact (yD.1 hy).1) hy));go_wp2_with fail
    go_ret
    exact ⟨by rw [HE.out];rfl,HW.out.below⟩
theorem hold_y {es:List ab} {ys zs:List Int} (h:bb ys=false):dv es ys zs=false:=by simp [dv,h]
theorem hold_z {es:List ab} {ys zs:List Int} (h:bb zs=false):dv es ys zs=false:=by simp [dv,h]
theorem hold_e {es:List ab} {ys zs:List Int} {k:Nat} (hk:k<es.length) (h:cy es ys zs k=false):dv es ys zs=false:=by
 have:c6 es.length (cy es ys zs)=false:=bE hk h;simp [dv,this]
theorem wu {es:List ab} {ys zs:List Int} (hy:bb ys=true) (hz:bb zs=true) (h:∀ j,j<es.length→cy es ys zs j=true):dv es ys zs=true:=by
 have:c6 es.length (cy es ys zs)=true:=aU h;simp [dv,this,hy,hz]
theorem uv (w:World) (rows cols:Int) (eo yo zo:Option Addr) (n c m c' k c'':Nat) (l:List ab) (ys zs:List Int) (hg:aQ rows cols l=true) (hl:l.length=n) (hr:RdC w eo (cellsOf ab.cells l)) (hn:n≤9007199254740992)
 (hy:ys.length=m) (hyr:RdC w yo (cellsOf aP ys)) (hm:(m:Int)=rows) (hz:zs.length=k) (hzr:RdC w zo (cellsOf aP zs)) (hk:(k:Int)=cols) (hyo:∀ x ∈ ys,ar x) :
 Calls Tryz.prog 137 #[.agg #[.int .i64 rows,.int .i64 cols,.slice eo n c],.slice yo m c',.slice zo k c''] w fun e w'=>e = .returned (.bool (dv l ys zs))∧Below w.heap.size w w':=by
 have hhd:=fJ hg;have hm':m≤64:=by omega
 have hk':k≤64:=by omega
 have HMR:=yA hm;have HKC:=yA hk;have HL:=yA hl;have HR:=yA hr;have HG:=yA hg;have HY:=yA hy;have HYR:=yA hyr;have HZ:=yA hz;have HZR:=yA hzr;have HYO:=yA hyo;clear hl hr hg hy hyr hz hzr hm hk hhd hyo;have HW:=yA (bV.begin w rows cols (.slice eo n c));go_enter Tryz.func137,Tryz.ntmps137
 go_wp2_with fail
 generalize w.alloc (.cells #[.int .i64 rows,.int .i64 cols,.slice eo n c] 28)=W at *;have HHE:=yA (show ∃ H0,w.heap.size=H0 from ⟨_,rfl⟩);obtain ⟨H0,hH0⟩:=HHE.out;rw [hH0] at HW ⊢;have HH:=yA hH0;clear hH0 HHE;go_loop [7] (fun i=>Hid (∃ j:Nat,i = .int .i64 j∧j≤m∧∀ (q:Nat) (x:Int),q<j→ys[q]?=some x→0≤x)) (fun i=>m - (intOf i).toNat)
 case atStart=>exact yA ⟨0,rfl,yQ _,fun q x h=>absurd h (zz q)⟩
 case round=>
  obtain ⟨j,rfl,hj,hall⟩:=hrel.out;clear hrel;have HALL:=yA hall;clear hall;by_cases hlt:j<m
  · obtain ⟨x,hx⟩:∃ x,ys[j]?=some x:=⟨ys[j]'(by rw [HY.out];exact hlt),yC _⟩
    obtain ⟨b,o,rfl,_⟩:=HYR.out.place (by rw [cellsOf_length _ 1 aT,HY.out];omega);have hc:=dV (HYR.out.keep (Keep.of_below HW.out.below (yB _) (fun _=>False)) (fun _ _ _=>id)) hx;have HX:=yA hx;clear hx;by_cases h0:x<0
    · have HE:=yA (hold_y (es:=l) (ys:=ys) (zs:=zs) (gW HX.out h0))
      go_wp2_with fail
      go_ret
      exact ⟨by rw [HE.out];rfl,HW.out.below⟩
    · have h0':0≤x:=by omega
      have HA:=yA (show ∀ (q:Nat) (y:Int),q<j+1→ys[q]?=some y→0≤y from fun q y hq hy=>by
       rcases yW.1 hq with hq | rfl
       · exact HALL.out q y hq hy
       · rw [HX.out] at hy;cases hy;exact h0')
      clear h0;go_wp2_with fail
      go_round
      case rel=>exact yA ⟨j+1,by go_num,by omega,HA.out⟩
      case measure=>simp [intOf];omega
  · obtain rfl:m=j:=by omega
    have HAy:=yA (eP (l:=ys) (fun q x hx=>HALL.out q x (by rw [←HY.out];exact (yD.1 hx).1) hx));clear HALL hlt hj;go_wp2_with fail
    go_loop [8] (fun i=>Hid (∃ j:Nat,i = .int .i64 j∧j≤k∧∀ (q:Nat) (x:Int),q<j→zs[q]?=some x→0≤x)) (fun i=>k - (intOf i).toNat)
    case atStart=>exact yA ⟨0,rfl,yQ _,fun q x h=>absurd h (zz q)⟩
    case round=>
     obtain ⟨j,rfl,hj,hall⟩:=hrel.out;clear hrel;have HALL:=yA hall;clear hall;by_cases hlt:j<k
     · obtain ⟨x,hx⟩:∃ x,zs[j]?=some x:=⟨zs[j]'(by rw [HZ.out];exact hlt),yC _⟩
       obtain ⟨b,o,rfl,_⟩:=HZR.out.place (by rw [cellsOf_length _ 1 aT,HZ.out];omega);have hc:=dV (HZR.out.keep (Keep.of_below HW.out.below (yB _) (fun _=>False)) (fun _ _ _=>id)) hx;have HX:=yA hx;clear hx;by_cases h0:x<0
       · have HE:=yA (hold_z (es:=l) (ys:=ys) (zs:=zs) (gW HX.out h0))
         go_wp2_with fail
         go_ret
         exact ⟨by rw [HE.out];rfl,HW.out.below⟩
       · have h0':0≤x:=by omega
         have HA:=yA (show ∀ (q:Nat) (y:Int),q<j+1→zs[q]?=some y→0≤y from fun q y hq hy=>by
          rcases yW.1 hq with hq | rfl
          · exact HALL.out q y hq hy
          · rw [HX.out] at hy;cases hy;exact h0')
         clear h0;go_wp2_with fail
         go_round
         case rel=>exact yA ⟨j+1,by go_num,by omega,HA.out⟩
         case measure=>simp [intOf];omega
     · obtain rfl:k=j:=by omega
       have HAz:=yA (eP (l:=zs) (fun q x hx=>HALL.out q x (by rw [←HZ.out];exact (yD.1 hx).1) hx));clear HALL hlt hj;go_wp2_with fail
       go_loopw [9] (fun i wr=>Hid (∃ j:Nat,i = .int .i64 j∧j≤n∧(∀ q,q<j→cy l ys zs q=true)∧bV w rows cols (.slice eo n c) H0 wr)) (fun i _=>n - (intOf i).toNat)
       case atStart=>exact yA ⟨0,rfl,yQ _,bB,HW.out⟩
       case round=>
        obtain ⟨j,rfl,hj,hall,hrel1⟩:=hrel.out;clear hrel;obtain ⟨g0,g1,g2,gf⟩:=cells3 hrel1.g;have hs0:H0<wr.heap.size:=lt_of_block hrel1.g;have HR1:=yA hrel1;have HALL:=yA hall;clear hrel1 hall;by_cases hlt:j<n
        · obtain ⟨x,hx⟩:∃ x,l[j]?=some x:=⟨l[j]'(by rw [HL.out];exact hlt),yC _⟩
          have hin:=gC HG.out hx;have hr1:x.r.toNat<m:=by have:=HMR.out;omega
          have hr2:x.c.toNat<k:=by have:=HKC.out;omega
          obtain ⟨y,hyx⟩:∃ y,ys[x.r.toNat]?=some y:=⟨ys[x.r.toNat]'(by rw [HY.out];exact hr1),yC _⟩;obtain ⟨z,hzx⟩:∃ z,zs[x.c.toNat]?=some z:=⟨zs[x.c.toNat]'(by rw [HZ.out];exact hr2),yC _⟩;obtain ⟨b,o,rfl,_⟩:=HR.out.place (by rw [cellsOf_length _ 3 ab.cells_length,HL.out];omega);obtain ⟨b1,o1,rfl,_⟩:=HYR.out.place (by rw [cellsOf_length _ 1 aT,HY.out];omega);obtain ⟨b2,o2,rfl,_⟩:=HZR.out.place (by rw [cellsOf_length _ 1 aT,HZ.out];omega);have hkb:=Keep.of_below HR1.out.below (yB _) (fun _=>False);obtain ⟨x0,x1,x2⟩:=cH (HR.out.keep hkb (fun _ _ _=>id)) hx;have yc:=dV (HYR.out.keep hkb (fun _ _ _=>id)) hyx;have zc:=dV (HZR.out.keep hkb (fun _ _ _=>id)) hzx;have hb0:b<wr.heap.size:=yL wr _ x0;have hb1:b1<wr.heap.size:=yL wr _ yc;have hb2:b2<wr.heap.size:=yL wr _ zc;have hyb:=HYO.out y (List.mem_of_getElem? hyx);obtain ⟨hyb1,hyb2⟩:=hyb;have hyn:=iW HAy.out hyx;obtain ⟨e1,e2,e3,e4,e5,e6⟩:=hin;have HX:=yA hx;have HEQ:=yA (mY hx hyx hzx);clear hx hyx hzx hkb;by_cases h0:z<x.w - y
          · have HE:=yA (hold_e (es:=l) (ys:=ys) (zs:=zs) (by rw [HL.out];exact hlt) (show cy l ys zs j=false by rw [HEQ.out];exact decide_eq_false (by omega)))
            go_wp2_with fail
            go_quiet (fail)
            go_wp2_with fail
            go_ret
            exact ⟨by rw [HE.out];rfl,below_drewN (HR1.out.one _).below _⟩
          · have h0':x.w - y≤z:=by omega
            have HE:=yA (show cy l ys zs j=true by rw [HEQ.out];exact decide_eq_true h0');clear h0;go_wp2_with fail
            go_quiet (fail)
            have HN:=yA (HR1.out.one (.cells #[.int .i64 x.r,.int .i64 x.c,.int .i64 x.w] 114));go_wp2_with fail
            go_roundw
            case rel=>exact yA ⟨j+1,by go_num,by omega,aX HALL.out HE.out,HN.out.drewN _⟩
            case measure=>simp [intOf];omega
        · obtain rfl:n=j:=by omega
          have HE:=yA (wu (es:=l) HAy.out HAz.out (fun q hq=>HALL.out q (by rw [HL.out] at hq;exact hq)));go_wp2_with fail
          go_ret
          exact ⟨by rw [HE.out];rfl,HR1.out.below⟩
theorem wv (w:World) (yo zo:Option Addr) (m c' k c'':Nat) (ys zs:List Int) (hm:m≤9007199254740992) (hk:k≤9007199254740992)
 (hy:ys.length=m) (hyr:RdC w yo (cellsOf aP ys)) (hz:zs.length=k) (hzr:RdC w zo (cellsOf aP zs)) (hyn:bb ys=true) (hzn:bb zs=true) :
 Calls Tryz.prog 138 #[.slice yo m c',.slice zo k c''] w fun e w'=>e = .returned (sumV (cY ys zs))∧w=w':=by
 have HY:=yA hy;have HYR:=yA hyr;have HZ:=yA hz;have HZR:=yA hzr;have HYN:=yA hyn;have HZN:=yA hzn;clear hy hyr hz hzr hyn hzn;go_enter Tryz.func138,Tryz.ntmps138
 go_wp2_with fail
 go_loop [6,7] (fun a i=>Hid (∃ (j:Nat) (t:Int),a = .int .i64 t∧i = .int .i64 j∧j≤m∧sumF 0 (([]:List Int)++ys.take j)=some t)) (fun _ i=>m - (intOf i).toNat)
 case atStart=>exact yA ⟨0,0,rfl,rfl,yQ _,by rw [List.take_zero,List.append_nil];exact rfl⟩
 case round=>
  obtain ⟨j,t,rfl,rfl,hj,ht⟩:=hrel.out;clear hrel;have HT:=yA ht;clear ht;by_cases hlt:j<m
  · obtain ⟨x,hx⟩:∃ x,ys[j]?=some x:=⟨ys[j]'(by rw [HY.out];exact hlt),yC _⟩
    obtain ⟨b,o,rfl,_⟩:=HYR.out.place (by rw [cellsOf_length _ 1 aT,HY.out];omega);have hc:=dV HYR.out hx;obtain ⟨s1,s2,s3,s4,s5⟩:=kv (pre:=([]:List Int)) rfl HYN.out hx HT.out;have S4:=yA s4;have S5:=yA s5;clear hx s4 s5;by_cases h0:4611686018427387903 - t<x
    · have HE:=yA (show cY ys zs=none by have:=S4.out h0 zs;simpa [cY] using this)
      go_wp2_with fail
      go_ret2
      exact ⟨by rw [HE.out];rfl,rfl⟩
    · have h0':x≤4611686018427387903 - t:=by omega
      have HA:=yA (S5.out h0');clear h0;go_wp2_with fail
      go_round
      case rel=>exact yA ⟨j+1,t+x,by first | rfl | go_num,by go_num,by omega,HA.out⟩
      case measure=>simp [intOf];omega
  · obtain rfl:m=j:=by omega
    have HAy:=yA (show sumF 0 (ys)=some t by
     have:=HT.out;rw [zh (by rw [HY.out];exact yB _)] at this
     simpa using this)
    clear HT hlt hj;go_wp2_with fail
    go_loop [6,8] (fun a i=>Hid (∃ (j:Nat) (t:Int),a = .int .i64 t∧i = .int .i64 j∧j≤k∧sumF 0 (ys++zs.take j)=some t)) (fun _ i=>k - (intOf i).toNat)
    case atStart=>exact yA ⟨0,t,rfl,rfl,yQ _,by rw [List.take_zero,List.append_nil];exact HAy.out⟩
    case round=>
     obtain ⟨j,t,rfl,rfl,hj,ht⟩:=hrel.out;clear hrel;have HT:=yA ht;clear ht;by_cases hlt:j<k
     · obtain ⟨x,hx⟩:∃ x,zs[j]?=some x:=⟨zs[j]'(by rw [HZ.out];exact hlt),yC _⟩
       obtain ⟨b,o,rfl,_⟩:=HZR.out.place (by rw [cellsOf_length _ 1 aT,HZ.out];omega);have hc:=dV HZR.out hx;obtain ⟨s1,s2,s3,s4,s5⟩:=kv (pre:=ys) HYN.out HZN.out hx HT.out;have S4:=yA s4;have S5:=yA s5;clear hx s4 s5;by_cases h0:4611686018427387903 - t<x
       · have HE:=yA (show cY ys zs=none by have:=S4.out h0 [];simpa [cY] using this)
         go_wp2_with fail
         go_ret2
         exact ⟨by rw [HE.out];rfl,rfl⟩
       · have h0':x≤4611686018427387903 - t:=by omega
         have HA:=yA (S5.out h0');clear h0;go_wp2_with fail
         go_round
         case rel=>exact yA ⟨j+1,t+x,by first | rfl | go_num,by go_num,by omega,HA.out⟩
         case measure=>simp [intOf];omega
     · obtain rfl:k=j:=by omega
       have HAz:=yA (show sumF 0 (ys++zs)=some t by
        have:=HT.out;rw [zh (by rw [HZ.out];exact yB _)] at this
        simpa using this)
       clear HT hlt hj;have HE:=yA (show cY ys zs=some t from HAz.out);go_wp2_with fail
       go_ret2
       exact ⟨by rw [HE.out];rfl,rfl⟩
end Go.Proofs.YtcaicgipibcicaaGreat
