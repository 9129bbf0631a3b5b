/- Chapter 18 in the program: may pairs be, lengths, graphs. -/
import Derived.Test.YtcaicgipibcicaaGreatQClaim
import Derived.WalkMore
import Derived.Test.YtcaicgipibcicaaGreatQRFit3
import Derived.Test.YtcaicgipibcicaaGreatQHeldTail
import Derived.Lib.QuietBelow
import Derived.Deep.RegionWith
import Derived.Test.YtcaicgipibcicaaGreatQLoadE
set_option maxRecDepth 100000
set_option maxHeartbeats 16000000
set_option linter.unusedSimpArgs false
set_option linter.unusedVariables false
open Go renaming heap_alloc_new→wF,lt_of_block→wJ
open Go.Lib renaming hid→wB
open Go.RowKit.Below renaming refl→wI
open Go.World renaming block_lt_of_cell?→wK
open List renaming append_assoc→wP,getElem?_eq_getElem→wE,getElem?_eq_some_iff→wD,mem_of_getElem?→wM,take_of_length_le→xl,take_succ_eq_append_getElem→xp
open Nat renaming le_refl→wC,lt_succ_iff_lt_or_eq→xy,not_lt_zero→xP,zero_le→xd
open Option.some renaming injEq→xb
namespace Go.Proofs.YtcaicgipibcicaaGreat
open Go.RowKit Go.Sort
def dc (l:List ab) (ps:List ai):Int:=if cO l ps then 0 else 180
theorem mW {l:List ab} {ps:List ai} (h:cO l ps=false):dc l ps=180:=by simp [dc,h]
theorem lX {l:List ab} {ps:List ai} (h:cO l ps=true):dc l ps=0:=by simp [dc,h]
structure fI (w:World) (rows cols:Int) (ev pv yv zv:Value) (ps:List ai) (i:Nat) (H0 H1:Nat) (wr:World):Prop where
 g:wr.heap[H0]?=some (.cells #[.int .i64 rows,.int .i64 cols,ev,pv,yv,zv] 164 (0,0))
 t:∃ cs:Array Value,wr.heap[H1]?=some (.cells cs 131 (0,0))∧cs.size=64∧∀ j:Nat,j<64→cs[j]?=some (.bool (!fA ps i j))
 below:Below w.heap.size w wr
theorem fI.keep {w:World} {rows cols:Int} {ev pv yv zv:Value} {ps:List ai} {i:Nat} {H0 H1:Nat} {wr w':World} (h:fI w rows cols ev pv yv zv ps i H0 H1 wr) (hb:Below wr.heap.size wr w'):fI w rows cols ev pv yv zv ps i H0 H1 w':=by
 have hk:=Keep.of_below hb (wC _) (fun _=>False);obtain ⟨cs,h1,h2,h3⟩:=h.t;exact ⟨hk.old h.g id,⟨cs,hk.old h1 id,h2,h3⟩,Below.next h.below hb⟩
theorem fI.one {w:World} {rows cols:Int} {ev pv yv zv:Value} {ps:List ai} {i:Nat} {H0 H1:Nat} {wr:World} (h:fI w rows cols ev pv yv zv ps i H0 H1 wr) (o:Obj):fI w rows cols ev pv yv zv ps i H0 H1 (wr.alloc o):=
 h.keep ((wI _ _).alloc (wC _) _)
theorem fI.taken {w:World} {rows cols:Int} {ev pv yv zv:Value} {ps:List ai} {i:Nat} {H0 H1:Nat} {wr:World} (h:fI w rows cols ev pv yv zv ps i H0 H1 wr) {c:Nat} (hc:c<64):wr.cell? ⟨H1,c,none⟩=some (.bool (!fA ps i c))∧wr.frozen? ⟨H1,c,none⟩=false∧H1<wr.heap.size:=by
 obtain ⟨cs,h1,h2,h3⟩:=h.t;exact ⟨by rw [cell_of_row wr H1 c _ _ (0,0) h1];exact h3 c hc,frozen_of_row wr H1 c _ _ h1,wJ h1⟩
theorem fI.next {w:World} {rows cols:Int} {ev pv yv zv:Value} {ps:List ai} {i:Nat} {H0 H1:Nat} {wr:World} (h:fI w rows cols ev pv yv zv ps i H0 H1 wr) (hw:w.heap.size≤H1) (hne:H0≠H1) {x:ai} (hx:ps[i]?=some x) {c:Nat} (hc:x.c=(c:Int)):fI w rows cols ev pv yv zv ps (i+1) H0 H1 (wr.setCell ⟨H1,c,none⟩ (.bool true)):=by
 obtain ⟨cs,h1,h2,h3⟩:=h.t;refine ⟨(Keep.setCell _ H1 c _).old h.g hne,⟨_,ae h1 c _,by simpa using h2,fun j hj=>?_⟩,h.below.trans ((Keep.setCell _ H1 c _).below h.below.size (fun k hk he=>by omega))⟩;rw [qr hx,Array.getElem?_setIfInBounds];by_cases hj2:c=j
 · subst hj2
   simp [h2,hj,hc]
 · rw [if_neg hj2,h3 j hj]
   have:decide (x.c≠(j:Int))=true:=decide_eq_true (by omega);rw [this,Bool.and_true]
theorem lY (w:World) (rows cols:Int) (eo po:Option Addr) (n c m c':Nat) (yv zv:Value) (l:List ab) (ps:List ai) (hg:aT rows cols l=true) (hl:l.length=n) (hr:RdC w eo (cellsOf ab.cells l)) (hn:n≤9007199254740992)
 (hp:ps.length=m) (hpr:RdC w po (cellsOf ai.cells ps)) (hm:m≤9007199254740992) :
 Calls Tryz.prog 89 #[.agg #[.int .i64 rows,.int .i64 cols,.slice eo n c,.slice po m c',yv,zv]] w fun e w'=>e = .returned (.int .i64 (dc l ps))∧Below w.heap.size w w':=by
 have HL:=wB hl;have HR:=wB hr;have HG:=wB hg;have HP:=wB hp;have HPR:=wB hpr;clear hl hr hg hp hpr;go_enter Tryz.func89,Tryz.ntmps89
 go_wp2_with fail
 have hA:∀ cs:Array Value,cs=#[.bool false,.bool false,.bool false,.bool false,.bool false,.bool false,.bool false,.bool false,.bool false,.bool false,.bool false,.bool false,.bool false,.bool false,.bool false,.bool false,.bool false,.bool false,.bool false,.bool false,.bool false,.bool false,.bool false,.bool false,.bool false,.bool false,.bool false,.bool false,.bool false,.bool false,.bool false,.bool false,.bool false,.bool false,.bool false,.bool false,.bool false,.bool false,.bool false,.bool false,.bool false,.bool false,.bool false,.bool false,.bool false,.bool false,.bool false,.bool false,.bool false,.bool false,.bool false,.bool false,.bool false,.bool false,.bool false,.bool false,.bool false,.bool false,.bool false,.bool false,.bool false,.bool false,.bool false,.bool false]→cs.size=64∧∀ j:Nat,j<64→cs[j]?=some (.bool (!fA ps 0 j)):=fun cs h=>by
  rw [show cs=Array.replicate 64 (.bool false) from h];exact ⟨by simp,fun j hj=>by rw [Array.getElem?_replicate,if_pos hj,qs];rfl⟩
 generalize hcs:(#[.bool false,.bool false,.bool false,.bool false,.bool false,.bool false,.bool false,.bool false,.bool false,.bool false,.bool false,.bool false,.bool false,.bool false,.bool false,.bool false,.bool false,.bool false,.bool false,.bool false,.bool false,.bool false,.bool false,.bool false,.bool false,.bool false,.bool false,.bool false,.bool false,.bool false,.bool false,.bool false,.bool false,.bool false,.bool false,.bool false,.bool false,.bool false,.bool false,.bool false,.bool false,.bool false,.bool false,.bool false,.bool false,.bool false,.bool false,.bool false,.bool false,.bool false,.bool false,.bool false,.bool false,.bool false,.bool false,.bool false,.bool false,.bool false,.bool false,.bool false,.bool false,.bool false,.bool false,.bool false]:Array Value)=cs0;have HA:=wB (hA cs0 hcs.symm);clear hA hcs
 have HW:=wB (show fI w rows cols (.slice eo n c) (.slice po m c') yv zv ps 0 w.heap.size (w.heap.size+1) ((w.alloc (.cells #[.int .i64 rows,.int .i64 cols,.slice eo n c,.slice po m c',yv,zv] 164)).alloc (.cells cs0 131)) from by
  refine ⟨(Keep.alloc (fun _=>False) _ _).old (wF w _) id,⟨cs0,?_,HA.out⟩,((wI w.heap.size w).alloc (wC _) _).alloc (by simp) _⟩;have:=wF (w.alloc (.cells #[.int .i64 rows,.int .i64 cols,.slice eo n c,.slice po m c',yv,zv] 164)) (.cells cs0 131);rw [show (w.alloc (.cells #[.int .i64 rows,.int .i64 cols,.slice eo n c,.slice po m c',yv,zv] 164)).heap.size=w.heap.size+1 by simp] at this;exact this)
 clear HA;generalize (w.alloc (.cells #[.int .i64 rows,.int .i64 cols,.slice eo n c,.slice po m c',yv,zv] 164)).alloc (.cells cs0 131)=W at *;have HHE:=wB (show ∃ H0 H1,w.heap.size=H0∧w.heap.size+1=H1 from ⟨_,_,rfl,rfl⟩);obtain ⟨H0,H1,hH0,hH1⟩:=HHE.out;have HH1:=wB (show w.heap.size≤H1 by omega);have hne:¬ H0=H1:=by omega
 rw [hH1,hH0] at HW;rw [hH1,hH0];have HH:=wB hH0;clear hH0 hH1 HHE;go_loopw [4,11] (fun v i wr=>Hid (∃ k:Nat,v = .int .i64 (lu ps k)∧i = .int .i64 k∧k≤m∧(∀ j,j<k→iG l ps j=true)∧fI w rows cols (.slice eo n c) (.slice po m c') yv zv ps k H0 H1 wr)) (fun _ i _=>m - (intOf i).toNat)
 case atStart=>exact wB ⟨0,rfl,rfl,xd _,eC,HW.out⟩
 case round=>
  obtain ⟨k,rfl,rfl,hk,hall,hrel1⟩:=hrel.out;clear hrel;obtain ⟨g0,g1,g2,g3,g4,g5⟩:=cN hrel1.g;have hs0:H0<wr.heap.size:=wJ hrel1.g;have hs1:H1<wr.heap.size:=by obtain ⟨cs,h1,_⟩:=hrel1.t;exact wJ h1
  have HR1:=wB hrel1;have HALL:=wB hall;clear hrel1 hall;by_cases hlt:k<m
  · obtain ⟨x,hx⟩:∃ x,ps[k]?=some x:=⟨ps[k]'(by rw [HP.out];exact hlt),wE _⟩
    obtain ⟨b,o,rfl,_⟩:=HPR.out.place (by rw [cellsOf_length _ 2 ai.cells_length,HP.out];omega);obtain ⟨x0,x1⟩:=na (HPR.out.keep (Keep.of_below HR1.out.below (wC _) (fun _=>False)) (fun _ _ _=>id)) hx;have HX:=wB hx;clear hx;have HBAD:=wB (fun h=>mW (qt (es:=l) HX.out h));have HEQ:=wB (mH (es:=l) HX.out);have HPREV:=wB (lv HX.out);have HWT:=wB (fun wx hb=>lm wx rows cols eo n c (.slice (some ⟨b,o,none⟩) m c') yv zv x.r x.c l HG.out HL.out (HR.out.below (Below.next HR1.out.below hb)) hn);generalize lu ps k=pr at *;by_cases h1:x.r≤pr
    · have HF:=wB (HBAD.out (by rw [HEQ.out,decide_eq_false (show ¬ pr<x.r by omega)];rfl))
      go_wp2_with fail
      go_ret
      exact ⟨by rw [HF.out];rfl,(HR1.out.one _).below⟩
    have h1':pr<x.r:=by omega
    have HE1:=wB (show iG l ps k=(decide (aQ l x.r x.c≠0) && fA ps k x.c) by rw [HEQ.out,decide_eq_true h1',Bool.true_and]);have h1d:decide (x.r≤pr)=false:=decide_eq_false h1;clear h1 HEQ;go_wp2_with fail
    have hW2:∀ W2,W2=wr.alloc (.cells #[.int .i64 x.r,.int .i64 x.c] 69)→W2.cell? ⟨wr.heap.size,0,none⟩=some (.int .i64 x.r)∧W2.cell? ⟨wr.heap.size,1,none⟩=some (.int .i64 x.c)∧Below wr.heap.size wr W2:=fun W2 h=>by
     subst h;exact ⟨by go_simp,by go_simp,(wI _ _).alloc (wC _) _⟩
    generalize wr.alloc (.cells #[.int .i64 x.r,.int .i64 x.c] 69)=W2 at *;obtain ⟨q0,q1,hbw⟩:=hW2 W2 rfl;clear hW2;have HBW:=wB hbw;have HRB:=wB (HR1.out.keep hbw);clear hbw;have hs2:wr.heap.size<W2.heap.size:=wK W2 _ q0;refine (HWT.out W2 HBW.out).mono ?_;rintro e w2 ⟨rfl,hb2⟩;have hk2:=Keep.of_below hb2 (wC _) (fun _=>False);have r0:=hk2.cell q0 id;have r1:=hk2.cell q1 id;have HR2:=wB (HRB.out.keep hb2);have HIN:=wB (eJ HG.out x.r x.c);have hbx:0≤(0:Int):=by omega
    clear hb2 hk2 q0 q1 hs2 hs0 g0 g1 g2 g3 g4 g5 x0 x1;generalize wr.heap.size=H2 at *;by_cases h2:aQ l x.r x.c=0
    · have HF:=wB (HBAD.out (by rw [HE1.out,h2];rfl))
      generalize aQ l x.r x.c=wt at *;have h2d:(wt==0)=true:=by simp [h2]
      clear h2;go_wp2_with fail
      go_ret
      exact ⟨by rw [HF.out];rfl,HR2.out.below⟩
    · have HE2:=wB (show iG l ps k=fA ps k x.c by rw [HE1.out,decide_eq_true h2,Bool.true_and])
      have hin:0≤x.c∧x.c<64:=by
       rcases HIN.out with ⟨h0,_⟩ | ⟨_,_,_,_,h3,h4,_⟩
       · exact absurd h0 h2
       · have:=fO HG.out;omega
      obtain ⟨hc1,hc2⟩:=hin;obtain ⟨t0,t1,t2⟩:=HR2.out.taken (show x.c.toNat<64 by omega);have HCC:=wB (show ((x.c.toNat:Nat):Int)=x.c by omega);rw [HCC.out] at t0;generalize aQ l x.r x.c=wt at *;have h2d:(wt==0)=false:=by simp [h2]
      clear h2;cases hfr:fA ps k x.c with
      | false=>
        have HF:=wB (HBAD.out (by rw [HE2.out,hfr]));rw [hfr] at t0;clear hfr;go_wp2_with fail
        go_ret
        exact ⟨by rw [HF.out];rfl,HR2.out.below⟩
      | true=>
        have HA:=wB (dP HALL.out (by rw [HE2.out,hfr]));rw [hfr] at t0;clear hfr;have HNX:=wB (HR2.out.next HH1.out hne HX.out (HCC.out.symm));go_wp2_with fail
        go_roundw
        case rel=>exact wB ⟨k+1,by rw [HPREV.out],by go_num,by omega,HA.out,HNX.out⟩
        case measure=>simp [intOf];omega
  · obtain rfl:m=k:=by omega
    have HF:=wB (lX (l:=l) (ps:=ps) (bY (fun j hj=>HALL.out j (by rw [HP.out] at hj;exact hj))));go_wp2_with fail
    go_ret
    exact ⟨by rw [HF.out];rfl,HR1.out.below⟩
def cd:List Int→Int
 | []=>0
 | e::l=>if e≠0 then e else cd l
theorem ky {l:List Int} (h:∀ e ∈ l,e=0):cd l=0:=by
 induction l with
 | nil=>rfl
 | cons e l ih=>rw [cd,h e (by simp),if_neg (by simp)];exact ih (fun x hx=>h x (by simp [hx]))
theorem jL:∀ {l:List Int} {k:Nat} {e:Int},l[k]?=some e→e≠0→(∀ j,j<k→l[j]?=some 0)→cd l=e
 | [],k,e,h,_,_=>by simp at h
 | a::l,0,e,h,hne,_=>by
   simp only [List.getElem?_cons_zero,xb] at h;subst h;rw [cd,if_pos hne]
 | a::l,k+1,e,h,hne,hz=>by
   simp only [List.getElem?_cons_succ] at h;have h0:=hz 0 (by omega);simp only [List.getElem?_cons_zero,xb] at h0;subst h0;rw [cd,if_neg (by simp)];exact jL h hne (fun j hj=>by have:=hz (j+1) (by omega);simpa using this)
theorem first_any (w:World) (b n c:Nat) (cl:Value) (gs:List Nat) (es:List Int) (hgn:gs.length=n) (hen:es.length=n) (hn:n≤9007199254740992)
 (hcell:∀ (k:Nat) (g:Nat),gs[k]?=some g→w.cell? ⟨b,k,none⟩=some (.func (.func g) #[cl] #[]))
 (hent:∀ g ∈ gs,∀ args w,(callFunc g args).run Tryz.prog w = .ok (.enter g args) w)
 (hfn:∀ (k:Nat) (g:Nat) (e:Int),gs[k]?=some g→es[k]?=some e→(∀ j:Nat,j<k→es[j]?=some 0)→∀ wx,Below w.heap.size w wx→Calls Tryz.prog g #[cl] wx fun r w'=>r = .returned (.int .i64 e)∧Below wx.heap.size wx w') :
 Calls Tryz.prog 87 #[.slice (some ⟨b,0,none⟩) n c] w fun e w'=>e = .returned (.int .i64 (cd es))∧Below w.heap.size w w':=by
 have HGN:=wB hgn;have HEN:=wB hen;have HC:=wB hcell;have HF:=wB hfn;have HT:=wB hent;clear hgn hen hcell hfn hent;go_enter Tryz.func87,Tryz.ntmps87
 go_wp2_with fail
 go_loopw [8] (fun i wr=>Hid (∃ k:Nat,i = .int .i64 k∧k≤n∧(∀ j:Nat,j<k→es[j]?=some 0)∧Below w.heap.size w wr)) (fun i _=>n - (intOf i).toNat)
 case atStart=>exact wB ⟨0,rfl,xd _,fun j hj=>absurd hj (xP j),wI _ _⟩
 case round=>
  obtain ⟨k,rfl,hk,hall,hbel⟩:=hrel.out;clear hrel;have HALL:=wB hall;have HB:=wB hbel;clear hall hbel;by_cases hlt:k<n
  · obtain ⟨g,hg⟩:∃ g,gs[k]?=some g:=⟨gs[k]'(by rw [HGN.out];exact hlt),wE _⟩
    obtain ⟨e,he⟩:∃ e,es[k]?=some e:=⟨es[k]'(by rw [HEN.out];exact hlt),wE _⟩;have hc:=(Keep.of_below HB.out (wC _) (fun _=>False)).cell (HC.out k g hg) id;have HCALL:=wB (HF.out k g e hg he HALL.out wr HB.out);have HE:=wB he;have hrun:=HT.out g (wM hg);clear hg he;go_wp2_with fail
    refine HCALL.out.mono ?_;rintro r w2 ⟨rfl,hb2⟩;have HB2:=wB (Below.next HB.out hb2);clear hb2 hc hrun;by_cases h0:e=0
    · have HZ:=wB (show ∀ j:Nat,j<k+1→es[j]?=some 0 from fun j hj=>by
       rcases xy.1 hj with hj | rfl
       · exact HALL.out j hj
       · rw [HE.out,h0])
      have h1:(e==0)=true:=by simp [h0]
      have h2:(e != 0)=false:=by simp [h0]
      clear h0;go_wp2_with fail
      go_roundw
      case rel=>exact wB ⟨k+1,by go_num,by omega,HZ.out,HB2.out⟩
      case measure=>simp [intOf];omega
    · have HZ:=wB (jL HE.out h0 HALL.out)
      have h1:(e==0)=false:=by simp [h0]
      have h2:(e != 0)=true:=by simp [h0]
      clear h0;go_wp2_with fail
      go_ret
      exact ⟨by rw [HZ.out];rfl,HB2.out⟩
  · obtain rfl:n=k:=by omega
    have HZ:=wB (ky (l:=es) (fun e he=>by
     obtain ⟨j,hj,rfl⟩:=List.getElem_of_mem he;have h1:=HALL.out j (by rw [HEN.out] at hj;exact hj);rw [wE hj] at h1;exact Option.some.inj h1))
    go_wp2_with fail
    go_ret
    exact ⟨by rw [HZ.out];rfl,HB.out⟩
theorem kz (args:Array Value) (w:World):(callFunc 88 args).run Tryz.prog w = .ok (.enter 88 args) w:=by kernel_rfl
theorem kA (args:Array Value) (w:World):(callFunc 89 args).run Tryz.prog w = .ok (.enter 89 args) w:=by kernel_rfl
theorem mm (args:Array Value) (w:World):(callFunc 90 args).run Tryz.prog w = .ok (.enter 90 args) w:=by kernel_rfl
theorem qW (args:Array Value) (w:World):(callFunc 91 args).run Tryz.prog w = .ok (.enter 91 args) w:=by kernel_rfl
theorem sW (args:Array Value) (w:World):(callFunc 92 args).run Tryz.prog w = .ok (.enter 92 args) w:=by kernel_rfl
structure dH (w:World) (rows cols:Int) (ev pv yv zv:Value) (H0:Nat) (wr:World):Prop where
 g:wr.heap[H0]?=some (.cells #[.int .i64 rows,.int .i64 cols,ev,pv,yv,zv] 164 (0,0))
 below:Below w.heap.size w wr
theorem dH.keep {w:World} {rows cols:Int} {ev pv yv zv:Value} {H0:Nat} {wr w':World} (h:dH w rows cols ev pv yv zv H0 wr) (hb:Below wr.heap.size wr w'):dH w rows cols ev pv yv zv H0 w':=
 ⟨(Keep.of_below hb (wC _) (fun _=>False)).old h.g id,Below.next h.below hb⟩
theorem dH.one {w:World} {rows cols:Int} {ev pv yv zv:Value} {H0:Nat} {wr:World} (h:dH w rows cols ev pv yv zv H0 wr) (o:Obj):dH w rows cols ev pv yv zv H0 (wr.alloc o):=
 h.keep ((wI _ _).alloc (wC _) _)
theorem dH.drewN {w:World} {rows cols:Int} {ev pv yv zv:Value} {H0:Nat} {wr:World} (h:dH w rows cols ev pv yv zv H0 wr) (n:Nat):dH w rows cols ev pv yv zv H0 (wr.drewN n):=⟨h.g,below_drewN h.below n⟩
theorem dH.begin (w:World) (rows cols:Int) (ev pv yv zv:Value):dH w rows cols ev pv yv zv w.heap.size (w.alloc (.cells #[.int .i64 rows,.int .i64 cols,ev,pv,yv,zv] 164)):=
 ⟨wF w _,(wI w.heap.size w).alloc (wC _) _⟩
theorem lZ (w:World) (rows cols:Int) (eo:Option Addr) (n c:Nat) (pv yv zv:Value) (l:List ab) (hl:l.length=n) (hr:RdC w eo (cellsOf ab.cells l)) (hn:n≤9007199254740992) :
 Calls Tryz.prog 88 #[.agg #[.int .i64 rows,.int .i64 cols,.slice eo n c,pv,yv,zv]] w fun e w'=>e = .returned (.int .i64 (bz rows cols l))∧Below w.heap.size w w':=by
 have HW:=wB (dH.begin w rows cols (.slice eo n c) pv yv zv);have HC:=wB (fun wx hb=>ll wx rows cols eo n c l hl (hr.below hb) hn);clear hl hr;go_enter Tryz.func88,Tryz.ntmps88
 go_wp2_with fail
 refine (HC.out _ HW.out.below).mono ?_;rintro e w1 ⟨rfl,hb1⟩;have HB:=wB (Below.next HW.out.below hb1);clear hb1;go_wp2_with fail
 go_ret
 exact ⟨rfl,HB.out⟩
def cy (rows cols:Int) (n m:Nat):Int:=if (n:Int)=rows∧(m:Int)=cols then 0 else 1
theorem nH (w:World) (rows cols:Int) (yo zo:Option Addr) (n m c c':Nat) (ev pv:Value) :
 Calls Tryz.prog 90 #[.agg #[.int .i64 rows,.int .i64 cols,ev,pv,.slice yo n c,.slice zo m c']] w fun e w'=>e = .returned (.int .i64 (cy rows cols n m))∧Below w.heap.size w w':=by
 have HW:=wB (dH.begin w rows cols ev pv (.slice yo n c) (.slice zo m c'));by_cases h1:(n:Int)=rows
 · by_cases h2:(m:Int)=cols
   · have HE:=wB (show cy rows cols n m=0 from if_pos ⟨h1,h2⟩)
     have b1:((n:Int) != rows)=false:=by simp [h1]
     have b2:((m:Int) != cols)=false:=by simp [h2]
     clear h1 h2;go_enter Tryz.func90,Tryz.ntmps90
     go_wp2_with fail
     go_ret
     exact ⟨by rw [HE.out];rfl,HW.out.below⟩
   · have HE:=wB (show cy rows cols n m=1 from if_neg (fun h=>h2 h.2))
     have b1:((n:Int) != rows)=false:=by simp [h1]
     have b2:((m:Int) != cols)=true:=by simp [h2]
     clear h1 h2;go_enter Tryz.func90,Tryz.ntmps90
     go_wp2_with fail
     go_ret
     exact ⟨by rw [HE.out];rfl,HW.out.below⟩
 · have HE:=wB (show cy rows cols n m=1 from if_neg (fun h=>h1 h.1))
   have b1:((n:Int) != rows)=true:=by simp [h1]
   clear h1;go_enter Tryz.func90,Tryz.ntmps90
   go_wp2_with fail
   go_ret
   exact ⟨by rw [HE.out];rfl,HW.out.below⟩
def eQ (es:List ab) (ys zs:List Int):Int:=if ki es ys zs then 0 else 181
theorem l7 {l:List Int} {k:Nat} {x:Int} (hx:l[k]?=some x) (h:x<0):aX l=false:=by
 unfold aX
 rw [List.all_eq_false];exact ⟨x,wM hx,by simpa using h⟩
theorem gL {l:List Int} (h:∀ (j:Nat) (x:Int),l[j]?=some x→0≤x):aX l=true:=by
 unfold aX
 rw [List.all_eq_true];intro x hx;obtain ⟨j,hj,rfl⟩:=List.getElem_of_mem hx;exact decide_eq_true (h j _ (wE hj))
theorem jM {l:List Int} (h:aX l=true) {j:Nat} {x:Int} (hx:l[j]?=some x):0≤x:=of_decide_eq_true (List.all_eq_true.1 h x (wM hx))
theorem wj {es:List ab} {ys zs:List Int} (h:aX ys=false):eQ es ys zs=181:=by simp [eQ,ki,h]
theorem wk {es:List ab} {ys zs:List Int} (h:aX zs=false):eQ es ys zs=181:=by simp [eQ,ki,h]
theorem wm {es:List ab} {ys zs:List Int} {k:Nat} (hk:k<es.length) (h:dV es ys zs k=false):eQ es ys zs=181:=by
 have:cV es.length (dV es ys zs)=false:=cW hk h;simp [eQ,ki,this]
theorem sX {es:List ab} {ys zs:List Int} (hy:aX ys=true) (hz:aX zs=true) (h:∀ j,j<es.length→dV es ys zs j=true):eQ es ys zs=0:=by
 have:cV es.length (dV es ys zs)=true:=bY h;simp [eQ,ki,this,hy,hz]
theorem qX {es:List ab} {ys zs:List Int} {k:Nat} {x:ab} {a b:Int} (hx:es[k]?=some x) (ha:ys[x.r.toNat]?=some a) (hb:zs[x.c.toNat]?=some b):dV es ys zs k=decide (x.w - a≤b):=by
 simp [dV,hx,ha,hb,List.getD]
theorem sY (w:World) (rows cols:Int) (eo yo zo:Option Addr) (n c m c' k c'':Nat) (pv:Value) (l:List ab) (ys zs:List Int) (hg:aT rows cols l=true) (hl:l.length=n) (hr:RdC w eo (cellsOf ab.cells l)) (hn:n≤9007199254740992)
 (hy:ys.length=m) (hyr:RdC w yo (cellsOf bL ys)) (hm:(m:Int)=rows) (hz:zs.length=k) (hzr:RdC w zo (cellsOf bL zs)) (hk:(k:Int)=cols) (hyo:∀ x ∈ ys,ar x) :
 Calls Tryz.prog 91 #[.agg #[.int .i64 rows,.int .i64 cols,.slice eo n c,pv,.slice yo m c',.slice zo k c'']] w fun e w'=>e = .returned (.int .i64 (eQ l ys zs))∧Below w.heap.size w w':=by
 have hhd:=fO hg;have hm':m≤64:=by omega
 have hk':k≤64:=by omega
 have HMR:=wB hm;have HKC:=wB hk;have HL:=wB hl;have HR:=wB hr;have HG:=wB hg;have HY:=wB hy;have HYR:=wB hyr;have HZ:=wB hz;have HZR:=wB hzr;have HYO:=wB hyo;clear hl hr hg hy hyr hz hzr hm hk hhd hyo;have i0:∀ w,(Instr.index 205 (.agg #[.slice yo m c',.slice zo k c'']) (.int .i64 0)).run Tryz.prog w = .ok (.slice yo m c') w:=fun _=>by kernel_rfl
 have i1:∀ w,(Instr.index 205 (.agg #[.slice yo m c',.slice zo k c'']) (.int .i64 1)).run Tryz.prog w = .ok (.slice zo k c'') w:=fun _=>by kernel_rfl
 have HW:=wB (dH.begin w rows cols (.slice eo n c) pv (.slice yo m c') (.slice zo k c''));go_enter Tryz.func91,Tryz.ntmps91
 go_wp2_with fail
 generalize w.alloc (.cells #[.int .i64 rows,.int .i64 cols,.slice eo n c,pv,.slice yo m c',.slice zo k c''] 164)=W at *;have HHE:=wB (show ∃ H0,w.heap.size=H0 from ⟨_,rfl⟩);obtain ⟨H0,hH0⟩:=HHE.out;rw [hH0] at HW ⊢;have HH:=wB hH0;clear hH0 HHE;go_loop [16] (fun i=>Hid (∃ p:Nat,i = .int .i64 p∧p≤2∧(1≤p→aX ys=true)∧(2≤p→aX zs=true))) (fun i=>2 - (intOf i).toNat)
 case atStart=>exact wB ⟨0,rfl,by omega,fun h=>absurd h (by omega),fun h=>absurd h (by omega)⟩
 case round=>
  obtain ⟨p,rfl,hp,hya,hza⟩:=hrel.out;clear hrel;have HYA:=wB hya;have HZA:=wB hza;clear hya hza;have hp3:p=0∨p=1∨p=2:=by omega
  rcases hp3 with rfl | rfl | rfl
  · go_wp2_with fail
    go_loop [21] (fun i=>Hid (∃ j:Nat,i = .int .i64 j∧j≤m∧∀ (q:Nat) (x:Int),q<j→ys[q]?=some x→0≤x)) (fun i=>m - (intOf i).toNat)
    case atStart=>exact wB ⟨0,rfl,xd _,fun q x h=>absurd h (xP q)⟩
    case round=>
     obtain ⟨j,rfl,hj,hall⟩:=hrel.out;clear hrel;have HALL:=wB hall;clear hall;by_cases hlt:j<m
     · obtain ⟨x,hx⟩:∃ x,ys[j]?=some x:=⟨ys[j]'(by rw [HY.out];exact hlt),wE _⟩
       obtain ⟨b,o,rfl,_⟩:=HYR.out.place (by rw [cellsOf_length _ 1 bC,HY.out];omega);have hc:=gm (HYR.out.keep (Keep.of_below HW.out.below (wC _) (fun _=>False)) (fun _ _ _=>id)) hx;have HX:=wB hx;clear hx;by_cases h0:x<0
       · have HE:=wB (wj (es:=l) (ys:=ys) (zs:=zs) (l7 HX.out h0))
         go_wp2_with fail
         go_ret
         exact ⟨by rw [HE.out];rfl,HW.out.below⟩
       · have h0':0≤x:=by omega
         have HA:=wB (show ∀ (q:Nat) (y:Int),q<j+1→ys[q]?=some y→0≤y from fun q y hq hy=>by
          rcases xy.1 hq with hq | rfl
          · exact HALL.out q y hq hy
          · rw [HX.out] at hy;cases hy;exact h0')
         clear h0;go_wp2_with fail
         go_round
         case rel=>exact wB ⟨j+1,by go_num,by omega,HA.out⟩
         case measure=>simp [intOf];omega
     · obtain rfl:m=j:=by omega
       have HA:=wB (gL (l:=ys) (fun q x hx=>HALL.out q x (by rw [←HY.out];exact (wD.1 hx).1) hx));go_wp2_with fail
       go_round
       case rel=>exact wB ⟨1,by go_num,by omega,fun _=>HA.out,fun h=>absurd h (by omega)⟩
       case measure=>simp [intOf]
  · go_wp2_with fail
    go_loop [21] (fun i=>Hid (∃ j:Nat,i = .int .i64 j∧j≤k∧∀ (q:Nat) (x:Int),q<j→zs[q]?=some x→0≤x)) (fun i=>k - (intOf i).toNat)
    case atStart=>exact wB ⟨0,rfl,xd _,fun q x h=>absurd h (xP q)⟩
    case round=>
     obtain ⟨j,rfl,hj,hall⟩:=hrel.out;clear hrel;have HALL:=wB hall;clear hall;by_cases hlt:j<k
     · obtain ⟨x,hx⟩:∃ x,zs[j]?=some x:=⟨zs[j]'(by rw [HZ.out];exact hlt),wE _⟩
       obtain ⟨b,o,rfl,_⟩:=HZR.out.place (by rw [cellsOf_length _ 1 bC,HZ.out];omega);have hc:=gm (HZR.out.keep (Keep.of_below HW.out.below (wC _) (fun _=>False)) (fun _ _ _=>id)) hx;have HX:=wB hx;clear hx;by_cases h0:x<0
       · have HE:=wB (wk (es:=l) (ys:=ys) (zs:=zs) (l7 HX.out h0))
         go_wp2_with fail
         go_ret
         exact ⟨by rw [HE.out];rfl,HW.out.below⟩
       · have h0':0≤x:=by omega
         have HA:=wB (show ∀ (q:Nat) (y:Int),q<j+1→zs[q]?=some y→0≤y from fun q y hq hy=>by
          rcases xy.1 hq with hq | rfl
          · exact HALL.out q y hq hy
          · rw [HX.out] at hy;cases hy;exact h0')
         clear h0;go_wp2_with fail
         go_round
         case rel=>exact wB ⟨j+1,by go_num,by omega,HA.out⟩
         case measure=>simp [intOf];omega
     · obtain rfl:k=j:=by omega
       have HA:=wB (gL (l:=zs) (fun q x hx=>HALL.out q x (by rw [←HZ.out];exact (wD.1 hx).1) hx));go_wp2_with fail
       go_round
       case rel=>exact wB ⟨2,by go_num,by omega,fun _=>HYA.out (wC _),fun _=>HA.out⟩
       case measure=>simp [intOf]
  · have HYN:=wB (HYA.out (by omega))
    have HZN:=wB (HZA.out (by omega));obtain ⟨g0,g1,g2,g3,g4,g5⟩:=cN HW.out.g;go_wp2_with fail
    go_loopw [33] (fun i wr=>Hid (∃ j:Nat,i = .int .i64 j∧j≤n∧(∀ q,q<j→dV l ys zs q=true)∧dH w rows cols (.slice eo n c) pv (.slice yo m c') (.slice zo k c'') H0 wr)) (fun i _=>n - (intOf i).toNat)
    case atStart=>exact wB ⟨0,rfl,xd _,eC,HW.out⟩
    case round=>
     obtain ⟨j,rfl,hj,hall,hrel1⟩:=hrel.out;clear hrel g0 g1 g2 g3 g4 g5;obtain ⟨g0,g1,g2,g3,g4,g5⟩:=cN hrel1.g;have hs0:H0<wr.heap.size:=wJ hrel1.g;have HR1:=wB hrel1;have HALL:=wB hall;clear hrel1 hall;by_cases hlt:j<n
     · obtain ⟨x,hx⟩:∃ x,l[j]?=some x:=⟨l[j]'(by rw [HL.out];exact hlt),wE _⟩
       have hin:=gT HG.out hx;have hr1:x.r.toNat<m:=by have:=HMR.out;omega
       have hr2:x.c.toNat<k:=by have:=HKC.out;omega
       obtain ⟨y,hyx⟩:∃ y,ys[x.r.toNat]?=some y:=⟨ys[x.r.toNat]'(by rw [HY.out];exact hr1),wE _⟩;obtain ⟨z,hzx⟩:∃ z,zs[x.c.toNat]?=some z:=⟨zs[x.c.toNat]'(by rw [HZ.out];exact hr2),wE _⟩;obtain ⟨b,o,rfl,_⟩:=HR.out.place (by rw [cellsOf_length _ 3 ab.cells_length,HL.out];omega);obtain ⟨b1,o1,rfl,_⟩:=HYR.out.place (by rw [cellsOf_length _ 1 bC,HY.out];omega);obtain ⟨b2,o2,rfl,_⟩:=HZR.out.place (by rw [cellsOf_length _ 1 bC,HZ.out];omega);have hkb:=Keep.of_below HR1.out.below (wC _) (fun _=>False);obtain ⟨x0,x1,x2⟩:=gN (HR.out.keep hkb (fun _ _ _=>id)) hx;have yc:=gm (HYR.out.keep hkb (fun _ _ _=>id)) hyx;have zc:=gm (HZR.out.keep hkb (fun _ _ _=>id)) hzx;have hb0:b<wr.heap.size:=wK wr _ x0;have hb1:b1<wr.heap.size:=wK wr _ yc;have hb2:b2<wr.heap.size:=wK wr _ zc;have hyb:=HYO.out y (wM hyx);obtain ⟨hyb1,hyb2⟩:=hyb;have hyn:=jM HYN.out hyx;obtain ⟨e1,e2,e3,e4,e5,e6⟩:=hin;have HX:=wB hx;have HEQ:=wB (qX hx hyx hzx);clear hx hyx hzx hkb;by_cases h0:z<x.w - y
       · have HE:=wB (wm (es:=l) (ys:=ys) (zs:=zs) (by rw [HL.out];exact hlt) (show dV l ys zs j=false by rw [HEQ.out];exact decide_eq_false (by omega)))
         go_wp2_with fail
         go_quiet (fail)
         go_wp2_with fail
         go_ret
         exact ⟨by rw [HE.out];rfl,below_drewN (HR1.out.one _).below _⟩
       · have h0':x.w - y≤z:=by omega
         have HE:=wB (show dV l ys zs j=true by rw [HEQ.out];exact decide_eq_true h0');clear h0;go_wp2_with fail
         go_quiet (fail)
         have HN:=wB (HR1.out.one (.cells #[.int .i64 x.r,.int .i64 x.c,.int .i64 x.w] 114));go_wp2_with fail
         go_roundw
         case rel=>exact wB ⟨j+1,by go_num,by omega,dP HALL.out HE.out,HN.out.drewN _⟩
         case measure=>simp [intOf];omega
     · obtain rfl:n=j:=by omega
       have HE:=wB (sX (es:=l) HYN.out HZN.out (fun q hq=>HALL.out q (by rw [HL.out] at hq;exact hq)));go_wp2_with fail
       go_ret
       exact ⟨by rw [HE.out];rfl,HR1.out.below⟩
def sumV (o:Option Int):Value:=match o with
 | none=>.tuple #[.int .i64 0,.bool false]
 | some n=>.tuple #[.int .i64 n,.bool true]
theorem sZ {l:List Int} {j:Nat} {x:Int} (hx:l[j]?=some x):l.take (j+1)=l.take j++[x]:=by
 have hj:=(wD.1 hx).1;rw [xp hj,(wD.1 hx).2]
theorem mn {l m:List Int}:aX (l++m)=(aX l && aX m):=by simp [aX]
theorem pw {l:List Int} (h:aX l=true) (j:Nat):aX (l.take j)=true:=
 gL (fun i x hx=>jM h (j:=i) (by
  rw [List.getElem?_take] at hx;split at hx
  · exact hx
  · cases hx))
theorem px {pre l:List Int} (hp:aX pre=true) (hl:aX l=true) {j:Nat} {x s:Int} (hx:l[j]?=some x) (hs:sumF 0 (pre++l.take j)=some s):0≤s∧s≤4611686018427387903∧0≤x∧
 (4611686018427387903 - s<x→∀ post,sumF 0 (pre++l++post)=none)∧(x≤4611686018427387903 - s→sumF 0 (pre++l.take (j+1))=some (s+x)):=by
 have h1:=vK (pre++l.take j) 0 (by omega) (by omega) (by rw [mn,hp,pw hl];rfl) s hs;have hj:=(wD.1 hx).1
 have hn:sumF 0 (pre++l.take (j+1))=if 4611686018427387903 - s<x then none else some (s+x):=by
  rw [sZ hx,←wP,sF,hs];rfl
 refine ⟨h1.1,h1.2,jM hl hx,fun h post=>?_,fun h=>by rw [hn,if_neg (by omega)]⟩;rw [if_pos h] at hn
 have e:pre++l++post=(pre++l.take (j+1))++(l.drop (j+1)++post):=by
  rw [wP,wP,←wP (l.take (j+1)),List.take_append_drop]
 rw [e];exact jB hn
theorem uW (w:World) (rows cols:Int) (yo zo:Option Addr) (m c' k c'':Nat) (ev pv:Value) (ys zs:List Int) (hm:m≤9007199254740992) (hk:k≤9007199254740992)
 (hy:ys.length=m) (hyr:RdC w yo (cellsOf bL ys)) (hz:zs.length=k) (hzr:RdC w zo (cellsOf bL zs)) (hyn:aX ys=true) (hzn:aX zs=true) :
 Calls Tryz.prog 132 #[.agg #[.int .i64 rows,.int .i64 cols,ev,pv,.slice yo m c',.slice zo k c'']] w fun e w'=>e = .returned (sumV (fj ys zs))∧Below w.heap.size w w':=by
 have HY:=wB hy;have HYR:=wB hyr;have HZ:=wB hz;have HZR:=wB hzr;have HYN:=wB hyn;have HZN:=wB hzn;clear hy hyr hz hzr hyn hzn;have i0:∀ w,(Instr.index 205 (.agg #[.slice yo m c',.slice zo k c'']) (.int .i64 0)).run Tryz.prog w = .ok (.slice yo m c') w:=fun _=>by kernel_rfl
 have i1:∀ w,(Instr.index 205 (.agg #[.slice yo m c',.slice zo k c'']) (.int .i64 1)).run Tryz.prog w = .ok (.slice zo k c'') w:=fun _=>by kernel_rfl
 have HW:=wB (dH.begin w rows cols ev pv (.slice yo m c') (.slice zo k c''));go_enter Tryz.func132,Tryz.ntmps132
 go_wp2_with fail
 generalize w.alloc (.cells #[.int .i64 rows,.int .i64 cols,ev,pv,.slice yo m c',.slice zo k c''] 164)=W at *;go_loop [4,16] (fun a i=>Hid (∃ (p:Nat) (s:Int),a = .int .i64 s∧i = .int .i64 p∧((p=0∧sumF 0 []=some s)∨(p=1∧sumF 0 ys=some s)∨(p=2∧sumF 0 (ys++zs)=some s)))) (fun _ i=>2 - (intOf i).toNat)
 case atStart=>exact wB ⟨0,0,rfl,rfl,.inl ⟨rfl,rfl⟩⟩
 case round=>
  obtain ⟨p,s,rfl,rfl,hp⟩:=hrel.out;clear hrel;rcases hp with ⟨rfl,hs⟩ | ⟨rfl,hs⟩ | ⟨rfl,hs⟩
  · have HS0:=wB hs
    clear hs;go_wp2_with fail
    go_loop [4,21] (fun a i=>Hid (∃ (j:Nat) (t:Int),a = .int .i64 t∧i = .int .i64 j∧j≤m∧sumF 0 (([]:List Int)++ys.take j)=some t)) (fun _ i=>m - (intOf i).toNat)
    case atStart=>exact wB ⟨0,s,rfl,rfl,xd _,by rw [List.take_zero,List.append_nil];exact HS0.out⟩
    case round=>
     obtain ⟨j,t,rfl,rfl,hj,ht⟩:=hrel.out;clear hrel;have HT:=wB ht;clear ht;by_cases hlt:j<m
     · obtain ⟨x,hx⟩:∃ x,ys[j]?=some x:=⟨ys[j]'(by rw [HY.out];exact hlt),wE _⟩
       obtain ⟨b,o,rfl,_⟩:=HYR.out.place (by rw [cellsOf_length _ 1 bC,HY.out];omega);have hc:=gm (HYR.out.keep (Keep.of_below HW.out.below (wC _) (fun _=>False)) (fun _ _ _=>id)) hx;obtain ⟨s1,s2,s3,s4,s5⟩:=px (pre:=([]:List Int)) rfl HYN.out hx HT.out;have S4:=wB s4;have S5:=wB s5;clear hx s4 s5;by_cases h0:4611686018427387903 - t<x
       · have HE:=wB (show fj ys zs=none by have:=S4.out h0 zs;simpa [fj] using this)
         go_wp2_with fail
         go_ret2
         exact ⟨by rw [HE.out];rfl,HW.out.below⟩
       · have h0':x≤4611686018427387903 - t:=by omega
         have HA:=wB (S5.out h0');clear h0;go_wp2_with fail
         go_round
         case rel=>exact wB ⟨j+1,t+x,by first | rfl | go_num,by go_num,by omega,HA.out⟩
         case measure=>simp [intOf];omega
     · obtain rfl:m=j:=by omega
       have HA:=wB (show sumF 0 (ys)=some t by
        have:=HT.out;rw [xl (by rw [HY.out];exact wC _)] at this
        simpa using this)
       go_wp2_with fail
       go_round
       case rel=>exact wB ⟨1,t,rfl,by go_num,.inr <| .inl ⟨rfl,HA.out⟩⟩
       case measure=>simp [intOf]
  · have HS0:=wB hs
    clear hs;go_wp2_with fail
    go_loop [4,21] (fun a i=>Hid (∃ (j:Nat) (t:Int),a = .int .i64 t∧i = .int .i64 j∧j≤k∧sumF 0 (ys++zs.take j)=some t)) (fun _ i=>k - (intOf i).toNat)
    case atStart=>exact wB ⟨0,s,rfl,rfl,xd _,by rw [List.take_zero,List.append_nil];exact HS0.out⟩
    case round=>
     obtain ⟨j,t,rfl,rfl,hj,ht⟩:=hrel.out;clear hrel;have HT:=wB ht;clear ht;by_cases hlt:j<k
     · obtain ⟨x,hx⟩:∃ x,zs[j]?=some x:=⟨zs[j]'(by rw [HZ.out];exact hlt),wE _⟩
       obtain ⟨b,o,rfl,_⟩:=HZR.out.place (by rw [cellsOf_length _ 1 bC,HZ.out];omega);have hc:=gm (HZR.out.keep (Keep.of_below HW.out.below (wC _) (fun _=>False)) (fun _ _ _=>id)) hx;obtain ⟨s1,s2,s3,s4,s5⟩:=px (pre:=ys) HYN.out HZN.out hx HT.out;have S4:=wB s4;have S5:=wB s5;clear hx s4 s5;by_cases h0:4611686018427387903 - t<x
       · have HE:=wB (show fj ys zs=none by have:=S4.out h0 [];simpa [fj] using this)
         go_wp2_with fail
         go_ret2
         exact ⟨by rw [HE.out];rfl,HW.out.below⟩
       · have h0':x≤4611686018427387903 - t:=by omega
         have HA:=wB (S5.out h0');clear h0;go_wp2_with fail
         go_round
         case rel=>exact wB ⟨j+1,t+x,by first | rfl | go_num,by go_num,by omega,HA.out⟩
         case measure=>simp [intOf];omega
     · obtain rfl:k=j:=by omega
       have HA:=wB (show sumF 0 (ys++zs)=some t by
        have:=HT.out;rw [xl (by rw [HZ.out];exact wC _)] at this
        simpa using this)
       go_wp2_with fail
       go_round
       case rel=>exact wB ⟨2,t,rfl,by go_num,.inr <| .inr ⟨rfl,HA.out⟩⟩
       case measure=>simp [intOf]
  · have HE:=wB (show fj ys zs=some s from hs)
    clear hs;go_wp2_with fail
    go_ret2
    exact ⟨by rw [HE.out];rfl,HW.out.below⟩
def qY (es:List ab) (ps:List ai) (ys zs:List Int):Int:=if gapB es ps ys zs then 0 else 182
theorem uX (w:World) (rows cols:Int) (eo po yo zo:Option Addr) (n c q d m c' k c'':Nat) (l:List ab) (ps:List ai) (ys zs:List Int) (hg:aT rows cols l=true) (hl:l.length=n) (hr:RdC w eo (cellsOf ab.cells l)) (hn:n≤9007199254740992)
 (hp:ps.length=q) (hpr:RdC w po (cellsOf ai.cells ps)) (hq:q≤1048576) (hm:m≤9007199254740992) (hk:k≤9007199254740992)
 (hy:ys.length=m) (hyr:RdC w yo (cellsOf bL ys)) (hz:zs.length=k) (hzr:RdC w zo (cellsOf bL zs)) (hyn:aX ys=true) (hzn:aX zs=true) :
 Calls Tryz.prog 92 #[.agg #[.int .i64 rows,.int .i64 cols,.slice eo n c,.slice po q d,.slice yo m c',.slice zo k c'']] w fun e w'=>e = .returned (.int .i64 (qY l ps ys zs))∧Below w.heap.size w w':=by
 have HG:=wB hg;have HP:=wB hp;have HPR:=wB hpr;have HWT:=wB (fun wx hb r kk=>lm wx rows cols eo n c (.slice po q d) (.slice yo m c') (.slice zo k c'') r kk l hg hl (hr.below hb) hn);have HSU:=wB (fun wx hb=>uW wx rows cols yo zo m c' k c'' (.slice eo n c) (.slice po q d) ys zs hm hk hy (hyr.below hb) hz (hzr.below hb) hyn hzn);clear hl hr hg hp hpr hy hyr hz hzr hyn hzn hm hk;have HW:=wB (dH.begin w rows cols (.slice eo n c) (.slice po q d) (.slice yo m c') (.slice zo k c''));go_enter Tryz.func92,Tryz.ntmps92
 go_wp2_with fail
 generalize w.alloc (.cells #[.int .i64 rows,.int .i64 cols,.slice eo n c,.slice po q d,.slice yo m c',.slice zo k c''] 164)=W at *;have HHE:=wB (show ∃ H0,w.heap.size=H0 from ⟨_,rfl⟩);obtain ⟨H0,hH0⟩:=HHE.out;rw [hH0] at HW;rw [hH0];have HH:=wB hH0;clear hH0 HHE;go_loopw [3,12] (fun a i wr=>Hid (∃ j:Nat,a = .int .i64 (ca l (ps.take j))∧i = .int .i64 j∧j≤q∧dH w rows cols (.slice eo n c) (.slice po q d) (.slice yo m c') (.slice zo k c'') H0 wr)) (fun _ i _=>q - (intOf i).toNat)
 case atStart=>exact wB ⟨0,rfl,rfl,xd _,HW.out⟩
 case round=>
  obtain ⟨j,rfl,rfl,hj,hrel1⟩:=hrel.out;clear hrel;obtain ⟨g0,g1,g2,g3,g4,g5⟩:=cN hrel1.g;have hs0:H0<wr.heap.size:=wJ hrel1.g;have HR1:=wB hrel1;clear hrel1;have hwb:=sG HG.out (ps.take j);have hlen:(ps.take j).length≤1048576:=by rw [List.length_take];omega
  have hw1:=hwb.1;have hw2:ca l (ps.take j)≤1152923703634296211:=by have:=hwb.2;omega
  clear hwb hlen;by_cases hlt:j<q
  · obtain ⟨x,hx⟩:∃ x,ps[j]?=some x:=⟨ps[j]'(by rw [HP.out];exact hlt),wE _⟩
    obtain ⟨b,o,rfl,_⟩:=HPR.out.place (by rw [cellsOf_length _ 2 ai.cells_length,HP.out];omega);obtain ⟨x0,x1⟩:=na (HPR.out.keep (Keep.of_below HR1.out.below (wC _) (fun _=>False)) (fun _ _ _=>id)) hx;have hb0:b<wr.heap.size:=wK wr _ x0
    have HNX:=wB (show ca l (ps.take (j+1))=ca l (ps.take j)+aQ l x.r x.c by
     rw [xp (wD.1 hx).1,(wD.1 hx).2,oH])
    obtain ⟨v1,v2⟩:=lx HG.out x.r x.c;clear hx;generalize ca l (ps.take j)=A at *;go_wp2_with fail
    have HR2:=wB (HR1.out.one (.cells #[.int .i64 x.r,.int .i64 x.c] 69));generalize wr.alloc (.cells #[.int .i64 x.r,.int .i64 x.c] 69)=W2 at *;refine (HWT.out W2 HR2.out.below x.r x.c).mono ?_;rintro e w2 ⟨rfl,hb2⟩;have HR3:=wB (HR2.out.keep hb2);clear hb2 g0 g1 g2 g3 g4 g5 hs0 x0 x1 hb0;generalize aQ l x.r x.c=wt at *;go_wp2_with fail
    go_roundw
    case rel=>exact wB ⟨j+1,by rw [HNX.out],by go_num,by omega,HR3.out⟩
    case measure=>simp [intOf];omega
  · obtain rfl:q=j:=by omega
    have HFULL:=wB (show ca l (ps.take q)=ca l ps by rw [xl (by rw [HP.out];exact wC _)]);rw [HFULL.out] at hw1 hw2 ⊢;clear HFULL;have HGE:=wB (show qY l ps ys zs=if fj ys zs=some (ca l ps) then 0 else 182 by unfold qY gapB;by_cases h:fj ys zs=some (ca l ps) <;> simp [h]);generalize ca l ps=A at *;go_wp2_with fail
    refine (HSU.out wr HR1.out.below).mono ?_;rintro e w2 ⟨rfl,hb2⟩;have HB2:=wB (Below.next HR1.out.below hb2);clear hb2 g0 g1 g2 g3 g4 g5 hs0 HSU;cases hsum:fj ys zs with
    | none=>
      rw [hsum] at HGE;clear hsum;have HE:=wB (HGE.out.trans (if_neg (by simp)));simp only [sumV];go_wp2_with fail
      go_ret
      exact ⟨by rw [HE.out];rfl,HB2.out⟩
    | some s=>
      rw [hsum] at HGE;clear hsum;simp only [sumV];by_cases h0:s=A
      · have HE:=wB (HGE.out.trans (if_pos (by rw [h0])))
        have h1:(s != A)=false:=by simp [h0]
        clear h0;go_wp2_with fail
        go_ret
        exact ⟨by rw [HE.out];rfl,HB2.out⟩
      · have HE:=wB (HGE.out.trans (if_neg (by simp [h0])))
        have h1:(s != A)=true:=by simp [h0]
        clear h0;go_wp2_with fail
        go_ret
        exact ⟨by rw [HE.out];rfl,HB2.out⟩
theorem ic {rows cols:Int} {l:List ab} (h:bz rows cols l=0):aT rows cols l=true:=by
 cases hg:aT rows cols l with
 | true=>rfl
 | false=>simp [bz,hg] at h
theorem jj (rows cols:Int) (es:List ab) (ps:List ai):cd [bz rows cols es,dc es ps]=iI rows cols es ps:=by
 unfold cd cd cd iI dc bz;cases aT rows cols es <;> cases cO es ps <;> rfl
theorem uY {es:List ab} {ys zs:List Int} (h:eQ es ys zs=0):aX ys=true∧aX zs=true:=by
 unfold eQ ki at h;cases hy:aX ys <;> cases hz:aX zs <;> simp [hy,hz] at h ⊢
theorem pz {rows cols:Int} {n m:Nat} (h:cy rows cols n m=0):(n:Int)=rows∧(m:Int)=cols:=by
 unfold cy at h;split at h
 · assumption
 · cases h
theorem pA (rows cols:Int) (es:List ab) (ps:List ai) (ys zs:List Int):cd [bz rows cols es,dc es ps,cy rows cols ys.length zs.length,eQ es ys zs,qY es ps ys zs]=mJ rows cols es ps ys zs:=by
 unfold mJ;rw [←jj]
 have hl:cy rows cols ys.length zs.length=if bX rows cols ys zs then 0 else 1:=by
  unfold cy bX;by_cases h1:(ys.length:Int)=rows <;> by_cases h2:(zs.length:Int)=cols <;> simp [h1,h2]
 rw [hl];unfold qu eQ qY;simp only [cd];generalize bz rows cols es=a;generalize dc es ps=b;by_cases ha:a=0 <;> by_cases hb:b=0 <;> cases bX rows cols ys zs <;> cases ki es ys zs <;> cases gapB es ps ys zs <;> simp [ha,hb]
theorem l8 (w W1:World) (A n:Nat) (cl:Value) (gs:List Nat) (es:List Int) (cs:Array Value) (t:TypeId) (hgn:gs.length=n) (hen:es.length=n) (hn:n≤9007199254740992) (hA:A=W1.heap.size) (hB:Below w.heap.size w W1)
 (hcs:cs=(gs.map fun g=>Value.func (.func g) #[cl] #[]).toArray) (hent:∀ g ∈ gs,∀ args w,(callFunc g args).run Tryz.prog w = .ok (.enter g args) w)
 (hfn:∀ (k:Nat) (g:Nat) (e:Int),gs[k]?=some g→es[k]?=some e→(∀ j:Nat,j<k→es[j]?=some 0)→∀ wx,Below w.heap.size w wx→Calls Tryz.prog g #[cl] wx fun r w'=>r = .returned (.int .i64 e)∧Below wx.heap.size wx w') :
 Calls Tryz.prog 87 #[.slice (some ⟨A,0,none⟩) n n] (W1.alloc (.cells cs t)) fun e w'=>e = .returned (.int .i64 (cd es))∧Below w.heap.size w w':=by
 subst hA;have hb2:Below w.heap.size w (W1.alloc (.cells cs t)):=hB.alloc hB.size _;refine (first_any (W1.alloc (.cells cs t)) W1.heap.size n n cl gs es hgn hen hn (fun k g hg=>?_) hent (fun k g e hg he hz wx hb=>hfn k g e hg he hz wx (Below.next hb2 hb))).mono ?_
 · rw [World.cell?_alloc_mark,hcs]
   simp [hg]
 · rintro e w' ⟨rfl,hb⟩
   exact ⟨rfl,Below.next hb2 hb⟩
theorem mo (w:World) (rows cols:Int) (eo po:Option Addr) (n c q d:Nat) (l:List ab) (ps:List ai) (hl:l.length=n) (hr:RdC w eo (cellsOf ab.cells l)) (hn:n≤9007199254740992)
 (hp:ps.length=q) (hpr:RdC w po (cellsOf ai.cells ps)) (hq:q≤9007199254740992) :
 Calls Tryz.prog 162 #[.agg #[.int .i64 rows,.int .i64 cols,.slice eo n c],.slice po q d] w fun e w'=>e = .returned (.int .i64 (iI rows cols l ps))∧Below w.heap.size w w':=by
 have hmf:∀ (fn:Fn) (first cap:Array Value) (w:World),(Instr.makeFunc fn first cap).run Tryz.prog w = .ok (.func fn first cap) w:=fun _ _ _ _=>rfl
 have HB:=wB (((wI w.heap.size w).alloc (wC _) (.cells #[.int .i64 rows,.int .i64 cols,.slice eo n c] 28)).alloc (by simp) (.cells #[.int .i64 rows,.int .i64 cols,.slice eo n c,.slice po q d,.slice none 0 0,.slice none 0 0] 164))
 have HF:=wB (fun (k:Nat) (g:Nat) (e:Int) (hg:[88,89][k]?=some g) (he:[bz rows cols l,dc l ps][k]?=some e) (hz:∀ j:Nat,j<k→[bz rows cols l,dc l ps][j]?=some 0) (wy:World) (hby:Below w.heap.size w wy)=>show Calls Tryz.prog g #[.agg #[.int .i64 rows,.int .i64 cols,.slice eo n c,.slice po q d,.slice none 0 0,.slice none 0 0]] wy (fun r w'=>r = .returned (.int .i64 e)∧Below wy.heap.size wy w') from by
  match k,hg,he,hz with
  | 0,hg,he,hz=>
    simp at hg he;subst hg;subst he;exact lZ wy rows cols eo n c _ _ _ l hl (hr.below hby) hn
  | 1,hg,he,hz=>
    simp at hg he;subst hg;subst he;have h0:=hz 0 (by omega);simp at h0;exact lY wy rows cols eo po n c q d _ _ l ps (ic h0) hl (hr.below hby) hn hp (hpr.below hby) hq)
 have HFE:=wB (jj rows cols l ps);clear hl hr hp hpr;go_enter Tryz.func162,Tryz.ntmps162
 go_wp2_with fail
 refine (l8 w _ _ 2 _ _ _ _ _ rfl rfl (by omega) (by simp) HB.out rfl (fun g hg args w=>by
  simp only [List.mem_cons,List.not_mem_nil,or_false] at hg;rcases hg with rfl | rfl
  · exact kz args w
  · exact kA args w) HF.out).mono ?_
 rintro e w' ⟨rfl,hb⟩;have HB2:=wB hb;rw [HFE.out];clear hb HF HB HFE;go_wp2_with fail
 go_ret
 exact ⟨rfl,HB2.out⟩
theorem mp (w:World) (rows cols:Int) (eo po yo zo:Option Addr) (n c q d m c' k c'':Nat) (l:List ab) (ps:List ai) (ys zs:List Int) (hl:l.length=n) (hr:RdC w eo (cellsOf ab.cells l)) (hn:n≤9007199254740992)
 (hp:ps.length=q) (hpr:RdC w po (cellsOf ai.cells ps)) (hq:q≤1048576) (hm:m≤9007199254740992) (hk:k≤9007199254740992)
 (hy:ys.length=m) (hyr:RdC w yo (cellsOf bL ys)) (hz:zs.length=k) (hzr:RdC w zo (cellsOf bL zs)) (hyo:∀ x ∈ ys,ar x) :
 Calls Tryz.prog 51 #[.agg #[.int .i64 rows,.int .i64 cols,.slice eo n c],.agg #[.slice po q d,.slice yo m c',.slice zo k c'']] w fun e w'=>e = .returned (.int .i64 (mJ rows cols l ps ys zs))∧Below w.heap.size w w':=by
 have hmf:∀ (fn:Fn) (first cap:Array Value) (w:World),(Instr.makeFunc fn first cap).run Tryz.prog w = .ok (.func fn first cap) w:=fun _ _ _ _=>rfl
 have HB:=wB ((((wI w.heap.size w).alloc (wC _) (.cells #[.int .i64 rows,.int .i64 cols,.slice eo n c] 28)).alloc (by simp) (.cells #[.slice po q d,.slice yo m c',.slice zo k c''] 32)).alloc (by simp;omega) (.cells #[.int .i64 rows,.int .i64 cols,.slice eo n c,.slice po q d,.slice yo m c',.slice zo k c''] 164));have HFE:=wB (pA rows cols l ps ys zs);rw [hy,hz] at HFE
 have HF:=wB (fun (p:Nat) (g:Nat) (e:Int) (hg:[88,89,90,91,92][p]?=some g) (he:[bz rows cols l,dc l ps,cy rows cols m k,eQ l ys zs,qY l ps ys zs][p]?=some e) (hzz:∀ j:Nat,j<p→[bz rows cols l,dc l ps,cy rows cols m k,eQ l ys zs,qY l ps ys zs][j]?=some 0) (wy:World) (hby:Below w.heap.size w wy)=>show Calls Tryz.prog g #[.agg #[.int .i64 rows,.int .i64 cols,.slice eo n c,.slice po q d,.slice yo m c',.slice zo k c'']] wy (fun r w'=>r = .returned (.int .i64 e)∧Below wy.heap.size wy w') from by
  match p,hg,he,hzz with
  | 0,hg,he,hzz=>
    simp at hg he;subst hg;subst he;exact lZ wy rows cols eo n c _ _ _ l hl (hr.below hby) hn
  | 1,hg,he,hzz=>
    simp at hg he;subst hg;subst he;have h0:=hzz 0 (by omega);simp at h0;exact lY wy rows cols eo po n c q d _ _ l ps (ic h0) hl (hr.below hby) hn hp (hpr.below hby) (by omega)
  | 2,hg,he,hzz=>
    simp at hg he;subst hg;subst he;exact nH wy rows cols yo zo m k c' c'' _ _
  | 3,hg,he,hzz=>
    simp at hg he;subst hg;subst he;have h0:=hzz 0 (by omega);have h2:=hzz 2 (by omega);simp at h0 h2;have h3:=pz h2;exact sY wy rows cols eo yo zo n c m c' k c'' _ l ys zs (ic h0) hl (hr.below hby) hn hy (hyr.below hby) h3.1 hz (hzr.below hby) h3.2 hyo
  | 4,hg,he,hzz=>
    simp at hg he;subst hg;subst he;have h0:=hzz 0 (by omega);have h3:=hzz 3 (by omega);simp at h0 h3;have h4:=uY h3;exact uX wy rows cols eo po yo zo n c q d m c' k c'' l ps ys zs (ic h0) hl (hr.below hby) hn hp (hpr.below hby) hq hm hk hy (hyr.below hby) hz (hzr.below hby) h4.1 h4.2)
 clear hl hr hp hpr hy hyr hz hzr hyo hm hk;go_enter Tryz.func51,Tryz.ntmps51
 go_wp2_with fail
 refine (l8 w _ _ 5 _ _ _ _ _ rfl rfl (by omega) (by simp) HB.out rfl (fun g hg args w=>by
  simp only [List.mem_cons,List.not_mem_nil,or_false] at hg;rcases hg with rfl | rfl | rfl | rfl | rfl
  · exact kz args w
  · exact kA args w
  · exact mm args w
  · exact qW args w
  · exact sW args w) HF.out).mono ?_
 rintro e w' ⟨rfl,hb⟩;have HB2:=wB hb;rw [HFE.out];clear hb HF HB HFE;go_wp2_with fail
 go_ret
 exact ⟨rfl,HB2.out⟩
theorem nI {rows cols:Int} {es:List ab} {ps:List ai} (h:aT rows cols es=true):iI rows cols es ps=dc es ps:=by
 unfold iI dc;simp [h]
def l9 (l m:List ab):Bool:=decide (l=m)
theorem tc {l m:List ab} (h:l.length≠m.length):l9 l m=false:=decide_eq_false (fun e=>h (by rw [e]))
theorem uZ {l m:List ab} {j:Nat} {x y:ab} (hx:l[j]?=some x) (hy:m[j]?=some y) (h:eu x.r y.r x.c y.c x.w y.w=false):l9 l m=false:=by
 refine decide_eq_false (fun e=>?_);subst e;rw [hx] at hy;cases hy
 rw [nr] at h;cases h
theorem qZ {x y:ab} (h:eu x.r y.r x.c y.c x.w y.w=true):x=y:=by
 obtain ⟨h1,h2,h3⟩:=(oP _ _ _ _ _ _).1 h;cases x;cases y;simp_all
theorem td {l m:List ab} (hl:l.length=m.length) (h:∀ j:Nat,j<l.length→l[j]?=m[j]?):l9 l m=true:=by
 refine decide_eq_true (List.ext_getElem? (fun j=>?_));by_cases hj:j<l.length
 · exact h j hj
 · rw [List.getElem?_eq_none (by omega),List.getElem?_eq_none (by omega)]
theorem te {l m:List ab} {j:Nat} {x y:ab} (ha:∀ q:Nat,q<j→l[q]?=m[q]?) (hx:l[j]?=some x) (hy:m[j]?=some y) (h:eu x.r y.r x.c y.c x.w y.w=true):∀ q:Nat,q<j+1→l[q]?=m[q]?:=fun q hq=>by
 rcases xy.1 hq with hq | rfl
 · exact ha q hq
 · rw [hx,hy,qZ h]
theorem tf (w:World) (ao bo:Option Addr) (n c m c':Nat) (l k:List ab) (hl:l.length=n) (hr:RdC w ao (cellsOf ab.cells l)) (hn:n≤9007199254740992) (hk:k.length=m) (hkr:RdC w bo (cellsOf ab.cells k)) (hm:m≤9007199254740992) :
 Calls Tryz.prog 86 #[.slice ao n c,.slice bo m c'] w fun e w'=>e = .returned (.bool (l9 l k))∧Below w.heap.size w w':=by
 have HL:=wB hl;have HR:=wB hr;have HK:=wB hk;have HKR:=wB hkr;clear hl hr hk hkr;have heq:=ue;by_cases h1:n=m
 · subst h1
   have b1:((n:Int) != (n:Int))=false:=by simp
   go_enter Tryz.func86,Tryz.ntmps86
   go_wp2_with fail
   go_loopw [5,13] (fun z i wr=>Hid (∃ j:Nat,i = .int .i64 j∧j≤n∧(∀ q:Nat,q<j→l[q]?=k[q]?)∧Below w.heap.size w wr)) (fun _ i _=>n - (intOf i).toNat)
   case atStart=>exact wB ⟨0,rfl,xd _,fun q h=>absurd h (xP q),wI _ _⟩
   case round=>
    obtain ⟨j,rfl,hj,hall,hbel⟩:=hrel.out;clear hrel;have HB:=wB hbel;have HALL:=wB hall;clear hbel hall;by_cases hlt:j<n
    · obtain ⟨x,hx⟩:∃ x,l[j]?=some x:=⟨l[j]'(by rw [HL.out];exact hlt),wE _⟩
      obtain ⟨y,hy⟩:∃ y,k[j]?=some y:=⟨k[j]'(by rw [HK.out];exact hlt),wE _⟩;obtain ⟨b,o,rfl,_⟩:=HR.out.place (by rw [cellsOf_length _ 3 ab.cells_length,HL.out];omega);obtain ⟨b',o',rfl,_⟩:=HKR.out.place (by rw [cellsOf_length _ 3 ab.cells_length,HK.out];omega);have hkb:=Keep.of_below HB.out (wC _) (fun _=>False);obtain ⟨x0,x1,x2⟩:=gN (HR.out.keep hkb (fun _ _ _=>id)) hx;obtain ⟨y0,y1,y2⟩:=gN (HKR.out.keep hkb (fun _ _ _=>id)) hy;have HX:=wB hx;have HY:=wB hy;clear hx hy hkb;cases hq:eu x.r y.r x.c y.c x.w y.w with
      | false=>
        have HF:=wB (uZ HX.out HY.out hq);go_wp2_with fail
        go_quiet (fail)
        go_wp2_with fail
        go_ret
        exact ⟨by rw [HF.out];rfl,(below_drewN HB.out _)⟩
      | true=>
        have HN:=wB (te HALL.out HX.out HY.out hq);go_wp2_with fail
        go_quiet (fail)
        go_wp2_with fail
        go_roundw
        case rel=>exact wB ⟨j+1,by go_num,by omega,HN.out,(below_drewN HB.out _)⟩
        case measure=>simp [intOf];omega
    · obtain rfl:n=j:=by omega
      have HF:=wB (td (l:=l) (m:=k) (by rw [HL.out,HK.out]) (fun q hq=>HALL.out q (by rw [HL.out] at hq;exact hq)));go_wp2_with fail
      go_ret
      exact ⟨by rw [HF.out];rfl,HB.out⟩
 · have HF:=wB (tc (l:=l) (m:=k) (by rw [HL.out,HK.out];exact h1))
   have b1:((n:Int) != (m:Int))=true:=by simp;omega
   go_enter Tryz.func86,Tryz.ntmps86
   go_wp2_with fail
   go_ret
   exact ⟨by rw [HF.out];rfl,wI _ _⟩
theorem ma (w:World) (v:RV) (hin:v.In w):Calls Tryz.prog 125 #[.agg #[.int .i64 v.x.tick,.slice v.wo v.wn v.wc,.slice v.ko v.kn v.kc,.int .i64 v.x.rows,.int .i64 v.x.cols,.slice v.eo v.en v.ec,.slice v.po v.pn v.pc,.slice v.yo v.yn v.yc,.slice v.zo v.zn v.zc]] w fun e w'=>e = .returned (.int .i64 (bh v.x))∧Below w.heap.size w w':=by
 have HIN:=wB hin;have wb:=hin.wb;have kb:=hin.kb;have eb:=hin.eb;have pb:=hin.pb;have yb:=hin.yb;have zb:=hin.zb;clear hin;have HW:=wB (eY.begin w v);have hcase:(v.x.tick<1∨(1≤v.x.tick∧1099511627776<v.x.tick)∨(1≤v.x.tick∧v.x.tick≤1099511627776∧64<v.wn)∨(1≤v.x.tick∧v.x.tick≤1099511627776∧v.wn≤64∧64<v.kn))∨(1≤v.x.tick∧v.x.tick≤1099511627776∧v.wn≤64∧v.kn≤64):=by omega
 rcases hcase with h | ⟨c1,c2,c3,c4⟩
 · have HF:=wB (recE_1 (x:=v.x) (decide_eq_false (by rw [HIN.out.wl,HIN.out.kl];omega)))
   rcases h with c1 | ⟨c1,c2⟩ | ⟨c1,c2,c3⟩ | ⟨c1,c2,c3,c4⟩
   all_goals as_aux_lemma=>
    go_enter Tryz.func125,Tryz.ntmps125
    go_wp2_with fail
    all_goals
     go_ret
     exact ⟨by rw [HF.out];rfl,HW.out.below⟩
 have HS1:=wB (show eK v.x=true from decide_eq_true (by rw [HIN.out.wl,HIN.out.kl];omega));go_enter Tryz.func125,Tryz.ntmps125
 go_wp2_with fail
 generalize w.alloc (.cells #[.int .i64 v.x.tick,.slice v.wo v.wn v.wc,.slice v.ko v.kn v.kc,.int .i64 v.x.rows,.int .i64 v.x.cols,.slice v.eo v.en v.ec,.slice v.po v.pn v.pc,.slice v.yo v.yn v.yc,.slice v.zo v.zn v.zc] 34)=W at *;have HHE:=wB (show ∃ H0,w.heap.size=H0 from ⟨_,rfl⟩);obtain ⟨H0,hH0⟩:=HHE.out;rw [hH0] at HW;rw [hH0];have HH:=wB hH0;clear hH0 HHE;obtain ⟨wo,hwo⟩:∃ wo,v.wo=wo:=⟨_,rfl⟩;rw [hwo];have HWO:=wB hwo;clear hwo;go_loopw [3,32] (fun a i wr=>Hid (∃ k:Nat,a = .int .i64 (km v.x.ws k)∧i = .int .i64 k∧k≤v.wn∧(∀ j,j<k→lB v.x.tick v.x.ws j=true)∧eY w v H0 wr)) (fun _ i _=>v.wn - (intOf i).toNat)
 case atStart=>exact wB ⟨0,rfl,rfl,xd _,eC,HW.out⟩
 case round=>
  obtain ⟨k,rfl,rfl,hk,hall,hrel1⟩:=hrel.out;clear hrel;obtain ⟨g0,g1,g2,g3,g4,g5,g6,g7,g8⟩:=cells9 hrel1.g;have hs0:H0<wr.heap.size:=wJ hrel1.g;have HR1:=wB hrel1;have HALL:=wB hall;clear hrel1 hall;by_cases hlt:k<v.wn
  · obtain ⟨x,hx⟩:∃ x,v.x.ws[k]?=some x:=⟨v.x.ws[k]'(by rw [HIN.out.wl];exact hlt),wE _⟩
    obtain ⟨b,o,hbo,_⟩:=HIN.out.wr.place (by rw [cellsOf_length _ 18 aa.cells_length,HIN.out.wl];omega);have hrd:=HIN.out.wr.keep (Keep.of_below HR1.out.below (wC _) (fun _=>False)) (fun _ _ _=>id);rw [hbo] at hrd;obtain rfl:wo=some ⟨b,o,none⟩:=by rw [←HWO.out];exact hbo
    have HCE:=wB (fm hrd hx);have HX:=wB hx;have HP:=wB (lz hx);have HBAD:=wB (fun h=>recE_2 HS1.out (qy hx h));have HEQ:=wB (eD (tick:=v.x.tick) hx);clear hx hrd hbo;generalize km v.x.ws k=pv at *;have hc2:x.number≤pv∨(pv<x.number∧x.since<0)∨(pv<x.number∧0≤x.since∧v.x.tick<x.since)∨(pv<x.number∧0≤x.since∧x.since≤v.x.tick):=by omega
    rcases hc2 with h1 | ⟨h1,h2⟩ | ⟨h1,h2,h3⟩ | ⟨h1,h2,h3⟩
    · have HF:=wB (HBAD.out (by omega))
      go_wp2_with (first | ((with_reducible refine ad (o:=⟨some 35,_,_,_,_,_⟩) ?_ 79 (.tmp 34) ?_ b (o+k*18) ?_ x.cells #[.int .u8 x.r.i0,.int .u8 x.r.i1,.int .u8 x.r.i2,.int .u8 x.r.i3,.int .u8 x.r.i4,.int .u8 x.r.i5,.int .u8 x.r.i6,.int .u8 x.r.i7,.int .i16 x.r.fx,.int .i16 x.r.fy,.int .i16 x.r.tx,.int .i16 x.r.ty,.int .u8 x.r.seats,.int .u8 x.r.classes,.int .i64 x.r.base,.int .i64 x.r.ttl,.int .i64 x.since,.int .i64 x.number] ?_ _ HCE.out Tryz.underlying79 ?_ ?_ ?_);rfl;rfl;rfl;rfl;rfl;exact bd) | ((with_reducible refine aj (o:=⟨none,.store 79 (.tmp 5) (.tmp 35),_,_,_,_⟩) ?_ 79 (.tmp 5) (.tmp 35) ?_ _ #[.int .u8 x.r.i0,.int .u8 x.r.i1,.int .u8 x.r.i2,.int .u8 x.r.i3,.int .u8 x.r.i4,.int .u8 x.r.i5,.int .u8 x.r.i6,.int .u8 x.r.i7,.int .i16 x.r.fx,.int .i16 x.r.fy,.int .i16 x.r.tx,.int .i16 x.r.ty,.int .u8 x.r.seats,.int .u8 x.r.classes,.int .i64 x.r.base,.int .i64 x.r.ttl,.int .i64 x.since,.int .i64 x.number] ?_ ?_ x.cells ?_ ?_ ?_ x.cells_one ?_);rfl;rfl;rfl;rfl;rfl;exact bd;rfl))
      go_ret
      exact ⟨by rw [HF.out];rfl,(HR1.out.one _).below⟩
    · have HF:=wB (HBAD.out (by omega))
      go_wp2_with (first | ((with_reducible refine ad (o:=⟨some 35,_,_,_,_,_⟩) ?_ 79 (.tmp 34) ?_ b (o+k*18) ?_ x.cells #[.int .u8 x.r.i0,.int .u8 x.r.i1,.int .u8 x.r.i2,.int .u8 x.r.i3,.int .u8 x.r.i4,.int .u8 x.r.i5,.int .u8 x.r.i6,.int .u8 x.r.i7,.int .i16 x.r.fx,.int .i16 x.r.fy,.int .i16 x.r.tx,.int .i16 x.r.ty,.int .u8 x.r.seats,.int .u8 x.r.classes,.int .i64 x.r.base,.int .i64 x.r.ttl,.int .i64 x.since,.int .i64 x.number] ?_ _ HCE.out Tryz.underlying79 ?_ ?_ ?_);rfl;rfl;rfl;rfl;rfl;exact bd) | ((with_reducible refine aj (o:=⟨none,.store 79 (.tmp 5) (.tmp 35),_,_,_,_⟩) ?_ 79 (.tmp 5) (.tmp 35) ?_ _ #[.int .u8 x.r.i0,.int .u8 x.r.i1,.int .u8 x.r.i2,.int .u8 x.r.i3,.int .u8 x.r.i4,.int .u8 x.r.i5,.int .u8 x.r.i6,.int .u8 x.r.i7,.int .i16 x.r.fx,.int .i16 x.r.fy,.int .i16 x.r.tx,.int .i16 x.r.ty,.int .u8 x.r.seats,.int .u8 x.r.classes,.int .i64 x.r.base,.int .i64 x.r.ttl,.int .i64 x.since,.int .i64 x.number] ?_ ?_ x.cells ?_ ?_ ?_ x.cells_one ?_);rfl;rfl;rfl;rfl;rfl;exact bd;rfl))
      go_ret
      exact ⟨by rw [HF.out];rfl,(HR1.out.one _).below⟩
    · have HF:=wB (HBAD.out (by omega))
      go_wp2_with (first | ((with_reducible refine ad (o:=⟨some 35,_,_,_,_,_⟩) ?_ 79 (.tmp 34) ?_ b (o+k*18) ?_ x.cells #[.int .u8 x.r.i0,.int .u8 x.r.i1,.int .u8 x.r.i2,.int .u8 x.r.i3,.int .u8 x.r.i4,.int .u8 x.r.i5,.int .u8 x.r.i6,.int .u8 x.r.i7,.int .i16 x.r.fx,.int .i16 x.r.fy,.int .i16 x.r.tx,.int .i16 x.r.ty,.int .u8 x.r.seats,.int .u8 x.r.classes,.int .i64 x.r.base,.int .i64 x.r.ttl,.int .i64 x.since,.int .i64 x.number] ?_ _ HCE.out Tryz.underlying79 ?_ ?_ ?_);rfl;rfl;rfl;rfl;rfl;exact bd) | ((with_reducible refine aj (o:=⟨none,.store 79 (.tmp 5) (.tmp 35),_,_,_,_⟩) ?_ 79 (.tmp 5) (.tmp 35) ?_ _ #[.int .u8 x.r.i0,.int .u8 x.r.i1,.int .u8 x.r.i2,.int .u8 x.r.i3,.int .u8 x.r.i4,.int .u8 x.r.i5,.int .u8 x.r.i6,.int .u8 x.r.i7,.int .i16 x.r.fx,.int .i16 x.r.fy,.int .i16 x.r.tx,.int .i16 x.r.ty,.int .u8 x.r.seats,.int .u8 x.r.classes,.int .i64 x.r.base,.int .i64 x.r.ttl,.int .i64 x.since,.int .i64 x.number] ?_ ?_ x.cells ?_ ?_ ?_ x.cells_one ?_);rfl;rfl;rfl;rfl;rfl;exact bd;rfl))
      go_ret
      exact ⟨by rw [HF.out];rfl,(HR1.out.one _).below⟩
    · have HA:=wB (dP HALL.out (show lB v.x.tick v.x.ws k=true by rw [HEQ.out];exact decide_eq_true (by omega)))
      have HN:=wB (HR1.out.one (.cells #[.int .u8 x.r.i0,.int .u8 x.r.i1,.int .u8 x.r.i2,.int .u8 x.r.i3,.int .u8 x.r.i4,.int .u8 x.r.i5,.int .u8 x.r.i6,.int .u8 x.r.i7,.int .i16 x.r.fx,.int .i16 x.r.fy,.int .i16 x.r.tx,.int .i16 x.r.ty,.int .u8 x.r.seats,.int .u8 x.r.classes,.int .i64 x.r.base,.int .i64 x.r.ttl,.int .i64 x.since,.int .i64 x.number] 79));go_wp2_with (first | ((with_reducible refine ad (o:=⟨some 35,_,_,_,_,_⟩) ?_ 79 (.tmp 34) ?_ b (o+k*18) ?_ x.cells #[.int .u8 x.r.i0,.int .u8 x.r.i1,.int .u8 x.r.i2,.int .u8 x.r.i3,.int .u8 x.r.i4,.int .u8 x.r.i5,.int .u8 x.r.i6,.int .u8 x.r.i7,.int .i16 x.r.fx,.int .i16 x.r.fy,.int .i16 x.r.tx,.int .i16 x.r.ty,.int .u8 x.r.seats,.int .u8 x.r.classes,.int .i64 x.r.base,.int .i64 x.r.ttl,.int .i64 x.since,.int .i64 x.number] ?_ _ HCE.out Tryz.underlying79 ?_ ?_ ?_);rfl;rfl;rfl;rfl;rfl;exact bd) | ((with_reducible refine aj (o:=⟨none,.store 79 (.tmp 5) (.tmp 35),_,_,_,_⟩) ?_ 79 (.tmp 5) (.tmp 35) ?_ _ #[.int .u8 x.r.i0,.int .u8 x.r.i1,.int .u8 x.r.i2,.int .u8 x.r.i3,.int .u8 x.r.i4,.int .u8 x.r.i5,.int .u8 x.r.i6,.int .u8 x.r.i7,.int .i16 x.r.fx,.int .i16 x.r.fy,.int .i16 x.r.tx,.int .i16 x.r.ty,.int .u8 x.r.seats,.int .u8 x.r.classes,.int .i64 x.r.base,.int .i64 x.r.ttl,.int .i64 x.since,.int .i64 x.number] ?_ ?_ x.cells ?_ ?_ ?_ x.cells_one ?_);rfl;rfl;rfl;rfl;rfl;exact bd;rfl))
      go_roundw
      case rel=>exact wB ⟨k+1,by rw [HP.out],by go_num,by omega,HA.out,HN.out⟩
      case measure=>simp [intOf];omega
  · obtain rfl:v.wn=k:=by omega
    have HS2:=wB (show eL v.x=true from bY (fun j hj=>HALL.out j (by rw [HIN.out.wl] at hj;exact hj)));clear HALL hlt hk
    as_aux_lemma=>
     go_wp2_with fail
     obtain ⟨ko,hko⟩:∃ ko,v.ko=ko:=⟨_,rfl⟩;rw [hko];have HKO:=wB hko;clear hko;go_loopw [3,58] (fun a i wr=>Hid (∃ k:Nat,a = .int .i64 (kp v.x.ds k)∧i = .int .i64 k∧k≤v.kn∧(∀ j,j<k→lC v.x.ds j=true)∧eY w v H0 wr)) (fun _ i _=>v.kn - (intOf i).toNat)
     case atStart=>exact wB ⟨0,rfl,rfl,xd _,eC,HR1.out⟩
     case round=>
      clear g0 g1 g2 g3 g4 g5 g6 g7 g8 hs0;obtain ⟨k,rfl,rfl,hk,hall,hrel1⟩:=hrel.out;clear hrel;obtain ⟨g0,g1,g2,g3,g4,g5,g6,g7,g8⟩:=cells9 hrel1.g;have hs0:H0<wr.heap.size:=wJ hrel1.g;have HR2:=wB hrel1;have HALL:=wB hall;clear hrel1 hall;by_cases hlt:k<v.kn
      · obtain ⟨x,hx⟩:∃ x,v.x.ds[k]?=some x:=⟨v.x.ds[k]'(by rw [HIN.out.kl];exact hlt),wE _⟩
        obtain ⟨b,o,hbo,_⟩:=HIN.out.kr.place (by rw [cellsOf_length _ 14 ak.cells_length,HIN.out.kl];omega);have hrd:=HIN.out.kr.keep (Keep.of_below HR2.out.below (wC _) (fun _=>False)) (fun _ _ _=>id);rw [hbo] at hrd;obtain rfl:ko=some ⟨b,o,none⟩:=by rw [←HKO.out];exact hbo
        have HCE:=wB (fo hrd hx);have HX:=wB hx;have HP:=wB (lA hx);have HBAD:=wB (fun h=>recE_3 HS1.out HS2.out (qz hx h));have HEQ:=wB (gU hx);clear hx hrd hbo;generalize kp v.x.ds k=pv at *;by_cases h1:x.number≤pv
        · have HF:=wB (HBAD.out (by omega))
          go_wp2_with (first | ((with_reducible refine ad (o:=⟨some 61,_,_,_,_,_⟩) ?_ 83 (.tmp 60) ?_ b (o+k*14) ?_ x.cells #[.int .u8 x.d.i0,.int .u8 x.d.i1,.int .u8 x.d.i2,.int .u8 x.d.i3,.int .u8 x.d.i4,.int .u8 x.d.i5,.int .u8 x.d.i6,.int .u8 x.d.i7,.int .i16 x.d.ax,.int .i16 x.d.ay,.int .u8 x.d.seats,.int .u8 x.d.cls,.int .i64 x.d.radius,.int .i64 x.number] ?_ _ HCE.out Tryz.underlying83 ?_ ?_ ?_);rfl;rfl;rfl;rfl;rfl;exact ew) | ((with_reducible refine aj (o:=⟨none,.store 83 (.tmp 7) (.tmp 61),_,_,_,_⟩) ?_ 83 (.tmp 7) (.tmp 61) ?_ _ #[.int .u8 x.d.i0,.int .u8 x.d.i1,.int .u8 x.d.i2,.int .u8 x.d.i3,.int .u8 x.d.i4,.int .u8 x.d.i5,.int .u8 x.d.i6,.int .u8 x.d.i7,.int .i16 x.d.ax,.int .i16 x.d.ay,.int .u8 x.d.seats,.int .u8 x.d.cls,.int .i64 x.d.radius,.int .i64 x.number] ?_ ?_ x.cells ?_ ?_ ?_ x.cells_one ?_);rfl;rfl;rfl;rfl;rfl;exact ew;rfl))
          go_ret
          exact ⟨by rw [HF.out];rfl,(HR2.out.one _).below⟩
        · have h1':pv<x.number:=by omega
          have HA:=wB (dP HALL.out (show lC v.x.ds k=true by rw [HEQ.out];exact decide_eq_true h1'));have HN:=wB (HR2.out.one (.cells #[.int .u8 x.d.i0,.int .u8 x.d.i1,.int .u8 x.d.i2,.int .u8 x.d.i3,.int .u8 x.d.i4,.int .u8 x.d.i5,.int .u8 x.d.i6,.int .u8 x.d.i7,.int .i16 x.d.ax,.int .i16 x.d.ay,.int .u8 x.d.seats,.int .u8 x.d.cls,.int .i64 x.d.radius,.int .i64 x.number] 83));clear h1;go_wp2_with (first | ((with_reducible refine ad (o:=⟨some 61,_,_,_,_,_⟩) ?_ 83 (.tmp 60) ?_ b (o+k*14) ?_ x.cells #[.int .u8 x.d.i0,.int .u8 x.d.i1,.int .u8 x.d.i2,.int .u8 x.d.i3,.int .u8 x.d.i4,.int .u8 x.d.i5,.int .u8 x.d.i6,.int .u8 x.d.i7,.int .i16 x.d.ax,.int .i16 x.d.ay,.int .u8 x.d.seats,.int .u8 x.d.cls,.int .i64 x.d.radius,.int .i64 x.number] ?_ _ HCE.out Tryz.underlying83 ?_ ?_ ?_);rfl;rfl;rfl;rfl;rfl;exact ew) | ((with_reducible refine aj (o:=⟨none,.store 83 (.tmp 7) (.tmp 61),_,_,_,_⟩) ?_ 83 (.tmp 7) (.tmp 61) ?_ _ #[.int .u8 x.d.i0,.int .u8 x.d.i1,.int .u8 x.d.i2,.int .u8 x.d.i3,.int .u8 x.d.i4,.int .u8 x.d.i5,.int .u8 x.d.i6,.int .u8 x.d.i7,.int .i16 x.d.ax,.int .i16 x.d.ay,.int .u8 x.d.seats,.int .u8 x.d.cls,.int .i64 x.d.radius,.int .i64 x.number] ?_ ?_ x.cells ?_ ?_ ?_ x.cells_one ?_);rfl;rfl;rfl;rfl;rfl;exact ew;rfl))
          go_roundw
          case rel=>exact wB ⟨k+1,by rw [HP.out],by go_num,by omega,HA.out,HN.out⟩
          case measure=>simp [intOf];omega
      · obtain rfl:v.kn=k:=by omega
        have HS3:=wB (show fk v.x=true from bY (fun j hj=>HALL.out j (by rw [HIN.out.kl] at hj;exact hj)));clear HALL hlt hk;have HIW:=wB (HIN.out.keep HR2.out.below);have HSH:=wB (show eM v.x=(aT v.x.rows v.x.cols v.x.es && decide (v.x.rows=v.wn) && decide (v.x.cols=v.kn)) by unfold eM;rw [HIN.out.wl,HIN.out.kl]);go_wp2_with fail
        refine (ll wr v.x.rows v.x.cols v.eo v.en v.ec v.x.es HIW.out.el HIW.out.er (by omega)).mono ?_;rintro e w1 ⟨rfl,hb1⟩;have HR3:=wB (HR2.out.keep hb1);clear hb1 HIW g0 g1 g2 g3 g4 g5 g6 g7 g8 hs0;obtain ⟨g0,g1,g2,g3,g4,g5,g6,g7,g8⟩:=cells9 HR3.out.g;cases hgf:aT v.x.rows v.x.cols v.x.es with
        | false=>
          have HF:=wB (qx HS1.out HS2.out HS3.out (by rw [HSH.out,hgf];rfl));rw [show bz v.x.rows v.x.cols v.x.es=170 by simp [bz,hgf]];clear hgf;go_wp2_with fail
          go_ret
          exact ⟨by rw [HF.out];rfl,HR3.out.below⟩
        | true=>
          rw [show bz v.x.rows v.x.cols v.x.es=0 by simp [bz,hgf]];rw [hgf] at HSH;have HGF:=wB hgf;clear hgf;by_cases h5:v.x.rows=v.wn
          · by_cases h6:v.x.cols=v.kn
            · have HS4:=wB (show eM v.x=true by rw [HSH.out,decide_eq_true h5,decide_eq_true h6];rfl)
              have b5:(v.x.rows != (v.wn:Int))=false:=by simp [h5]
              have b6:(v.x.cols != (v.kn:Int))=false:=by simp [h6]
              clear h5 h6;go_wp2_with fail
              have HIW:=wB (HIN.out.keep HR3.out.below)
              as_aux_lemma=>
               refine (mo w1 v.x.rows v.x.cols v.eo v.po v.en v.ec v.pn v.pc v.x.es v.x.ps HIW.out.el HIW.out.er (by omega) HIW.out.pl HIW.out.pr (by omega)).mono ?_;rintro e w2 ⟨rfl,hb2⟩;have HR4:=wB (HR3.out.keep hb2);clear hb2 HIW g0 g1 g2 g3 g4 g5 g6 g7 g8;obtain ⟨g0,g1,g2,g3,g4,g5,g6,g7,g8⟩:=cells9 HR4.out.g;rw [nI HGF.out];cases hm:cO v.x.es v.x.ps with
               | false=>
                 have HF:=wB (recE_5 HS1.out HS2.out HS3.out HS4.out hm);rw [mW hm];clear hm;go_wp2_with fail
                 go_ret
                 exact ⟨by rw [HF.out];rfl,HR4.out.below⟩
               | true=>
                 have HS5:=wB hm;rw [lX hm];clear hm
                 as_aux_lemma=>
                  have HLB:=wB (show bX v.x.rows v.x.cols v.x.ys v.x.zs=(decide ((v.yn:Int)=v.x.rows) && decide ((v.zn:Int)=v.x.cols)) by unfold bX;rw [HIN.out.yl,HIN.out.zl]);by_cases h7:(v.yn:Int)=v.x.rows
                  · have b7:((v.yn:Int) != v.x.rows)=false:=by simp [h7]
                    by_cases h8:(v.zn:Int)=v.x.cols
                    · have HF:=wB (recE_7 HS1.out HS2.out HS3.out HS4.out HS5.out (by rw [HLB.out,decide_eq_true h7,decide_eq_true h8];rfl))
                      have b8:((v.zn:Int) != v.x.cols)=false:=by simp [h8]
                      clear h7 h8;go_wp2_with fail
                      go_ret
                      exact ⟨by rw [HF.out];rfl,HR4.out.below⟩
                    · have HF:=wB (ui HS1.out HS2.out HS3.out HS4.out HS5.out (by rw [HLB.out,decide_eq_false h8];simp))
                      have b8:((v.zn:Int) != v.x.cols)=true:=by simp [h8]
                      clear h7 h8;go_wp2_with fail
                      go_ret
                      exact ⟨by rw [HF.out];rfl,HR4.out.below⟩
                  · have HF:=wB (ui HS1.out HS2.out HS3.out HS4.out HS5.out (by rw [HLB.out,decide_eq_false h7];simp))
                    have b7:((v.yn:Int) != v.x.rows)=true:=by simp [h7]
                    clear h7;go_wp2_with fail
                    go_ret
                    exact ⟨by rw [HF.out];rfl,HR4.out.below⟩
            · have HF:=wB (qx HS1.out HS2.out HS3.out (by rw [HSH.out,decide_eq_false h6];simp))
              have b5:(v.x.rows != (v.wn:Int))=false:=by simp [h5]
              have b6:(v.x.cols != (v.kn:Int))=true:=by simp [h6]
              clear h5 h6;go_wp2_with fail
              go_ret
              exact ⟨by rw [HF.out];rfl,HR3.out.below⟩
          · have HF:=wB (qx HS1.out HS2.out HS3.out (by rw [HSH.out,decide_eq_false h5];simp))
            have b5:(v.x.rows != (v.wn:Int))=true:=by simp [h5]
            clear h5;go_wp2_with fail
            go_ret
            exact ⟨by rw [HF.out];rfl,HR3.out.below⟩
end Go.Proofs.YtcaicgipibcicaaGreat
