/- Graphs that may be; what a pair is worth. No program in sight. -/
import Derived.Test.YtcaicgipibcicaaGreatQApp
import Derived.Test.YtcaicgipibcicaaGreatQVals
import Derived.Test.YtcaicgipibcicaaGreatQMem
import Derived.Test.YtcaicgipibcicaaGreatProg
import Derived.ChangeKeysEq
import Derived.Laws.Cover3
import Derived.Lib.Hide
import Derived.Deep.RegionHeld3
import Derived.StillTailTactics
set_option maxRecDepth 100000
set_option linter.unusedSimpArgs false
set_option linter.unusedVariables false
open Bool renaming and_eq_true→xn
open Go.Result renaming andThen_ok→xH
open Go.Sem renaming run_bind→xK
open List renaming all_eq_true→xE,getElem?_eq_getElem→wE,getElem?_eq_some_iff→wD,length_cons→wY
open Nat renaming lt_succ_iff_lt_or_eq→xy
namespace Go.Proofs.YtcaicgipibcicaaGreat
open Go.RowKit
def iF (rows cols:Int) (x:ab):Bool:=decide (0≤x.r∧x.r<rows∧0≤x.c∧x.c<cols∧1≤x.w∧x.w≤1099513724929)
def dO (p x:ab):Bool:=decide (p.r<x.r∨(p.r=x.r∧p.c<x.c))
def bZ (rows cols:Int) (l:List ab) (i:Nat):Bool:=match l[i]? with
 | none=>true
 | some x=>iF rows cols x && (match i with
   | 0=>true
   | j+1=>match l[j]? with
     | none=>true
     | some p=>dO p x)
def kJ (rows cols:Int):Bool:=decide (0≤rows∧rows≤64∧0≤cols∧cols≤64)
def aT (rows cols:Int) (l:List ab):Bool:=kJ rows cols && (List.range l.length).all (bZ rows cols l)
def bz (rows cols:Int) (l:List ab):Int:=if aT rows cols l then 0 else 170
theorem ql {rows cols:Int} {l:List ab} (h:¬ (0≤rows∧rows≤64∧0≤cols∧cols≤64)):bz rows cols l=170:=by
 have:kJ rows cols=false:=by unfold kJ;exact decide_eq_false h
 simp [bz,aT,this]
theorem qm {rows cols:Int} {l:List ab} {i:Nat} (hi:i<l.length) (h:bZ rows cols l i=false):bz rows cols l=170:=by
 have:(List.range l.length).all (bZ rows cols l)=false:=by
  rw [List.all_eq_false];exact ⟨i,List.mem_range.2 hi,by simp [h]⟩
 simp [bz,aT,this]
theorem oD {rows cols:Int} {l:List ab} (h0:0≤rows∧rows≤64∧0≤cols∧cols≤64) (h:∀ j,j<l.length→bZ rows cols l j=true):bz rows cols l=0:=by
 have h1:(List.range l.length).all (bZ rows cols l)=true:=by
  rw [xE];intro x hx;exact h x (List.mem_range.1 hx)
 have h2:kJ rows cols=true:=by unfold kJ;exact decide_eq_true h0
 simp [bz,aT,h1,h2]
theorem qn {rows cols:Int} {l:List ab} {i:Nat} {x:ab} (hx:l[i]?=some x) (h:¬ (0≤x.r∧x.r<rows∧0≤x.c∧x.c<cols∧1≤x.w∧x.w≤1099513724929)):bZ rows cols l i=false:=by
 have:iF rows cols x=false:=by unfold iF;exact decide_eq_false h
 unfold bZ;simp [hx,this]
theorem nl {rows cols:Int} {l:List ab} {x:ab} (hx:l[0]?=some x) (h:0≤x.r∧x.r<rows∧0≤x.c∧x.c<cols∧1≤x.w∧x.w≤1099513724929):bZ rows cols l 0=true:=by
 have:iF rows cols x=true:=by unfold iF;exact decide_eq_true h
 unfold bZ;simp [hx,this]
theorem ke {rows cols:Int} {l:List ab} {i:Nat} {p x:ab} (hp:l[i]?=some p) (hx:l[i+1]?=some x) (h:0≤x.r∧x.r<rows∧0≤x.c∧x.c<cols∧1≤x.w∧x.w≤1099513724929):bZ rows cols l (i+1)=dO p x:=by
 have:iF rows cols x=true:=by unfold iF;exact decide_eq_true h
 unfold bZ;simp only [hx,this,hp,Bool.true_and]
theorem nm {p x:ab} (h:x.r<p.r∨(x.r=p.r∧x.c≤p.c)):dO p x=false:=by unfold dO;exact decide_eq_false (by omega)
theorem im {p x:ab} (h:¬ (x.r<p.r∨(x.r=p.r∧x.c≤p.c))):dO p x=true:=by unfold dO;exact decide_eq_true (by omega)
def gh (l:List ab) (i:Nat):ab:=match i with
 | 0=>⟨-1,0,0⟩
 | j+1=>l.getD j ⟨-1,0,0⟩
theorem kg {rows cols:Int} {l:List ab} {i:Nat} {x:ab} (hx:l[i]?=some x) (h:0≤x.r∧x.r<rows∧0≤x.c∧x.c<cols∧1≤x.w∧x.w≤1099513724929):bZ rows cols l i=dO (gh l i) x:=by
 cases i with
 | zero=>
   rw [nl hx h]
   symm
   apply im
   simp only [gh];omega
 | succ j=>
   have hj:j<l.length:=by have:=(wD.1 hx).1;omega
   have hp:l[j]?=some (l.getD j ⟨-1,0,0⟩):=by simp [hj]
   rw [ke hp hx h];rfl
theorem qo {rows cols:Int} {l:List ab} {i:Nat} {x p:ab} (hx:l[i]?=some x) (hp:gh l i=p) (h:¬ (0≤x.r∧x.r<rows∧0≤x.c∧x.c<cols∧1≤x.w∧x.w≤1099513724929)∨x.r<p.r∨(x.r=p.r∧x.c≤p.c)):bZ rows cols l i=false:=by
 by_cases hin:0≤x.r∧x.r<rows∧0≤x.c∧x.c<cols∧1≤x.w∧x.w≤1099513724929
 · rw [kg hx hin,hp]
   exact nm (h.resolve_left (fun k=>k hin))
 · exact qn hx hin
theorem sE {rows cols:Int} {l:List ab} {i:Nat} {x p:ab} (hx:l[i]?=some x) (hp:gh l i=p) (hin:0≤x.r∧x.r<rows∧0≤x.c∧x.c<cols∧1≤x.w∧x.w≤1099513724929) (h:p.r<x.r∨(x.r=p.r∧p.c<x.c)):bZ rows cols l i=true:=by
 rw [kg hx hin,hp];exact im (by omega)
theorem qp {l:List ab} {i:Nat} {x:ab} (hx:l[i]?=some x):gh l (i+1)=x:=by
 simp [gh,hx]
/-! what a pair is worth -/
def eV (c:ag) (now:Int) (w:aa) (e:Int):Int × Int:=
 if e≠0 then (0,e) else if ¬ (0≤now∧now≤1099511627776∧0≤w.since∧w.since≤1099511627776∧w.since≤now) then (0,1) else if w.r.ttl<now - w.since then (0,131)
 else ((now - w.since)*(c.b+1)+w.r.base+1,0)
def cV (n:Nat) (p:Nat→Bool):Bool:=(List.range n).all p
theorem cW {n:Nat} {p:Nat→Bool} {i:Nat} (hi:i<n) (h:p i=false):cV n p=false:=by
 unfold cV;rw [List.all_eq_false];exact ⟨i,List.mem_range.2 hi,by simp [h]⟩
theorem bY {n:Nat} {p:Nat→Bool} (h:∀ j,j<n→p j=true):cV n p=true:=by
 unfold cV;rw [xE];intro x hx;exact h x (List.mem_range.1 hx)
theorem dU {n:Nat} {p:Nat→Bool} (h:cV n p=true) {j:Nat} (hj:j<n):p j=true:=by
 unfold cV at h;rw [xE] at h;exact h j (List.mem_range.2 hj)
theorem oE {n:Nat} {p:Nat→Bool}:cV n p=true↔∀ j,j<n→p j=true:=⟨fun h _ hj=>dU h hj,bY⟩
theorem qq {n:Nat} {p q:Nat→Bool} (h:∀ j,j<n→p j=q j):cV n p=cV n q:=by
 rw [Bool.eq_iff_iff,oE,oE];exact ⟨fun a j hj=>by rw [←h j hj];exact a j hj,fun a j hj=>by rw [h j hj];exact a j hj⟩
theorem dP {k:Nat} {p:Nat→Bool} (h:∀ j,j<k→p j=true) (hk:p k=true):∀ j,j<k+1→p j=true:=fun j hj=>by
 rcases xy.1 hj with hj | rfl
 · exact h j hj
 · exact hk
theorem eC {p:Nat→Bool}:∀ j,j<0→p j=true:=fun j hj=>absurd hj (Nat.not_lt_zero j)
def isE (r c:Int) (e:ab):Bool:=decide (e.r=r∧e.c=c)
def aQ (es:List ab) (r c:Int):Int:=match es.find? (isE r c) with
 | none=>0
 | some e=>e.w
theorem oF {es:List ab} {r c:Int} {k:Nat} {x:ab} (hx:es[k]?=some x) (h:x.r=r∧x.c=c) (hno:∀ (j:Nat) (y:ab),j<k→es[j]?=some y→¬ (y.r=r∧y.c=c)):aQ es r c=x.w:=by
 have:es.find? (isE r c)=some x:=by
  rw [List.find?_eq_some_iff_getElem];have hk:=(wD.1 hx).1;refine ⟨decide_eq_true h,k,hk,(wD.1 hx).2,fun j hj=>?_⟩;have:=hno j (es[j]'(by omega)) hj (wE _);simp only [isE,decide_eq_false this,Bool.not_false]
 simp only [aQ,this]
theorem iY {es:List ab} {r c:Int} (hno:∀ (j:Nat) (y:ab),es[j]?=some y→¬ (y.r=r∧y.c=c)):aQ es r c=0:=by
 have:es.find? (isE r c)=none:=by
  rw [List.find?_eq_none];intro y hy;obtain ⟨j,hj,rfl⟩:=List.getElem_of_mem hy;have:=hno j _ (wE hj);simp only [isE,decide_eq_false this,Bool.false_eq_true,not_false_eq_true]
 simp only [aQ,this]
/-! graphs that may be -/
theorem fO {rows cols:Int} {es:List ab} (h:aT rows cols es=true):0≤rows∧rows≤64∧0≤cols∧cols≤64:=by
 unfold aT at h;rw [xn] at h;exact of_decide_eq_true h.1
theorem gT {rows cols:Int} {es:List ab} (h:aT rows cols es=true) {i:Nat} {x:ab} (hx:es[i]?=some x):0≤x.r∧x.r<rows∧0≤x.c∧x.c<cols∧1≤x.w∧x.w≤1099513724929:=by
 unfold aT at h;rw [xn] at h;have hi:=(wD.1 hx).1;have:=(xE.1 h.2) i (List.mem_range.2 hi);unfold bZ at this;simp only [hx,xn] at this;exact of_decide_eq_true this.1
theorem kh {rows cols:Int} {es:List ab} (h:aT rows cols es=true) {i:Nat} {x y:ab} (hx:es[i]?=some x) (hy:es[i+1]?=some y):x.r<y.r∨(x.r=y.r∧x.c<y.c):=by
 have hin:=gT h hy;unfold aT at h;rw [xn] at h;have hi:=(wD.1 hy).1;have:=(xE.1 h.2) (i+1) (List.mem_range.2 hi);rw [ke hx hy hin] at this;exact of_decide_eq_true this
theorem oG {rows cols:Int} {es:List ab} (h:aT rows cols es=true):∀ (d i:Nat) (x y:ab),es[i]?=some x→es[i+d+1]?=some y→x.r<y.r∨(x.r=y.r∧x.c<y.c):=by
 intro d
 induction d with
 | zero=>intro i x y hx hy;exact kh h hx hy
 | succ d ih=>
   intro i x y hx hy;have hl:=(wD.1 hy).1;have hm:es[i+d+1]?=some (es[i+d+1]'(by omega)):=wE _;have h1:=ih i x _ hx hm;have h2:=kh h hm hy;omega
theorem jz {rows cols:Int} {es:List ab} (h:aT rows cols es=true) {i j:Nat} (hij:i<j) {x y:ab} (hx:es[i]?=some x) (hy:es[j]?=some y):x.r<y.r∨(x.r=y.r∧x.c<y.c):=
 oG h (j - i - 1) i x y hx (by rw [show i+(j - i - 1)+1=j by omega];exact hy)
def gD (x:ab) (r c:Int):Bool:=decide (x.r<r∨(x.r=r∧x.c<c))
structure Halves (es:List ab) (r c:Int) (low high:Nat):Prop where
 le:low≤high
 len:high≤es.length
 ahead:∀ (j:Nat) (x:ab),j<low→es[j]?=some x→gD x r c=true
 behind:∀ (j:Nat) (x:ab),high≤j→es[j]?=some x→gD x r c=false
theorem Halves.begin (es:List ab) (r c:Int):Halves es r c 0 es.length:=
 ⟨Nat.zero_le _,Nat.le_refl _,fun j x h=>absurd h (Nat.not_lt_zero j),fun j x h hx=>by have:=(wD.1 hx).1;omega⟩
theorem Halves.up {rows cols:Int} {es:List ab} {r c:Int} {low high m:Nat} (hg:aT rows cols es=true) (h:Halves es r c low high) {x:ab} (hm:low≤m) (hm2:m<high) (hx:es[m]?=some x) (ha:gD x r c=true):Halves es r c (m+1) high:=by
 refine ⟨hm2,h.len,fun j y hj hy=>?_,h.behind⟩;rcases xy.1 hj with hj | rfl
 · have h1:=jz hg hj hy hx
   have h2:=of_decide_eq_true ha;exact decide_eq_true (by omega)
 · rw [hx] at hy;cases hy;exact ha
theorem Halves.down {rows cols:Int} {es:List ab} {r c:Int} {low high m:Nat} (hg:aT rows cols es=true) (h:Halves es r c low high) {x:ab} (hm:low≤m) (hm2:m<high) (hx:es[m]?=some x) (ha:gD x r c=false):Halves es r c low m:=by
 refine ⟨hm,by have:=h.len;omega,h.ahead,fun j y hj hy=>?_⟩;rcases Nat.lt_or_eq_of_le hj with hj | rfl
 · have h1:=jz hg hj hx hy
   have h2:=of_decide_eq_false ha;exact decide_eq_false (by omega)
 · rw [hx] at hy;cases hy;exact ha
theorem Halves.hit {es:List ab} {r c:Int} {low:Nat} (h:Halves es r c low low) {x:ab} (hx:es[low]?=some x) (he:x.r=r∧x.c=c):aQ es r c=x.w:=
 oF hx he (fun j y hj hy hh=>by have:=of_decide_eq_true (h.ahead j y hj hy);omega)
theorem Halves.miss {rows cols:Int} {es:List ab} {r c:Int} {low:Nat} (hg:aT rows cols es=true) (h:Halves es r c low low) {x:ab} (hx:es[low]?=some x) (he:¬ (x.r=r∧x.c=c)):aQ es r c=0:=by
 refine iY fun j y hy hh=>?_
 rcases Nat.lt_trichotomy j low with hj | rfl | hj
 · have:=of_decide_eq_true (h.ahead j y hj hy);omega
 · rw [hx] at hy;cases hy;exact he hh
 · have h1:=jz hg hj hx hy
   have h2:=of_decide_eq_false (h.behind low x (Nat.le_refl _) hx);omega
theorem Halves.past {es:List ab} {r c:Int} {low:Nat} (h:Halves es r c low low) (hl:es.length≤low):aQ es r c=0:=
 iY fun j y hy hh=>by
  have:=(wD.1 hy).1;have:=of_decide_eq_true (h.ahead j y (by omega) hy);omega
theorem eJ {rows cols:Int} {es:List ab} (hg:aT rows cols es=true) (r c:Int):(aQ es r c=0∧∀ (j:Nat) (y:ab),es[j]?=some y→¬ (y.r=r∧y.c=c))∨(1≤aQ es r c∧aQ es r c≤1099513724929∧0≤r∧r<rows∧0≤c∧c<cols∧∃ (j:Nat) (y:ab),es[j]?=some y∧y.r=r∧y.c=c∧aQ es r c=y.w):=by
 cases hf:es.find? (isE r c) with
 | none=>
   left
   refine ⟨by simp only [aQ,hf],fun j y hy=>?_⟩;have:=List.find?_eq_none.1 hf y (List.mem_of_getElem? hy);exact fun h=>this (decide_eq_true h)
 | some e=>
   right
   have hm:=List.mem_of_find?_eq_some hf;have hp1:isE r c e=true:=List.find?_some hf;have hp:=of_decide_eq_true hp1;obtain ⟨j,hj,rfl⟩:=List.getElem_of_mem hm;have:=gT hg (wE hj);have hw:aQ es r c=es[j].w:=by simp only [aQ,hf]
   rw [hw];exact ⟨by omega,by omega,by omega,by omega,by omega,by omega,j,_,wE hj,hp.1,hp.2,rfl⟩
/-! matchings -/
def lu (ps:List ai) (i:Nat):Int:=match i with
 | 0=>-1
 | j+1=>(ps.getD j ⟨-1,0⟩).r
theorem lv {ps:List ai} {i:Nat} {x:ai} (hx:ps[i]?=some x):lu ps (i+1)=x.r:=by simp [lu,hx]
def fA (ps:List ai) (i:Nat) (c:Int):Bool:=cV i (fun k=>match ps[k]? with | none=>true | some y=>decide (y.c≠c))
def iG (es:List ab) (ps:List ai) (i:Nat):Bool:=match ps[i]? with
 | none=>true
 | some x=>decide (lu ps i<x.r) && decide (aQ es x.r x.c≠0) && fA ps i x.c
def cO (es:List ab) (ps:List ai):Bool:=cV ps.length (iG es ps)
theorem mH {es:List ab} {ps:List ai} {i:Nat} {x:ai} (hx:ps[i]?=some x):iG es ps i=(decide (lu ps i<x.r) && decide (aQ es x.r x.c≠0) && fA ps i x.c):=by simp only [iG,hx]
theorem qr {ps:List ai} {i:Nat} {x:ai} (hx:ps[i]?=some x) (c:Int):fA ps (i+1) c=(fA ps i c && decide (x.c≠c)):=by
 unfold fA cV;rw [List.range_succ,List.all_append];simp [hx]
theorem qs (ps:List ai) (c:Int):fA ps 0 c=true:=rfl
theorem qt {es:List ab} {ps:List ai} {i:Nat} {x:ai} (hx:ps[i]?=some x) (h:iG es ps i=false):cO es ps=false:=cW (wD.1 hx).1 h
theorem jA {es:List ab} {ps:List ai} (h:cO es ps=true) {i:Nat} {x:ai} (hx:ps[i]?=some x):lu ps i<x.r∧aQ es x.r x.c≠0∧fA ps i x.c=true:=by
 have:=dU h (wD.1 hx).1;rw [mH hx,xn,xn] at this;exact ⟨of_decide_eq_true this.1.1,of_decide_eq_true this.1.2,this.2⟩
theorem iH {rows cols:Int} {es:List ab} {ps:List ai} (hg:aT rows cols es=true) (h:cO es ps=true):∀ (i:Nat) (x:ai),ps[i]?=some x→(i:Int)≤x.r∧x.r<rows:=by
 intro i
 induction i with
 | zero=>
   intro x hx;obtain ⟨h1,h2,_⟩:=jA h hx;rcases eJ hg x.r x.c with ⟨h0,_⟩ | ⟨_,_,h3,h4,_⟩
   · exact absurd h0 h2
   · omega
 | succ i ih=>
   intro x hx;have hl:=(wD.1 hx).1;have hy:ps[i]?=some (ps[i]'(by omega)):=wE _;have:=ih _ hy;obtain ⟨h1,h2,_⟩:=jA h hx;rw [lv hy] at h1;rcases eJ hg x.r x.c with ⟨h0,_⟩ | ⟨_,_,h3,h4,_⟩
   · exact absurd h0 h2
   · omega
theorem mI {rows cols:Int} {es:List ab} {ps:List ai} (hg:aT rows cols es=true) (h:cO es ps=true):ps.length≤64:=by
 have hr:=fO hg;cases hps:ps.length with
 | zero=>omega
 | succ n=>
   have hx:ps[n]?=some (ps[n]'(by omega)):=wE _;have:=iH hg h n _ hx;omega
def iI (rows cols:Int) (es:List ab) (ps:List ai):Int:=if aT rows cols es then (if cO es ps then 0 else 180) else 170
/-! prices -/
def aX (l:List Int):Bool:=l.all (fun n=>decide (0≤n))
def dV (es:List ab) (ys zs:List Int) (i:Nat):Bool:=match es[i]? with
 | none=>true
 | some x=>decide (x.w - ys.getD x.r.toNat 0≤zs.getD x.c.toNat 0)
def ki (es:List ab) (ys zs:List Int):Bool:=aX ys && aX zs && cV es.length (dV es ys zs)
def sumF:Int→List Int→Option Int
 | n,[]=>some n
 | n,p::l=>if 4611686018427387903 - n<p then none else sumF (n+p) l
def fj (ys zs:List Int):Option Int:=sumF 0 (ys++zs)
theorem kj (l m:List Int):∀ n,sumF n (l++m)=(sumF n l).bind fun k=>sumF k m:=by
 induction l with
 | nil=>intro n;simp [sumF]
 | cons p l ih=>intro n;simp only [List.cons_append,sumF];split <;> simp [ih]
def ca (es:List ab) (ps:List ai):Int:=(ps.map fun p=>aQ es p.r p.c).sum
def bX (rows cols:Int) (ys zs:List Int):Bool:=decide ((ys.length:Int)=rows) && decide ((zs.length:Int)=cols)
def qu (rows cols:Int) (es:List ab) (ys zs:List Int):Int:=
 if bX rows cols ys zs then (if ki es ys zs then 0 else 181) else 1
def gapB (es:List ab) (ps:List ai) (ys zs:List Int):Bool:=decide (fj ys zs=some (ca es ps))
def mJ (rows cols:Int) (es:List ab) (ps:List ai) (ys zs:List Int):Int:=
 if iI rows cols es ps≠0 then iI rows cols es ps else if qu rows cols es ys zs≠0 then qu rows cols es ys zs else if gapB es ps ys zs then 0 else 182
theorem sF (l:List Int) (p n:Int):sumF n (l++[p])=(sumF n l).bind fun k=>if 4611686018427387903 - k<p then none else some (k+p):=by
 rw [kj];rfl
theorem jB {l m:List Int} {n:Int} (h:sumF n l=none):sumF n (l++m)=none:=by rw [kj,h];rfl
theorem vK (l:List Int):∀ n,0≤n→n≤4611686018427387903→aX l=true→∀ k,sumF n l=some k→n≤k∧k≤4611686018427387903:=by
 induction l with
 | nil=>intro n h0 h1 _ k hk;simp only [sumF,Option.some.injEq] at hk;omega
 | cons p l ih=>
   intro n h0 h1 hn k hk;simp only [aX,List.all_cons,xn] at hn ih;have hp:=of_decide_eq_true hn.1;simp only [sumF] at hk;split at hk
   · cases hk
   · have:=ih (n+p) (by omega) (by omega) hn.2 k hk
     omega
theorem oH (es:List ab) (ps:List ai) (x:ai):ca es (ps++[x])=ca es ps+aQ es x.r x.c:=by simp [ca]
theorem lx {rows cols:Int} {es:List ab} (hg:aT rows cols es=true) (r c:Int):0≤aQ es r c∧aQ es r c≤1099513724929:=by
 rcases eJ hg r c with ⟨h0,_⟩ | ⟨h1,h2,_⟩ <;> omega
theorem sG {rows cols:Int} {es:List ab} (hg:aT rows cols es=true) (ps:List ai):0≤ca es ps∧ca es ps≤1099513724929*ps.length:=by
 induction ps with
 | nil=>simp [ca]
 | cons p ps ih=>
   have:=lx hg p.r p.c;simp only [ca,List.map_cons,List.sum_cons,wY] at ih ⊢;omega
def ly (ws:List aa) (ds:List ak) (i k:Nat):Bool:=match ws[i]?,ds[k]? with
 | some w,some d=>lq w.r d.d
 | _,_=>false
theorem ub {ws:List aa} {ds:List ak} {i k:Nat} {w:aa} {d:ak} (hw:ws[i]?=some w) (hd:ds[k]?=some d):ly ws ds i k=lq w.r d.d:=by simp [ly,hw,hd]
def bM (ws:List aa) (ds:List ak) (i k:Nat):List ai:=((List.range k).filter (fun c=>ly ws ds i c)).map fun (c:Nat)=>(⟨(i:Int),(c:Int)⟩:ai)
def pairsRow (ws:List aa) (ds:List ak) (n:Nat):List ai:=(List.range n).flatMap fun i=>bM ws ds i ds.length
def cR (ws:List aa) (ds:List ak):List ai:=pairsRow ws ds ws.length
theorem io (ws:List aa) (ds:List ak) (i:Nat):bM ws ds i 0=[]:=rfl
theorem nn {ws:List aa} {ds:List ak} {i k:Nat} (h:ly ws ds i k=true):bM ws ds i (k+1)=bM ws ds i k++[⟨(i:Int),(k:Int)⟩]:=by
 simp [bM,List.range_succ,h]
theorem oI {ws:List aa} {ds:List ak} {i k:Nat} (h:ly ws ds i k=false):bM ws ds i (k+1)=bM ws ds i k:=by
 simp [bM,List.range_succ,h]
theorem ip (ws:List aa) (ds:List ak) (i:Nat):pairsRow ws ds (i+1)=pairsRow ws ds i++bM ws ds i ds.length:=by
 simp [pairsRow,List.range_succ]
theorem iZ (ws:List aa) (ds:List ak) (i k:Nat):(bM ws ds i k).length≤k:=by
 unfold bM;rw [List.length_map];exact Nat.le_trans (List.length_filter_le _ _) (by simp)
theorem i8 (ws:List aa) (ds:List ak) (n:Nat):(pairsRow ws ds n).length≤n*ds.length:=by
 induction n with
 | zero=>simp [pairsRow]
 | succ n ih=>rw [ip,List.length_append,Nat.add_mul];have:=iZ ws ds n ds.length;omega
def aV (ws:List aa) (ds:List ak) (i k:Nat):List ai:=pairsRow ws ds i++bM ws ds i k
theorem oJ (ws:List aa) (ds:List ak) (i k:Nat):(aV ws ds i k).length≤i*ds.length+k:=by
 rw [aV,List.length_append];have:=i8 ws ds i;have:=iZ ws ds i k;omega
theorem oK {ws:List aa} {ds:List ak} {i k:Nat} (h:ly ws ds i k=true):aV ws ds i (k+1)=aV ws ds i k++[⟨(i:Int),(k:Int)⟩]:=by
 rw [aV,aV,nn h,List.append_assoc]
theorem qv {ws:List aa} {ds:List ak} {i k:Nat} (h:ly ws ds i k=false):aV ws ds i (k+1)=aV ws ds i k:=by
 rw [aV,aV,oI h]
theorem np (ws:List aa) (ds:List ak) (i:Nat):aV ws ds (i+1) 0=aV ws ds i ds.length:=by
 rw [aV,aV,io,List.append_nil,ip]
theorem oL (ws:List aa) (ds:List ak):aV ws ds ws.length 0=cR ws ds:=by
 rw [aV,io,List.append_nil];rfl
structure aw where
 tick:Int
 ws:List aa
 ds:List ak
 rows:Int
 cols:Int
 es:List ab
 ps:List ai
 ys:List Int
 zs:List Int
instance:DecidableEq ab:=fun a b=>
 decidable_of_iff (a.r=b.r∧a.c=b.c∧a.w=b.w) ⟨fun ⟨h1,h2,h3⟩=>by cases a;cases b;simp_all,fun h=>by subst h;exact ⟨rfl,rfl,rfl⟩⟩
structure ab.Ok (e:ab):Prop where
 r:ar e.r
 c:ar e.c
 w:ar e.w
structure ai.Ok (p:ai):Prop where
 r:ar p.r
 c:ar p.c
structure ag.Ok (c:ag):Prop where
 q:ar c.q
 d:ar c.d
 w:ar c.w
 ttl:ar c.ttl
 b:ar c.b
structure aw.Ok (x:aw):Prop where
 tick:ar x.tick
 ws:∀ w ∈ x.ws,w.Ok
 ds:∀ d ∈ x.ds,d.Ok
 rows:ar x.rows
 cols:ar x.cols
 es:∀ e ∈ x.es,e.Ok
 ps:∀ p ∈ x.ps,p.Ok
 ys:∀ n ∈ x.ys,ar n
 zs:∀ n ∈ x.zs,ar n
/-! numbers that rise -/
def km (ws:List aa) (i:Nat):Int:=match i with
 | 0=>-1
 | j+1=>match ws[j]? with
   | none=>-1
   | some x=>x.number
def kp (ds:List ak) (i:Nat):Int:=match i with
 | 0=>-1
 | j+1=>match ds[j]? with
   | none=>-1
   | some x=>x.number
theorem lz {ws:List aa} {i:Nat} {x:aa} (h:ws[i]?=some x):km ws (i+1)=x.number:=by simp [km,h]
theorem lA {ds:List ak} {i:Nat} {x:ak} (h:ds[i]?=some x):kp ds (i+1)=x.number:=by simp [kp,h]
def lB (tick:Int) (ws:List aa) (i:Nat):Bool:=match ws[i]? with
 | none=>true
 | some x=>decide (km ws i<x.number∧0≤x.since∧x.since≤tick)
def lC (ds:List ak) (i:Nat):Bool:=match ds[i]? with
 | none=>true
 | some x=>decide (kp ds i<x.number)
theorem eD {tick:Int} {ws:List aa} {i:Nat} {x:aa} (h:ws[i]?=some x):lB tick ws i=decide (km ws i<x.number∧0≤x.since∧x.since≤tick):=by simp only [lB,h]
theorem gU {ds:List ak} {i:Nat} {x:ak} (h:ds[i]?=some x):lC ds i=decide (kp ds i<x.number):=by simp only [lC,h]
def eK (x:aw):Bool:=decide (1≤x.tick∧x.tick≤1099511627776∧x.ws.length≤64∧x.ds.length≤64)
def eL (x:aw):Bool:=cV x.ws.length (lB x.tick x.ws)
def fk (x:aw):Bool:=cV x.ds.length (lC x.ds)
def eM (x:aw):Bool:=aT x.rows x.cols x.es && decide (x.rows=x.ws.length) && decide (x.cols=x.ds.length)
def bh (x:aw):Int:=
 if !eK x then 1 else if !eL x then 1 else if !fk x then 1 else if !eM x then 170 else if !cO x.es x.ps then 180 else if !bX x.rows x.cols x.ys x.zs then 1 else 0
theorem bN {x:aw} (h:bh x=0):eK x=true∧eL x=true∧fk x=true∧eM x=true∧cO x.es x.ps=true∧bX x.rows x.cols x.ys x.zs=true:=by
 unfold bh at h;cases h1:eK x <;> cases h2:eL x <;> cases h3:fk x <;> cases h4:eM x <;> cases h5:cO x.es x.ps <;> cases h6:bX x.rows x.cols x.ys x.zs <;> simp_all
/-! chapter 26 -/
def idR (a:aB):List Int:=[a.i0,a.i1,a.i2,a.i3,a.i4,a.i5,a.i6,a.i7]
def idD (a:iD):List Int:=[a.i0,a.i1,a.i2,a.i3,a.i4,a.i5,a.i6,a.i7]
def newAt (ids:List (List Int)) (i:Nat):Bool:=match ids[i]? with
 | none=>true
 | some x=>cV i (fun k=>match ids[k]? with | none=>true | some y=>decide (y≠x))
def eW (ids:List (List Int)):Bool:=cV ids.length (newAt ids)
def kq (c:ag) (tick:Int) (ws:List aa) (i:Nat):Bool:=match ws[i]? with
 | none=>true
 | some w=>decide (bt c w.r=0) && decide (tick≤w.since+w.r.ttl)
def ks (ds:List ak) (i:Nat):Bool:=match ds[i]? with
 | none=>true
 | some d=>decide (bc d.d=0)
def bO (c:ag) (x:aw):Bool:=
 decide ((x.ws.length:Int)≤c.q∧(x.ds.length:Int)≤c.d) && cV x.ws.length (kq c x.tick x.ws) && cV x.ds.length (ks x.ds) && eW (x.ws.map fun w=>idR w.r) && eW (x.ds.map fun d=>idD d.d)
/-! graphs -/
def fl (c:ag) (now:Int):List aa→Int
 | []=>0
 | w::l=>if (eV c now w (bt c w.r)).2≠0 then (eV c now w (bt c w.r)).2 else fl c now l
def dZ:List ak→Int
 | []=>0
 | d::l=>if bc d.d≠0 then bc d.d else dZ l
def bH (c:ag) (now:Int) (ws:List aa) (ds:List ak):List ab:=(cR ws ds).map fun p=>⟨p.r,p.c,match ws[p.r.toNat]? with | none=>0 | some w=>(eV c now w (bt c w.r)).1⟩
def bA (c:ag) (now:Int) (ws:List aa) (ds:List ak):Int:=
 if aA c≠0 then aA c else if !eh now then 1 else if 64<ws.length∨64<ds.length then 3 else if fl c now ws≠0 then fl c now ws else dZ ds
def eX (c:ag) (tick:Int):Bool:=decide (1≤tick∧tick≤1099511627776) && decide (tick % c.w=0)
def cS (c:ag) (x:aw):Bool:=decide (bA c x.tick x.ws x.ds=0) && decide (x.rows=x.ws.length) && decide (x.cols=x.ds.length) && decide (bH c x.tick x.ws x.ds=x.es)
def aL (c:ag) (x:aw):Int:=
 if aA c≠0 then 160 else if !eX c x.tick then 262 else if bh x≠0 then bh x else if !bO c x then 1 else if !cS c x then 260 else mJ x.rows x.cols x.es x.ps x.ys x.zs
section
variable {P:Program}
theorem d6 {d:Nat} {e n:Nat} {xs ys:Array Value} {i:Nat} {is:List Nat} {a b:Value} {r s:Bool} {w:World}
 (ha:(part e xs (i*n)).run P w = .ok a w) (hb:(part e ys (i*n)).run P w = .ok b w) (he:(Op.equalIn d e a b).run P w = .ok r w) (hr:(Op.eqItems d e n xs ys is).run P w = .ok s w) :
 (Op.eqItems d e n xs ys (i::is)).run P w = .ok (r && s) w:=by
 rw [Op.eqItems];simp only [xK,ha,hb,he,xH];cases r
 · simp
 · simpa using hr
theorem vL {d:Nat} {e n:Nat} {xs ys:Array Value} {w:World}:(Op.eqItems d e n xs ys []).run P w = .ok true w:=by simp [Op.eqItems]
end
section
variable {P:Program} {d:Nat} {xs ys:Array Value} {f:Field} {fs:List Field} {a b:Value} {r s:Bool} {w:World}
theorem i9 (hn : (f.name == "_") = false) (ha : (part f.type xs f.offset).run P w = .ok a w) (hb : (part f.type ys f.offset).run P w = .ok b w) (he : (Op.equalIn d f.type a b).run P w = .ok r w) : (Op.eqFields d xs ys [f]).run P w = .ok r w := by
 have hn' : f.name ≠ "_" := by simpa using hn
 simp only [Op.eqFields,if_pos hn',xK,ha,hb,he,xH];cases r <;> simp
theorem cE (hn : (f.name == "_") = false) (ha : (part f.type xs f.offset).run P w = .ok a w) (hb : (part f.type ys f.offset).run P w = .ok b w) (he : (Op.equalIn d f.type a b).run P w = .ok r w) (hr : (Op.eqFields d xs ys fs).run P w = .ok s w) : (Op.eqFields d xs ys (f :: fs)).run P w = .ok (r && s) w := by
 have hn' : f.name ≠ "_" := by simpa using hn
 rw [Op.eqFields];simp only [if_pos hn',xK,ha,hb,he,xH];cases r
 · simp
 · simpa using hr
theorem oM {t:TypeId} {fs:Array Field} (hu:P.underlying t=some (.struct fs)) (hp:P.stoodInHeld t=false) (h:(Op.eqFields d xs ys fs.toList).run P w = .ok r w):(Op.equalIn (d+1) t (.agg xs) (.agg ys)).run P w = .ok r w:=by
 have hf:P.fieldsOf t=fs:=by simp [Program.fieldsOf,hu]
 rw [run_equalIn_struct (P:=P) w d t xs ys (by rw [hf];exact hu) hp,hf];exact h
end
theorem eq_id (d:Nat) (w:World) (x0 y0 x1 y1 x2 y2 x3 y3 x4 y4 x5 y5 x6 y6 x7 y7:Int):(Op.equalIn (d+2) 72 (.agg #[.int .u8 x0,.int .u8 x1,.int .u8 x2,.int .u8 x3,.int .u8 x4,.int .u8 x5,.int .u8 x6,.int .u8 x7]) (.agg #[.int .u8 y0,.int .u8 y1,.int .u8 y2,.int .u8 y3,.int .u8 y4,.int .u8 y5,.int .u8 y6,.int .u8 y7])).run Tryz.prog w = .ok ((x0==y0 && (x1==y1 && (x2==y2 && (x3==y3 && (x4==y4 && (x5==y5 && (x6==y6 && (x7==y7 && true))))))))) w:=by
 obtain ⟨i,hi,_⟩:=info_parts (show (Tryz.prog.info? 5).map (fun i=>(i.zero,i.size,i.bytes))=some (some (.int .u8 0),1,1) by kernel_rfl);have hc:Tryz.prog.cellsOf 5=1:=by kernel_rfl
 rw [run_equalIn_array w (d+1) _ _ Tryz.underlying72 hi,hc];simp only [List.range_succ,List.range_zero,List.nil_append,List.cons_append];refine d6 (by go_simp;rfl) (by go_simp;rfl) (by go_simp) ?_;refine d6 (by go_simp;rfl) (by go_simp;rfl) (by go_simp) ?_;refine d6 (by go_simp;rfl) (by go_simp;rfl) (by go_simp) ?_;refine d6 (by go_simp;rfl) (by go_simp;rfl) (by go_simp) ?_;refine d6 (by go_simp;rfl) (by go_simp;rfl) (by go_simp) ?_;refine d6 (by go_simp;rfl) (by go_simp;rfl) (by go_simp) ?_;refine d6 (by go_simp;rfl) (by go_simp;rfl) (by go_simp) ?_;exact d6 (by go_simp;rfl) (by go_simp;rfl) (by go_simp) vL
theorem oN (d:Nat) (w:World) (x0 y0 x1 y1:Int):(Op.equalIn (d+2) 75 (.agg #[.int .i16 x0,.int .i16 x1]) (.agg #[.int .i16 y0,.int .i16 y1])).run Tryz.prog w = .ok ((x0==y0 && x1==y1)) w:=by
 refine oM Tryz.underlying75 (by kernel_rfl) ?_;refine cE (by rfl) (by go_simp;rfl) (by go_simp;rfl) (by go_simp) ?_;exact i9 (by rfl) (by go_simp;rfl) (by go_simp;rfl) (by go_simp)
def uc (x0 y0 x1 y1 x2 y2 x3 y3 x4 y4 x5 y5 x6 y6 x7 y7 x8 y8 x9 y9 x10 y10 x11 y11 x12 y12 x13 y13 x14 y14 x15 y15:Int):Bool:=(((x0==y0 && (x1==y1 && (x2==y2 && (x3==y3 && (x4==y4 && (x5==y5 && (x6==y6 && (x7==y7 && true))))))))) && (((x8==y8 && x9==y9)) && (((x10==y10 && x11==y11)) && (x12==y12 && (x13==y13 && (x14==y14 && x15==y15))))))
theorem eq_req (d:Nat) (w:World) (x0 y0 x1 y1 x2 y2 x3 y3 x4 y4 x5 y5 x6 y6 x7 y7 x8 y8 x9 y9 x10 y10 x11 y11 x12 y12 x13 y13 x14 y14 x15 y15:Int):(Op.equalIn (d+3) 77 (.agg #[.int .u8 x0,.int .u8 x1,.int .u8 x2,.int .u8 x3,.int .u8 x4,.int .u8 x5,.int .u8 x6,.int .u8 x7,.int .i16 x8,.int .i16 x9,.int .i16 x10,.int .i16 x11,.int .u8 x12,.int .u8 x13,.int .i64 x14,.int .i64 x15]) (.agg #[.int .u8 y0,.int .u8 y1,.int .u8 y2,.int .u8 y3,.int .u8 y4,.int .u8 y5,.int .u8 y6,.int .u8 y7,.int .i16 y8,.int .i16 y9,.int .i16 y10,.int .i16 y11,.int .u8 y12,.int .u8 y13,.int .i64 y14,.int .i64 y15])).run Tryz.prog w = .ok ((((x0==y0 && (x1==y1 && (x2==y2 && (x3==y3 && (x4==y4 && (x5==y5 && (x6==y6 && (x7==y7 && true))))))))) && (((x8==y8 && x9==y9)) && (((x10==y10 && x11==y11)) && (x12==y12 && (x13==y13 && (x14==y14 && x15==y15))))))) w:=by
 refine oM Tryz.underlying77 (by kernel_rfl) ?_;refine cE (by rfl) (by go_simp) (by go_simp) (eq_id (d+0) w _ _ _ _ _ _ _ _ _ _ _ _ _ _ _ _ ) ?_;refine cE (by rfl) (by go_simp) (by go_simp) (oN (d+0) w _ _ _ _ ) ?_;refine cE (by rfl) (by go_simp) (by go_simp) (oN (d+0) w _ _ _ _ ) ?_;refine cE (by rfl) (by go_simp;rfl) (by go_simp;rfl) (by go_simp) ?_;refine cE (by rfl) (by go_simp;rfl) (by go_simp;rfl) (by go_simp) ?_;refine cE (by rfl) (by go_simp;rfl) (by go_simp;rfl) (by go_simp) ?_;exact i9 (by rfl) (by go_simp;rfl) (by go_simp;rfl) (by go_simp)
theorem bq_req_iff (x0 y0 x1 y1 x2 y2 x3 y3 x4 y4 x5 y5 x6 y6 x7 y7 x8 y8 x9 y9 x10 y10 x11 y11 x12 y12 x13 y13 x14 y14 x15 y15:Int):uc x0 y0 x1 y1 x2 y2 x3 y3 x4 y4 x5 y5 x6 y6 x7 y7 x8 y8 x9 y9 x10 y10 x11 y11 x12 y12 x13 y13 x14 y14 x15 y15=true↔x0=y0∧x1=y1∧x2=y2∧x3=y3∧x4=y4∧x5=y5∧x6=y6∧x7=y7∧x8=y8∧x9=y9∧x10=y10∧x11=y11∧x12=y12∧x13=y13∧x14=y14∧x15=y15:=by simp [uc,and_assoc]
def kO (x0 y0 x1 y1 x2 y2 x3 y3 x4 y4 x5 y5 x6 y6 x7 y7 x8 y8 x9 y9 x10 y10 x11 y11 x12 y12 x13 y13 x14 y14 x15 y15 x16 y16 x17 y17:Int):Bool:=(((((x0==y0 && (x1==y1 && (x2==y2 && (x3==y3 && (x4==y4 && (x5==y5 && (x6==y6 && (x7==y7 && true))))))))) && (((x8==y8 && x9==y9)) && (((x10==y10 && x11==y11)) && (x12==y12 && (x13==y13 && (x14==y14 && x15==y15))))))) && (x16==y16 && x17==y17))
theorem vM (d:Nat) (w:World) (x0 y0 x1 y1 x2 y2 x3 y3 x4 y4 x5 y5 x6 y6 x7 y7 x8 y8 x9 y9 x10 y10 x11 y11 x12 y12 x13 y13 x14 y14 x15 y15 x16 y16 x17 y17:Int):(Op.equalIn (d+4) 79 (.agg #[.int .u8 x0,.int .u8 x1,.int .u8 x2,.int .u8 x3,.int .u8 x4,.int .u8 x5,.int .u8 x6,.int .u8 x7,.int .i16 x8,.int .i16 x9,.int .i16 x10,.int .i16 x11,.int .u8 x12,.int .u8 x13,.int .i64 x14,.int .i64 x15,.int .i64 x16,.int .i64 x17]) (.agg #[.int .u8 y0,.int .u8 y1,.int .u8 y2,.int .u8 y3,.int .u8 y4,.int .u8 y5,.int .u8 y6,.int .u8 y7,.int .i16 y8,.int .i16 y9,.int .i16 y10,.int .i16 y11,.int .u8 y12,.int .u8 y13,.int .i64 y14,.int .i64 y15,.int .i64 y16,.int .i64 y17])).run Tryz.prog w = .ok ((((((x0==y0 && (x1==y1 && (x2==y2 && (x3==y3 && (x4==y4 && (x5==y5 && (x6==y6 && (x7==y7 && true))))))))) && (((x8==y8 && x9==y9)) && (((x10==y10 && x11==y11)) && (x12==y12 && (x13==y13 && (x14==y14 && x15==y15))))))) && (x16==y16 && x17==y17))) w:=by
 refine oM Tryz.underlying79 (by kernel_rfl) ?_;refine cE (by rfl) (by go_simp) (by go_simp) (eq_req (d+0) w _ _ _ _ _ _ _ _ _ _ _ _ _ _ _ _ _ _ _ _ _ _ _ _ _ _ _ _ _ _ _ _ ) ?_;refine cE (by rfl) (by go_simp;rfl) (by go_simp;rfl) (by go_simp) ?_;exact i9 (by rfl) (by go_simp;rfl) (by go_simp;rfl) (by go_simp)
theorem ud (x0 y0 x1 y1 x2 y2 x3 y3 x4 y4 x5 y5 x6 y6 x7 y7 x8 y8 x9 y9 x10 y10 x11 y11 x12 y12 x13 y13 x14 y14 x15 y15 x16 y16 x17 y17:Int) (w:World):(Op.equalIn 10000 79 (.agg #[.int .u8 x0,.int .u8 x1,.int .u8 x2,.int .u8 x3,.int .u8 x4,.int .u8 x5,.int .u8 x6,.int .u8 x7,.int .i16 x8,.int .i16 x9,.int .i16 x10,.int .i16 x11,.int .u8 x12,.int .u8 x13,.int .i64 x14,.int .i64 x15,.int .i64 x16,.int .i64 x17]) (.agg #[.int .u8 y0,.int .u8 y1,.int .u8 y2,.int .u8 y3,.int .u8 y4,.int .u8 y5,.int .u8 y6,.int .u8 y7,.int .i16 y8,.int .i16 y9,.int .i16 y10,.int .i16 y11,.int .u8 y12,.int .u8 y13,.int .i64 y14,.int .i64 y15,.int .i64 y16,.int .i64 y17])).run Tryz.prog w = .ok (kO x0 y0 x1 y1 x2 y2 x3 y3 x4 y4 x5 y5 x6 y6 x7 y7 x8 y8 x9 y9 x10 y10 x11 y11 x12 y12 x13 y13 x14 y14 x15 y15 x16 y16 x17 y17) w:=vM 9996 w x0 y0 x1 y1 x2 y2 x3 y3 x4 y4 x5 y5 x6 y6 x7 y7 x8 y8 x9 y9 x10 y10 x11 y11 x12 y12 x13 y13 x14 y14 x15 y15 x16 y16 x17 y17
theorem oO (x0 y0 x1 y1 x2 y2 x3 y3 x4 y4 x5 y5 x6 y6 x7 y7 x8 y8 x9 y9 x10 y10 x11 y11 x12 y12 x13 y13 x14 y14 x15 y15 x16 y16 x17 y17:Int):kO x0 y0 x1 y1 x2 y2 x3 y3 x4 y4 x5 y5 x6 y6 x7 y7 x8 y8 x9 y9 x10 y10 x11 y11 x12 y12 x13 y13 x14 y14 x15 y15 x16 y16 x17 y17=true↔x0=y0∧x1=y1∧x2=y2∧x3=y3∧x4=y4∧x5=y5∧x6=y6∧x7=y7∧x8=y8∧x9=y9∧x10=y10∧x11=y11∧x12=y12∧x13=y13∧x14=y14∧x15=y15∧x16=y16∧x17=y17:=by simp [kO,and_assoc]
def eu (x0 y0 x1 y1 x2 y2:Int):Bool:=(x0==y0 && (x1==y1 && x2==y2))
theorem vN (d:Nat) (w:World) (x0 y0 x1 y1 x2 y2:Int):(Op.equalIn (d+2) 114 (.agg #[.int .i64 x0,.int .i64 x1,.int .i64 x2]) (.agg #[.int .i64 y0,.int .i64 y1,.int .i64 y2])).run Tryz.prog w = .ok ((x0==y0 && (x1==y1 && x2==y2))) w:=by
 refine oM Tryz.underlying114 (by kernel_rfl) ?_;refine cE (by rfl) (by go_simp;rfl) (by go_simp;rfl) (by go_simp) ?_;refine cE (by rfl) (by go_simp;rfl) (by go_simp;rfl) (by go_simp) ?_;exact i9 (by rfl) (by go_simp;rfl) (by go_simp;rfl) (by go_simp)
theorem ue (x0 y0 x1 y1 x2 y2:Int) (w:World):(Op.equalIn 10000 114 (.agg #[.int .i64 x0,.int .i64 x1,.int .i64 x2]) (.agg #[.int .i64 y0,.int .i64 y1,.int .i64 y2])).run Tryz.prog w = .ok (eu x0 y0 x1 y1 x2 y2) w:=vN 9998 w x0 y0 x1 y1 x2 y2
theorem oP (x0 y0 x1 y1 x2 y2:Int):eu x0 y0 x1 y1 x2 y2=true↔x0=y0∧x1=y1∧x2=y2:=by simp [eu]
theorem nr (x0 x1 x2:Int):eu x0 x0 x1 x1 x2 x2=true:=by simp [eu]
end Go.Proofs.YtcaicgipibcicaaGreat
namespace Go.Proofs.YtcaicgipibcicaaGreat
section
variable {P:Program} {ops:Array Oper} {md:Region.Mode} {S:World→Prop} {Q:Exit→Act→World→Prop}
def iJ (P:Program) (md:Region.Mode) (ops:Array Oper) (Q:Exit→Act→World→Prop) (S:World→Prop) (n:Nat) (L:Array Bool→Act→World→Prop):Nat→Array Bool→Act→World→Prop
 | 0,listed,a,w=>L listed a w
 | f+1,listed,a,w=>Region.ready md ops listed≠[]∧∀ i ∈ Region.ready md ops listed,i<n∧wpOp P ops Q i (fun a' w'=>S w'∧iJ P md ops Q S n L f (listed.setIfInBounds i true) a' w') a w
theorem eN {n g:Nat} {L:Array Bool→Act→World→Prop} (hL:∀ listed a w,L listed a w→wpAny P md ops Q g listed a w) :
 ∀ (f:Nat) (listed:Array Bool) (a:Act) (w:World),iJ P md ops Q S n L f listed a w→wpAny P md ops Q (f+g) listed a w
 | 0,listed,a,w,h=>by rw [Nat.zero_add];exact hL _ _ _ h
 | f+1,listed,a,w,h=>by
   rw [show f+1+g=(f+g)+1 by omega];exact ⟨fun h0=>absurd h0 h.1,fun i hi=>wpOp_mono (fun a' w' h'=>eN hL f _ a' w' h'.2) (h.2 i hi).2⟩
theorem ja {n i:Nat} {oi:Oper} {v:Value} {L:Array Bool→Act→World→Prop} (hi:ops[i]?=some oi) (hsel:∀ (j:Nat) (o:Oper) cs b,ops[j]?=some o→o.op≠.select cs b)
 (hs:Region.sinkB md ops n=true) (hc:Region.chainB md ops n=true) (hn:n<ops.size) (hin:i<n)
 (hQ:∀ c a w,Q (.panic c) (a.put oi.dst v) w→Q (.panic c) a w)
 (hdone:∀ listed a w,L listed a w→∀ j ∈ Region.ready md ops listed,n≤j) :
 ∀ (f:Nat) (listed:Array Bool) (a:Act) (w:World),HeadInv md ops n listed→
  (∀ j oj,ops[j]?=some oj→j≠i→listed.getD j true=false→(∀ e ∈ oj.after,Region.binds md e=true→e.on≠i)→oi.apart ops oj=true)→
  i ∈ Region.ready md ops listed→YieldsIf P ops S oi v a→S w→
  iJ P md ops Q S n L f (listed.setIfInBounds i true) (a.put oi.dst v) w→iJ P md ops Q S n L (f+1) listed a w:=by
 intro f
 induction f with
 | zero=>
   intro listed a w inv _ hr hy hS H;have hun:=(mem_ready.1 hr).1
   have below:∀ j ∈ Region.ready md ops listed,j<n:=fun j hj=>
    Nat.lt_of_not_le fun h=>tail_waits hs hc hn inv _ i rfl hin hun j h hj
   refine ⟨fun h=>(by rw [h] at hr;cases hr),fun j hj=>⟨below j hj,?_⟩⟩;by_cases hji:j=i
   · subst hji;exact hy.wpOp hi hS ⟨hS,H⟩
   · have h1:=hdone _ _ _ H j (ready_mono hj hji)
     have h2:=below j hj;omega
 | succ f ih=>
   intro listed a w inv hfree hr hy hS H;have hun:=(mem_ready.1 hr).1
   have below:∀ j ∈ Region.ready md ops listed,j<n:=fun j hj=>
    Nat.lt_of_not_le fun h=>tail_waits hs hc hn inv _ i rfl hin hun j h hj
   refine ⟨fun h=>(by rw [h] at hr;cases hr),fun j hj=>⟨below j hj,?_⟩⟩;by_cases hji:j=i
   · subst hji;exact hy.wpOp hi hS ⟨hS,H⟩
   · have hstep:=(H.2 j (ready_mono hj hji)).2
     obtain ⟨hjun,oj,hoj,hall⟩:=mem_ready.1 hj
     have hnot:∀ e ∈ oj.after,Region.binds md e=true→e.on≠i:=by
      intro e he hb heq;have hl:=hall e he hb;rw [heq,getD_both hun] at hl;cases hl
     have hboth:=wpOp_putIf hoj (hfree j oj hoj hji hjun hnot) (fun cs b=>hsel i oi cs b hi) (fun cs b=>hsel j oj cs b hoj) hQ hy hstep;refine wpOp_mono (fun a' w' h3=>⟨h3.2.1,ih (listed.setIfInBounds j true) a' w' (inv.set hj (below j hj)) ?_ (ready_mono hr (Ne.symm hji)) h3.1 h3.2.1 ?_⟩) hboth
     · intro k ok hk hki hku hno
       have hkk:listed.getD k true=false:=by
        by_cases hjk:j=k
        · rw [←hjk];exact hjun
        · rwa [getD_set_ne true hjk] at hku
       exact hfree k ok hk hki hkk hno
     · have h4:=h3.2.2
       rwa [Array.setIfInBounds_comm _ _ (Ne.symm hji)] at h4
def dW (P:Program) (ops:Array Oper) (S:World→Prop) (K:Act→Prop):List Oper→Act→Prop
 | [],a=>K a
 | o::rest,a=>∃ v,YieldsIf P ops S o v a∧dW P ops S K rest (a.put o.dst v)
theorem d7 {K:Act→Prop} {a:Act} (h:K a):dW P ops S K [] a:=h
theorem dv {K:Act→Prop} {a:Act} {o:Oper} {rest:List Oper} {v:Value} (hy:YieldsIf P ops S o v a) (h:dW P ops S K rest (a.put o.dst v)):dW P ops S K (o::rest) a:=⟨v,hy,h⟩
theorem cF {i:Nat} {o:Oper} {a:Act} {w:World} {K:Act→World→Prop} (h0:ops[i]?=some o)
 (h:∀ K':Act→World→Prop,(∀ a w,K a w→K' a w)→if Region.wanted o (yielded ops a.tmps)=true then o.wp P a w K' Q else K' (a.put o.dst undef) w):wpOp P ops Q i K a w:=by
 have h1:=h K (fun _ _ h=>h);unfold wpOp;simp only [h0];split
 · rename_i hw
   rw [if_pos hw] at h1;exact .inl h1
 · rename_i hw
   rw [if_neg hw] at h1;exact h1
theorem mK (hQ:∀ c (a:Act) (t:Nat) (v:Value) w,Q (.panic c) (a.put (some t) v) w→Q (.panic c) a w) (c:List PanicEntry) (a:Act) (d:Option Nat) (v:Value) (w:World) (h:Q (.panic c) (a.put d v) w):Q (.panic c) a w:=by
 cases d with
 | none=>exact h
 | some t=>exact hQ c a t v w h
theorem lD {n g:Nat} {Lq:Act→World→Prop} (hsel:Region.noSelect ops=true) (hs:Region.sinkB md ops (n+1)=true) (hc:Region.chainB md ops (n+1)=true) (hn:n+1<ops.size)
 (hQ:∀ c (a:Act) (t:Nat) (v:Value) w,Q (.panic c) (a.put (some t) v) w→Q (.panic c) a w) :
 ∀ (l:List Oper) (k:Nat) (listed:Array Bool) (a:Act) (w:World),(∀ j,j<l.length→l[j]?=ops[k+j]?)→k+l.length=n→HeadInv md ops (n+1) listed→
 Region.lexHead md ops (g+1) l.length k listed=true→S w→dW P ops S (fun a'=>wpOp P ops Q n (fun a'' w''=>S w''∧Lq a'' w'') a' w) l a→
 iJ P md ops Q S (n+1) (fun listed' a' w'=>Region.seqB md ops g (n+1) listed'=true∧Lq a' w') (l.length+1) listed a w
 | [],k,listed,a,w,_,hk,_,hB,_,h=>by
   have hkn:k=n:=by simpa using hk
   subst hkn;simp only [List.length_nil,Region.lexHead,Region.seqB,xn,decide_eq_true_eq] at hB;refine ⟨by rw [hB.1];exact List.cons_ne_nil _ _,fun i hi=>?_⟩;rw [hB.1] at hi;have hik:i=k:=by simpa using hi
   subst hik;have hw:wpOp P ops Q i (fun a'' w''=>S w''∧Lq a'' w'') a w:=h;exact ⟨by omega,wpOp_mono (fun a' w' h'=>⟨h'.1,hB.2,h'.2⟩) hw⟩
 | o::l,k,listed,a,w,hl,hk,inv,hB,hS,h=>by
   have h0:ops[k]?=some o:=by simpa using (hl 0 (by simp)).symm
   simp only [wY,Region.lexHead,xn] at hB;have hkn:k<n+1:=by simp only [wY] at hk;omega
   have hr:k ∈ Region.ready md ops listed:=by simpa using hB.1.1
   obtain ⟨v,hy,hK⟩:=h;refine ja h0 (Region.noSelect_spec hsel) hs hc hn hkn (fun c a' w' hp=>mK hQ c a' _ _ w' hp) (fun listed' a' w' hL=>seqB_ready hL.1) (l.length+1) listed a w inv (Region.free_spec h0 hB.1.2) hr hy hS ?_;refine lD hsel hs hc hn hQ l (k+1) _ _ w (fun j hj=>?_) (by simp only [wY] at hk;omega) (inv.set hr hkn) hB.2 hS hK;have h5:=hl (j+1) (by simp only [wY];omega);rw [show k+1+j=k+(j+1) by omega,←h5];rfl
def ug (ops:Array Oper) (n:Nat):Bool:=
 Region.noSelect ops && decide (n+1<ops.size) && Region.sinkB .any ops (n+1) && Region.chainB .any ops (n+1) && Region.lexHead .any ops (ops.size - (n+1)+1) n 0 (Array.replicate ops.size false)
theorem kK {id:Nat} {a:Act} {w:World} {l:List Oper} (n:Nat) (S:World→Prop) (hm:P.follows .mixedOrders=true) (hB:ug l.toArray n=true)
 (hQ:∀ c (a:Act) (t:Nat) (v:Value) w,Q (.panic c) (a.put (some t) v) w→Q (.panic c) a w) (hS:S w.drew)
 (h:dW P l.toArray S (fun a'=>wpOp P l.toArray Q n (fun a'' w''=>S w''∧wpList P l.toArray Q (l.drop (n+1)) a'' w'') a' w.drew) (l.take n) a):(Code.region id l.toArray true).wp P Q a w:=by
 simp only [ug,xn,decide_eq_true_eq] at hB;obtain ⟨⟨⟨⟨hsel,hn⟩,hs⟩,hc⟩,hlex⟩:=hB;have hn':n+1<l.length:=by simpa using hn
 have htl:(l.take n).length=n:=by simp;omega
 have hdl:(l.drop (n+1)).length=l.toArray.size - (n+1):=by simp
 have inv0:HeadInv .any l.toArray (n+1) (Array.replicate l.toArray.size false):=
  ⟨by simp,fun j oj _ hl=>(by rw [getD_replicate_false] at hl;cases hl),fun t _ ht=>getD_in (by simpa using ht) (getD_replicate_false _ _)⟩
 have H:=lD (md:=.any) (g:=l.toArray.size - (n+1)) hsel hs hc hn hQ (l.take n) 0 _ a w.drew (fun j hj=>by
  rw [htl] at hj;simp [hj]) (by simpa using htl) inv0 (by rw [htl];exact hlex) hS h
 refine wp_region_any hm ?_
 have hA:=eN (g:=l.toArray.size - (n+1)) (fun listed a' w' hL=>by
  have hT:=wpAny_of_seq (md:=.any) (l.drop (n+1)) (n+1) listed a' w' (fun j=>by simp [List.getElem?_drop]) (by rw [hdl];exact hL.1) hL.2;rwa [hdl] at hT) _ _ _ _ H
 rw [htl,show n+1+(l.toArray.size - (n+1))=l.toArray.size by omega] at hA;exact hA
end
end Go.Proofs.YtcaicgipibcicaaGreat
