/- Chapters 16 to 18 as plain functions: what a pair is worth in a graph, matchings, prices. No program in sight. -/
import Derived.Test.YtcaicgipibcicaaGreatQAllF
import Derived.Test.YtcaicgipibcicaaGreatQCells
import Derived.Test.YtcaicgipibcicaaGreatQGCheck
import Derived.BigQuiet
import Derived.Deep.QuietTactic
import Derived.Deep.WholeRow
import Derived.Test.YtcaicgipibcicaaGreatQRFit3
import Derived.Deep.RegionLaw
import Derived.Laws.MakeOwn
import Derived.WalkMore
import Derived.Test.YtcaicgipibcicaaGreatQMem
import Derived.Test.YtcaicgipibcicaaGreatProg
import Derived.ChangeKeysEq
import Derived.Laws.Cover3
import Derived.Lib.Hide
import Derived.Laws.Externs
import Derived.Test.YtcaicgipibcicaaGreatQRFit1
import Derived.Deep.RegionHeld3
import Derived.StillTailTactics
set_option maxRecDepth 100000
set_option maxHeartbeats 8000000
set_option linter.unusedSimpArgs false
set_option linter.unusedVariables false
open Bool renaming and_eq_true→zD
open Go renaming cell_of_row→yI,heap_alloc_new→yE,lt_of_block→yK
open Go.Lib renaming hid→yA
open Go.Result renaming andThen_ok→zT
open Go.RowKit.Below renaming refl→yH
open Go.Sem renaming run_bind→zS
open Go.World renaming block_lt_of_cell?→yL,cell?_alloc_mark→zN
open Int renaming eq_ofNat_of_zero_le→zV
open List renaming all_eq_true→zO,append_assoc→zq,append_nil→zY,getElem?_eq_getElem→yC,getElem?_eq_some_iff→yD,length_append→yN,length_cons→zg,length_map→zy,length_take→yY,mem_cons→zt,mem_of_getElem?→yP,not_mem_nil→zi,take_of_length_le→zh,take_succ_eq_append_getElem→zk
open Nat renaming le_refl→yB,le_trans→yV,lt_succ_iff_lt_or_eq→yW,not_lt_zero→zz,zero_add→yO,zero_le→yQ
open Option.some renaming injEq→zL
open Prod.mk renaming inj→zZ
namespace Go.Proofs.YtcaicgipibcicaaGreat
open Go.RowKit
def isE (r c:Int) (e:ab):Bool:=decide (e.r=r∧e.c=c)
def aJ (es:List ab) (r c:Int):Int:=match es.find? (isE r c) with
 | none=>0
 | some e=>e.w
theorem lF {es:List ab} {r c:Int} {k:Nat} {x:ab} (hx:es[k]?=some x) (h:x.r=r∧x.c=c) (hno:∀ (j:Nat) (y:ab),j<k→es[j]?=some y→¬ (y.r=r∧y.c=c)):aJ es r c=x.w:=by
 have:es.find? (isE r c)=some x:=by
  rw [List.find?_eq_some_iff_getElem];have hk:=(yD.1 hx).1;refine ⟨decide_eq_true h,k,hk,(yD.1 hx).2,fun j hj=>?_⟩;have:=hno j (es[j]'(by omega)) hj (yC _);simp only [isE,decide_eq_false this,Bool.not_false]
 simp only [aJ,this]
theorem gR {es:List ab} {r c:Int} (hno:∀ (j:Nat) (y:ab),es[j]?=some y→¬ (y.r=r∧y.c=c)):aJ es r c=0:=by
 have:es.find? (isE r c)=none:=by
  rw [List.find?_eq_none];intro y hy;obtain ⟨j,hj,rfl⟩:=List.getElem_of_mem hy;have:=hno j _ (yC hj);simp only [isE,decide_eq_false this,Bool.false_eq_true,not_false_eq_true]
 simp only [aJ,this]
def jJ (es:List ab) (r c:Int):Bool:=es.any (isE r c)
/-! graphs that may be -/
theorem fJ {rows cols:Int} {es:List ab} (h:aQ rows cols es=true):0≤rows∧rows≤64∧0≤cols∧cols≤64:=by
 unfold aQ at h;rw [zD] at h;exact of_decide_eq_true h.1
theorem gC {rows cols:Int} {es:List ab} (h:aQ rows cols es=true) {i:Nat} {x:ab} (hx:es[i]?=some x):0≤x.r∧x.r<rows∧0≤x.c∧x.c<cols∧1≤x.w∧x.w≤1099513724929:=by
 unfold aQ at h;rw [zD] at h;have hi:=(yD.1 hx).1;have:=(zO.1 h.2) i (List.mem_range.2 hi);unfold cv at this;simp only [hx,zD] at this;exact of_decide_eq_true this.1
theorem lG {rows cols:Int} {es:List ab} (h:aQ rows cols es=true) {i:Nat} {x y:ab} (hx:es[i]?=some x) (hy:es[i+1]?=some y):x.r<y.r∨(x.r=y.r∧x.c<y.c):=by
 have hin:=gC h hy;unfold aQ at h;rw [zD] at h;have hi:=(yD.1 hy).1;have:=(zO.1 h.2) (i+1) (List.mem_range.2 hi);rw [lB hx hy hin] at this;exact of_decide_eq_true this
theorem qb {rows cols:Int} {es:List ab} (h:aQ rows cols es=true):∀ (d i:Nat) (x y:ab),es[i]?=some x→es[i+d+1]?=some y→x.r<y.r∨(x.r=y.r∧x.c<y.c):=by
 intro d
 induction d with
 | zero=>intro i x y hx hy;exact lG h hx hy
 | succ d ih=>
   intro i x y hx hy;have hl:=(yD.1 hy).1;have hm:es[i+d+1]?=some (es[i+d+1]'(by omega)):=yC _;have h1:=ih i x _ hx hm;have h2:=lG h hm hy;omega
theorem kX {rows cols:Int} {es:List ab} (h:aQ rows cols es=true) {i j:Nat} (hij:i<j) {x y:ab} (hx:es[i]?=some x) (hy:es[j]?=some y):x.r<y.r∨(x.r=y.r∧x.c<y.c):=
 qb h (j - i - 1) i x y hx (by rw [show i+(j - i - 1)+1=j by omega];exact hy)
def iq (x:ab) (r c:Int):Bool:=decide (x.r<r∨(x.r=r∧x.c<c))
structure Halves (es:List ab) (r c:Int) (low high:Nat):Prop where
 le:low≤high
 len:high≤es.length
 ahead:∀ (j:Nat) (x:ab),j<low→es[j]?=some x→iq x r c=true
 behind:∀ (j:Nat) (x:ab),high≤j→es[j]?=some x→iq x r c=false
theorem Halves.begin (es:List ab) (r c:Int):Halves es r c 0 es.length:=
 ⟨yQ _,yB _,fun j x h=>absurd h (zz j),fun j x h hx=>by have:=(yD.1 hx).1;omega⟩
theorem Halves.up {rows cols:Int} {es:List ab} {r c:Int} {low high m:Nat} (hg:aQ rows cols es=true) (h:Halves es r c low high) {x:ab} (hm:low≤m) (hm2:m<high) (hx:es[m]?=some x) (ha:iq x r c=true):Halves es r c (m+1) high:=by
 refine ⟨hm2,h.len,fun j y hj hy=>?_,h.behind⟩;rcases yW.1 hj with hj | rfl
 · have h1:=kX hg hj hy hx
   have h2:=of_decide_eq_true ha;exact decide_eq_true (by omega)
 · rw [hx] at hy;cases hy;exact ha
theorem Halves.down {rows cols:Int} {es:List ab} {r c:Int} {low high m:Nat} (hg:aQ rows cols es=true) (h:Halves es r c low high) {x:ab} (hm:low≤m) (hm2:m<high) (hx:es[m]?=some x) (ha:iq x r c=false):Halves es r c low m:=by
 refine ⟨hm,by have:=h.len;omega,h.ahead,fun j y hj hy=>?_⟩;rcases Nat.lt_or_eq_of_le hj with hj | rfl
 · have h1:=kX hg hj hx hy
   have h2:=of_decide_eq_false ha;exact decide_eq_false (by omega)
 · rw [hx] at hy;cases hy;exact ha
theorem Halves.hit {es:List ab} {r c:Int} {low:Nat} (h:Halves es r c low low) {x:ab} (hx:es[low]?=some x) (he:x.r=r∧x.c=c):aJ es r c=x.w:=
 lF hx he (fun j y hj hy hh=>by have:=of_decide_eq_true (h.ahead j y hj hy);omega)
theorem Halves.miss {rows cols:Int} {es:List ab} {r c:Int} {low:Nat} (hg:aQ rows cols es=true) (h:Halves es r c low low) {x:ab} (hx:es[low]?=some x) (he:¬ (x.r=r∧x.c=c)):aJ es r c=0:=by
 refine gR fun j y hy hh=>?_
 rcases Nat.lt_trichotomy j low with hj | rfl | hj
 · have:=of_decide_eq_true (h.ahead j y hj hy);omega
 · rw [hx] at hy;cases hy;exact he hh
 · have h1:=kX hg hj hx hy
   have h2:=of_decide_eq_false (h.behind low x (yB _) hx);omega
theorem Halves.past {es:List ab} {r c:Int} {low:Nat} (h:Halves es r c low low) (hl:es.length≤low):aJ es r c=0:=
 gR fun j y hy hh=>by
  have:=(yD.1 hy).1;have:=of_decide_eq_true (h.ahead j y (by omega) hy);omega
theorem cV {rows cols:Int} {es:List ab} (hg:aQ rows cols es=true) (r c:Int):(aJ es r c=0∧∀ (j:Nat) (y:ab),es[j]?=some y→¬ (y.r=r∧y.c=c))∨(1≤aJ es r c∧aJ es r c≤1099513724929∧0≤r∧r<rows∧0≤c∧c<cols∧∃ (j:Nat) (y:ab),es[j]?=some y∧y.r=r∧y.c=c∧aJ es r c=y.w):=by
 cases hf:es.find? (isE r c) with
 | none=>
   left
   refine ⟨by simp only [aJ,hf],fun j y hy=>?_⟩;have:=List.find?_eq_none.1 hf y (yP hy);exact fun h=>this (decide_eq_true h)
 | some e=>
   right
   have hm:=List.mem_of_find?_eq_some hf;have hp1:isE r c e=true:=List.find?_some hf;have hp:=of_decide_eq_true hp1;obtain ⟨j,hj,rfl⟩:=List.getElem_of_mem hm;have:=gC hg (yC hj);have hw:aJ es r c=es[j].w:=by simp only [aJ,hf]
   rw [hw];exact ⟨by omega,by omega,by omega,by omega,by omega,by omega,j,_,yC hj,hp.1,hp.2,rfl⟩
theorem og {rows cols:Int} {es:List ab} (hg:aQ rows cols es=true) (r c:Int):jJ es r c=decide (aJ es r c≠0):=by
 rcases cV hg r c with ⟨h0,hno⟩ | ⟨h1,_,_,_,_,_,j,y,hy,hr,hc,_⟩
 · rw [h0]
   have:jJ es r c=false:=by
    unfold jJ;rw [List.any_eq_false];intro x hx;obtain ⟨j,hj,rfl⟩:=List.getElem_of_mem hx;have:=hno j _ (yC hj);simp only [isE,decide_eq_false this,Bool.false_eq_true,not_false_eq_true]
   simp [this]
 · have:jJ es r c=true:=by
    unfold jJ;rw [List.any_eq_true];exact ⟨y,yP hy,decide_eq_true ⟨hr,hc⟩⟩
   rw [this];exact (decide_eq_true (by omega)).symm
/-! matchings -/
def dX (ps:List ag) (i:Nat):Int:=match i with
 | 0=>-1
 | j+1=>(ps.getD j ⟨-1,0⟩).r
theorem fM {ps:List ag} {i:Nat} {x:ag} (hx:ps[i]?=some x):dX ps (i+1)=x.r:=by simp [dX,hx]
def cO (ps:List ag) (i:Nat) (c:Int):Bool:=c6 i (fun k=>match ps[k]? with | none=>true | some y=>decide (y.c≠c))
def cW (es:List ab) (ps:List ag) (i:Nat):Bool:=match ps[i]? with
 | none=>true
 | some x=>decide (dX ps i<x.r) && decide (aJ es x.r x.c≠0) && cO ps i x.c
def cw (es:List ab) (ps:List ag):Bool:=c6 ps.length (cW es ps)
theorem gD {es:List ab} {ps:List ag} {i:Nat} {x:ag} (hx:ps[i]?=some x):cW es ps i=(decide (dX ps i<x.r) && decide (aJ es x.r x.c≠0) && cO ps i x.c):=by simp only [cW,hx]
theorem rO {ps:List ag} {i:Nat} {x:ag} (hx:ps[i]?=some x) (c:Int):cO ps (i+1) c=(cO ps i c && decide (x.c≠c)):=by
 unfold cO c6;rw [List.range_succ,List.all_append];simp [hx]
theorem rP (ps:List ag) (c:Int):cO ps 0 c=true:=rfl
theorem gS {es:List ab} {ps:List ag} {i:Nat} {x:ag} (hx:ps[i]?=some x) (h:cW es ps i=false):cw es ps=false:=bE (yD.1 hx).1 h
theorem kY {es:List ab} {ps:List ag} (h:cw es ps=true) {i:Nat} {x:ag} (hx:ps[i]?=some x):dX ps i<x.r∧aJ es x.r x.c≠0∧cO ps i x.c=true:=by
 have:=dR h (yD.1 hx).1;rw [gD hx,zD,zD] at this;exact ⟨of_decide_eq_true this.1.1,of_decide_eq_true this.1.2,this.2⟩
theorem jK {rows cols:Int} {es:List ab} {ps:List ag} (hg:aQ rows cols es=true) (h:cw es ps=true):∀ (i:Nat) (x:ag),ps[i]?=some x→(i:Int)≤x.r∧x.r<rows:=by
 intro i
 induction i with
 | zero=>
   intro x hx;obtain ⟨h1,h2,_⟩:=kY h hx;rcases cV hg x.r x.c with ⟨h0,_⟩ | ⟨_,_,h3,h4,_⟩
   · exact absurd h0 h2
   · omega
 | succ i ih=>
   intro x hx;have hl:=(yD.1 hx).1;have hy:ps[i]?=some (ps[i]'(by omega)):=yC _;have:=ih _ hy;obtain ⟨h1,h2,_⟩:=kY h hx;rw [fM hy] at h1;rcases cV hg x.r x.c with ⟨h0,_⟩ | ⟨_,_,h3,h4,_⟩
   · exact absurd h0 h2
   · omega
theorem oh {rows cols:Int} {es:List ab} {ps:List ag} (hg:aQ rows cols es=true) (h:cw es ps=true):ps.length≤64:=by
 have hr:=fJ hg;cases hps:ps.length with
 | zero=>omega
 | succ n=>
   have hx:ps[n]?=some (ps[n]'(by omega)):=yC _;have:=jK hg h n _ hx;omega
def cX (rows cols:Int) (es:List ab) (ps:List ag):Int:=if aQ rows cols es then (if cw es ps then 0 else 180) else 170
/-! prices -/
def bb (l:List Int):Bool:=l.all (fun n=>decide (0≤n))
def cy (es:List ab) (ys zs:List Int) (i:Nat):Bool:=match es[i]? with
 | none=>true
 | some x=>decide (x.w - ys.getD x.r.toNat 0≤zs.getD x.c.toNat 0)
def dv (es:List ab) (ys zs:List Int):Bool:=bb ys && bb zs && c6 es.length (cy es ys zs)
def sumF:Int→List Int→Option Int
 | n,[]=>some n
 | n,p::l=>if 4611686018427387903 - n<p then none else sumF (n+p) l
def cY (ys zs:List Int):Option Int:=sumF 0 (ys++zs)
theorem lH (l m:List Int):∀ n,sumF n (l++m)=(sumF n l).bind fun k=>sumF k m:=by
 induction l with
 | nil=>intro n;simp [sumF]
 | cons p l ih=>intro n;simp only [List.cons_append,sumF];split <;> simp [ih]
def bG (es:List ab) (ps:List ag):Int:=(ps.map fun p=>aJ es p.r p.c).sum
def bH (rows cols:Int) (ys zs:List Int):Bool:=decide ((ys.length:Int)=rows) && decide ((zs.length:Int)=cols)
def oZ (rows cols:Int) (es:List ab) (ys zs:List Int):Int:=
 if bH rows cols ys zs then (if dv es ys zs then 0 else 181) else 1
def gapB (es:List ab) (ps:List ag) (ys zs:List Int):Bool:=decide (cY ys zs=some (bG es ps))
def fN (rows cols:Int) (es:List ab) (ps:List ag) (ys zs:List Int):Int:=
 if cX rows cols es ps≠0 then cX rows cols es ps else if oZ rows cols es ys zs≠0 then oZ rows cols es ys zs else if gapB es ps ys zs then 0 else 182
theorem ud (l:List Int) (p n:Int):sumF n (l++[p])=(sumF n l).bind fun k=>if 4611686018427387903 - k<p then none else some (k+p):=by
 rw [lH];rfl
theorem kZ {l m:List Int} {n:Int} (h:sumF n l=none):sumF n (l++m)=none:=by rw [lH,h];rfl
theorem xI (l:List Int):∀ n,0≤n→n≤4611686018427387903→bb l=true→∀ k,sumF n l=some k→n≤k∧k≤4611686018427387903:=by
 induction l with
 | nil=>intro n h0 h1 _ k hk;simp only [sumF,zL] at hk;omega
 | cons p l ih=>
   intro n h0 h1 hn k hk;simp only [bb,List.all_cons,zD] at hn ih;have hp:=of_decide_eq_true hn.1;simp only [sumF] at hk;split at hk
   · cases hk
   · have:=ih (n+p) (by omega) (by omega) hn.2 k hk
     omega
theorem lI (es:List ab) (ps:List ag) (x:ag):bG es (ps++[x])=bG es ps+aJ es x.r x.c:=by simp [bG]
theorem jL {rows cols:Int} {es:List ab} (hg:aQ rows cols es=true) (r c:Int):0≤aJ es r c∧aJ es r c≤1099513724929:=by
 rcases cV hg r c with ⟨h0,_⟩ | ⟨h1,h2,_⟩ <;> omega
theorem ol {rows cols:Int} {es:List ab} (hg:aQ rows cols es=true) (ps:List ag):0≤bG es ps∧bG es ps≤1099513724929*ps.length:=by
 induction ps with
 | nil=>simp [bG]
 | cons p ps ih=>
   have:=jL hg p.r p.c;simp only [bG,List.map_cons,List.sum_cons,zg] at ih ⊢;omega
def mS (ws:List ad) (ds:List ak) (i k:Nat):Bool:=match ws[i]?,ds[k]? with
 | some w,some d=>jr w.r d.d
 | _,_=>false
theorem qc {ws:List ad} {ds:List ak} {i k:Nat} {w:ad} {d:ak} (hw:ws[i]?=some w) (hd:ds[k]?=some d):mS ws ds i k=jr w.r d.d:=by simp [mS,hw,hd]
def cJ (ws:List ad) (ds:List ak) (i k:Nat):List ag:=((List.range k).filter (fun c=>mS ws ds i c)).map fun (c:Nat)=>(⟨(i:Int),(c:Int)⟩:ag)
def pairsRow (ws:List ad) (ds:List ak) (n:Nat):List ag:=(List.range n).flatMap fun i=>cJ ws ds i ds.length
def bN (ws:List ad) (ds:List ak):List ag:=pairsRow ws ds ws.length
theorem js (ws:List ad) (ds:List ak) (i:Nat):cJ ws ds i 0=[]:=rfl
theorem o8 {ws:List ad} {ds:List ak} {i k:Nat} (h:mS ws ds i k=true):cJ ws ds i (k+1)=cJ ws ds i k++[⟨(i:Int),(k:Int)⟩]:=by
 simp [cJ,List.range_succ,h]
theorem qd {ws:List ad} {ds:List ak} {i k:Nat} (h:mS ws ds i k=false):cJ ws ds i (k+1)=cJ ws ds i k:=by
 simp [cJ,List.range_succ,h]
theorem jt (ws:List ad) (ds:List ak) (i:Nat):pairsRow ws ds (i+1)=pairsRow ws ds i++cJ ws ds i ds.length:=by
 simp [pairsRow,List.range_succ]
theorem kq (ws:List ad) (ds:List ak) (i k:Nat):(cJ ws ds i k).length≤k:=by
 unfold cJ;rw [zy];exact yV (List.length_filter_le _ _) (by simp)
theorem ks (ws:List ad) (ds:List ak) (n:Nat):(pairsRow ws ds n).length≤n*ds.length:=by
 induction n with
 | zero=>simp [pairsRow]
 | succ n ih=>rw [jt,yN,Nat.add_mul];have:=kq ws ds n ds.length;omega
def aV (ws:List ad) (ds:List ak) (i k:Nat):List ag:=pairsRow ws ds i++cJ ws ds i k
theorem lJ (ws:List ad) (ds:List ak) (i k:Nat):(aV ws ds i k).length≤i*ds.length+k:=by
 rw [aV,yN];have:=ks ws ds i;have:=kq ws ds i k;omega
theorem lK {ws:List ad} {ds:List ak} {i k:Nat} (h:mS ws ds i k=true):aV ws ds i (k+1)=aV ws ds i k++[⟨(i:Int),(k:Int)⟩]:=by
 rw [aV,aV,o8 h,zq]
theorem mT {ws:List ad} {ds:List ak} {i k:Nat} (h:mS ws ds i k=false):aV ws ds i (k+1)=aV ws ds i k:=by
 rw [aV,aV,qd h]
theorem kt (ws:List ad) (ds:List ak) (i:Nat):aV ws ds (i+1) 0=aV ws ds i ds.length:=by
 rw [aV,aV,js,zY,jt]
theorem lL (ws:List ad) (ds:List ak):aV ws ds ws.length 0=bN ws ds:=by
 rw [aV,js,zY];rfl
structure aF where
 tick:Int
 ws:List ad
 ds:List ak
 rows:Int
 cols:Int
 es:List ab
 ps:List ag
 ys:List Int
 zs:List Int
instance:DecidableEq ab:=fun a b=>
 decidable_of_iff (a.r=b.r∧a.c=b.c∧a.w=b.w) ⟨fun ⟨h1,h2,h3⟩=>by cases a;cases b;simp_all,fun h=>by subst h;exact ⟨rfl,rfl,rfl⟩⟩
structure ab.Ok (e:ab):Prop where
 r:ar e.r
 c:ar e.c
 w:ar e.w
structure ag.Ok (p:ag):Prop where
 r:ar p.r
 c:ar p.c
structure ae.Ok (c:ae):Prop where
 q:ar c.q
 d:ar c.d
 w:ar c.w
 ttl:ar c.ttl
 b:ar c.b
structure aF.Ok (x:aF):Prop where
 tick:ar x.tick
 ws:∀ w ∈ x.ws,w.Ok
 ds:∀ d ∈ x.ds,d.Ok
 rows:ar x.rows
 cols:ar x.cols
 es:∀ e ∈ x.es,e.Ok
 ps:∀ p ∈ x.ps,p.Ok
 ys:∀ n ∈ x.ys,ar n
 zs:∀ n ∈ x.zs,ar n
/-! numbers that rise -/
def ir (ws:List ad) (i:Nat):Int:=match i with
 | 0=>-1
 | j+1=>match ws[j]? with
   | none=>-1
   | some x=>x.number
def iu (ds:List ak) (i:Nat):Int:=match i with
 | 0=>-1
 | j+1=>match ds[j]? with
   | none=>-1
   | some x=>x.number
theorem gT {ws:List ad} {i:Nat} {x:ad} (h:ws[i]?=some x):ir ws (i+1)=x.number:=by simp [ir,h]
theorem gU {ds:List ak} {i:Nat} {x:ak} (h:ds[i]?=some x):iu ds (i+1)=x.number:=by simp [iu,h]
def jM (tick:Int) (ws:List ad) (i:Nat):Bool:=match ws[i]? with
 | none=>true
 | some x=>decide (ir ws i<x.number∧0≤x.since∧x.since≤tick)
def jN (ds:List ak) (i:Nat):Bool:=match ds[i]? with
 | none=>true
 | some x=>decide (iu ds i<x.number)
theorem dO {tick:Int} {ws:List ad} {i:Nat} {x:ad} (h:ws[i]?=some x):jM tick ws i=decide (ir ws i<x.number∧0≤x.since∧x.since≤tick):=by simp only [jM,h]
theorem fp {ds:List ak} {i:Nat} {x:ak} (h:ds[i]?=some x):jN ds i=decide (iu ds i<x.number):=by simp only [jN,h]
def et (x:aF):Bool:=decide (1≤x.tick∧x.tick≤1099511627776∧x.ws.length≤64∧x.ds.length≤64)
def dI (x:aF):Bool:=c6 x.ws.length (jM x.tick x.ws)
def dY (x:aF):Bool:=c6 x.ds.length (jN x.ds)
def dm (x:aF):Bool:=aQ x.rows x.cols x.es && decide (x.rows=x.ws.length) && decide (x.cols=x.ds.length)
def bw (x:aF):Int:=
 if !et x then 1 else if !dI x then 1 else if !dY x then 1 else if !dm x then 170 else if !cw x.es x.ps then 180 else if !bH x.rows x.cols x.ys x.zs then 1 else 0
theorem cK {x:aF} (h:bw x=0):et x=true∧dI x=true∧dY x=true∧dm x=true∧cw x.es x.ps=true∧bH x.rows x.cols x.ys x.zs=true:=by
 unfold bw at h;cases h1:et x <;> cases h2:dI x <;> cases h3:dY x <;> cases h4:dm x <;> cases h5:cw x.es x.ps <;> cases h6:bH x.rows x.cols x.ys x.zs <;> simp_all
/-! chapter 26 -/
def idR (a:az):List Int:=[a.i0,a.i1,a.i2,a.i3,a.i4,a.i5,a.i6,a.i7]
def idD (a:gQ):List Int:=[a.i0,a.i1,a.i2,a.i3,a.i4,a.i5,a.i6,a.i7]
def newAt (ids:List (List Int)) (i:Nat):Bool:=match ids[i]? with
 | none=>true
 | some x=>c6 i (fun k=>match ids[k]? with | none=>true | some y=>decide (y≠x))
def fe (ids:List (List Int)):Bool:=c6 ids.length (newAt ids)
def iv (c:ae) (tick:Int) (ws:List ad) (i:Nat):Bool:=match ws[i]? with
 | none=>true
 | some w=>decide (bn c w.r=0) && decide (tick≤w.since+w.r.ttl)
def iw (ds:List ak) (i:Nat):Bool:=match ds[i]? with
 | none=>true
 | some d=>decide (aR d.d=0)
def bZ (c:ae) (x:aF):Bool:=
 decide ((x.ws.length:Int)≤c.q∧(x.ds.length:Int)≤c.d) && c6 x.ws.length (iv c x.tick x.ws) && c6 x.ds.length (iw x.ds) && fe (x.ws.map fun w=>idR w.r) && fe (x.ds.map fun d=>idD d.d)
/-! graphs -/
def gp (c:ae) (now:Int):List ad→Int
 | []=>0
 | w::l=>if (f8 c now w (bn c w.r)).2≠0 then (f8 c now w (bn c w.r)).2 else gp c now l
def eO:List ak→Int
 | []=>0
 | d::l=>if aR d.d≠0 then aR d.d else eO l
def bj (c:ae) (now:Int) (ws:List ad) (ds:List ak):List ab:=(bN ws ds).map fun p=>⟨p.r,p.c,match ws[p.r.toNat]? with | none=>0 | some w=>(f8 c now w (bn c w.r)).1⟩
def bO (c:ae) (now:Int) (ws:List ad) (ds:List ak):Int:=
 if al c≠0 then al c else if !cx now then 1 else if 64<ws.length∨64<ds.length then 3 else if gp c now ws≠0 then gp c now ws else eO ds
def bR (c:ae) (tick:Int):Bool:=decide (1≤tick∧tick≤1099511627776) && decide (tick % c.w=0)
def cM (c:ae) (x:aF):Bool:=decide (bO c x.tick x.ws x.ds=0) && decide (x.rows=x.ws.length) && decide (x.cols=x.ds.length) && decide (bj c x.tick x.ws x.ds=x.es)
def aO (c:ae) (x:aF):Int:=
 if al c≠0 then 160 else if !bR c x.tick then 262 else if bw x≠0 then bw x else if !bZ c x then 1 else if !cM c x then 260 else fN x.rows x.cols x.es x.ps x.ys x.zs
end Go.Proofs.YtcaicgipibcicaaGreat
namespace Go.Proofs.YtcaicgipibcicaaGreat
open Go.RowKit Go.Sort
theorem e7 {w:World} {b:Nat} {a0 a1 a2 a3 a4 a5:Value} {t:TypeId} (h:w.heap[b]?=some (.cells #[a0,a1,a2,a3,a4,a5] t (0,0))) :
 w.cell? ⟨b,0,none⟩=some a0∧w.cell? ⟨b,1,none⟩=some a1∧w.cell? ⟨b,2,none⟩=some a2∧w.cell? ⟨b,3,none⟩=some a3∧w.cell? ⟨b,4,none⟩=some a4∧w.cell? ⟨b,5,none⟩=some a5:=by
 refine ⟨?_,?_,?_,?_,?_,?_⟩ <;> rw [yI w b _ _ t (0,0) h] <;> rfl
theorem cells2 {w:World} {b:Nat} {a0 a1:Value} {t:TypeId} (h:w.heap[b]?=some (.cells #[a0,a1] t (0,0))) :
 w.cell? ⟨b,0,none⟩=some a0∧w.cell? ⟨b,1,none⟩=some a1:=by
 refine ⟨?_,?_⟩ <;> rw [yI w b _ _ t (0,0) h] <;> rfl
structure lM (w:World) (rows cols:Int) (ev pv yv zv:Value) (r c:Int) (H0 H1:Nat) (wr:World):Prop where
 g:wr.heap[H0]?=some (.cells #[.int .i64 rows,.int .i64 cols,ev,pv,yv,zv] 164 (0,0))
 p:wr.heap[H1]?=some (.cells #[.int .i64 r,.int .i64 c] 69 (0,0))
 below:Below w.heap.size w wr
theorem lM.one {w:World} {rows cols:Int} {ev pv yv zv:Value} {r c:Int} {H0 H1:Nat} {wr:World} (h:lM w rows cols ev pv yv zv r c H0 H1 wr) (o:Obj):lM w rows cols ev pv yv zv r c H0 H1 (wr.alloc o):=
 ⟨(Keep.alloc (fun _=>False) _ _).old h.g id,(Keep.alloc (fun _=>False) _ _).old h.p id,h.below.alloc h.below.size _⟩
theorem lM.drewN {w:World} {rows cols:Int} {ev pv yv zv:Value} {r c:Int} {H0 H1:Nat} {wr:World} (h:lM w rows cols ev pv yv zv r c H0 H1 wr) (n:Nat):lM w rows cols ev pv yv zv r c H0 H1 (wr.drewN n):=
 ⟨h.g,h.p,below_drewN h.below n⟩
theorem mU (w:World) (rows cols:Int) (eo:Option Addr) (n c:Nat) (pv yv zv:Value) (r k:Int) (l:List ab) (hg:aQ rows cols l=true) (hl:l.length=n) (hr:RdC w eo (cellsOf ab.cells l)) (hn:n≤9007199254740992) :
 Calls Tryz.prog 131 #[.agg #[.int .i64 rows,.int .i64 cols,.slice eo n c,pv,yv,zv],.agg #[.int .i64 r,.int .i64 k]] w fun e w'=>e = .returned (.int .i64 (aJ l r k))∧Below w.heap.size w w':=by
 have HL:=yA hl;have HR:=yA hr;have HG:=yA hg;clear hl hr hg
 have HW:=yA (show lM w rows cols (.slice eo n c) pv yv zv r k w.heap.size (w.heap.size+1) ((w.alloc (.cells #[.int .i64 rows,.int .i64 cols,.slice eo n c,pv,yv,zv] 164)).alloc (.cells #[.int .i64 r,.int .i64 k] 69)) from by
  refine ⟨(Keep.alloc (fun _=>False) _ _).old (yE w _) id,?_,((yH w.heap.size w).alloc (yB _) _).alloc (by simp) _⟩;have:=yE (w.alloc (.cells #[.int .i64 rows,.int .i64 cols,.slice eo n c,pv,yv,zv] 164)) (.cells #[.int .i64 r,.int .i64 k] 69);rw [show (w.alloc (.cells #[.int .i64 rows,.int .i64 cols,.slice eo n c,pv,yv,zv] 164)).heap.size=w.heap.size+1 by simp] at this;exact this)
 go_enter Tryz.func131,Tryz.ntmps131
 go_wp2_with fail
 generalize (w.alloc (.cells #[.int .i64 rows,.int .i64 cols,.slice eo n c,pv,yv,zv] 164)).alloc (.cells #[.int .i64 r,.int .i64 k] 69)=W at *;have HHE:=yA (show ∃ H0 H1,w.heap.size=H0∧w.heap.size+1=H1 from ⟨_,_,rfl,rfl⟩);obtain ⟨H0,H1,hH0,hH1⟩:=HHE.out;rw [hH1,hH0] at HW ⊢;have HH:=yA hH0;clear hH0 hH1 HHE;obtain ⟨g0,g1,g2,g3,g4,g5⟩:=e7 HW.out.g;go_quiet (fail)
 clear g0 g1 g2 g3 g4 g5;have HW1:=yA (HW.out.drewN nq);clear HW;generalize W.drewN nq=W1 at *;go_wp2_with fail
 go_loopw [5,6] (fun a b wr=>Hid (∃ lo hi:Nat,a = .int .i64 lo∧b = .int .i64 hi∧Halves l r k lo hi∧lM w rows cols (.slice eo n c) pv yv zv r k H0 H1 wr)) (fun a b _=>(intOf b - intOf a).toNat)
 case atStart=>exact yA ⟨0,n,rfl,rfl,by rw [←HL.out];exact Halves.begin _ _ _,HW1.out⟩
 case round=>
  obtain ⟨lo,hi,rfl,rfl,hh,hrel1⟩:=hrel.out;clear hrel;have HHV:=yA hh;have hle:=hh.le;have hhi:hi≤n:=by have:=hh.len;rw [HL.out] at this;exact this
  clear hh;obtain ⟨g0,g1,g2,g3,g4,g5⟩:=e7 hrel1.g;obtain ⟨p0,p1⟩:=cells2 hrel1.p;have hs0:H0<wr.heap.size:=yK hrel1.g;have hs1:H1<wr.heap.size:=yK hrel1.p;have HR1:=yA hrel1;clear hrel1;clear g0 g1 g3 g4 g5;by_cases hlt:lo<hi
  · obtain ⟨m,hm⟩:∃ m,(lo+hi) / 2=m:=⟨_,rfl⟩
    have hm1:lo≤m:=by omega
    have hm2:m<hi:=by omega
    obtain ⟨x,hx⟩:∃ x,l[m]?=some x:=⟨l[m]'(by rw [HL.out];omega),yC _⟩;obtain ⟨b,o,rfl,_⟩:=HR.out.place (by rw [cellsOf_length _ 3 ab.cells_length,HL.out];omega);obtain ⟨x0,x1,x2⟩:=cH (HR.out.keep (Keep.of_below HR1.out.below (yB _) (fun _=>False)) (fun _ _ _=>id)) hx;have hb0:b<wr.heap.size:=yL wr _ x0;have HX:=yA hx;clear hx;have hmi:((lo:Int)+(hi:Int)) / 2=(m:Int):=by omega
    have HM:=yA hm;clear hm;have hc2:x.r<r∨(r≤x.r∧r<x.r)∨(x.r=r∧x.c<k)∨(x.r=r∧k≤x.c):=by omega
    have HUP:=yA (fun h=>HHV.out.up HG.out hm1 hm2 HX.out h);have HDN:=yA (fun h=>HHV.out.down HG.out hm1 hm2 HX.out h);rcases hc2 with h11 | ⟨h11,h12⟩ | ⟨h11,h12⟩ | ⟨h11,h12⟩
    · have HA:=yA (show iq x r k=true from decide_eq_true (by omega))
      go_wp2_with fail
      go_roundw
      case rel=>exact yA ⟨m+1,hi,by first | go_num | (rw [hmi];go_num),rfl,HUP.out HA.out,HR1.out.one _⟩
      case measure=>simp [intOf];omega
    · have HA:=yA (show iq x r k=false from decide_eq_false (by omega))
      have h13:(x.r==r)=false:=by simp;omega
      go_wp2_with fail
      go_roundw
      case rel=>exact yA ⟨lo,m,rfl,by first | rfl | rw [hmi],HDN.out HA.out,HR1.out.one _⟩
      case measure=>simp [intOf];omega
    · have HA:=yA (show iq x r k=true from decide_eq_true (by omega))
      have h13:(x.r==r)=true:=by simp [h11]
      have h14:¬ x.r<r:=by omega
      clear h11;go_wp2_with fail
      go_roundw
      case rel=>exact yA ⟨m+1,hi,by first | go_num | (rw [hmi];go_num),rfl,HUP.out HA.out,HR1.out.one _⟩
      case measure=>simp [intOf];omega
    · have HA:=yA (show iq x r k=false from decide_eq_false (by omega))
      have h13:(x.r==r)=true:=by simp [h11]
      have h14:¬ x.r<r:=by omega
      clear h11;go_wp2_with fail
      go_roundw
      case rel=>exact yA ⟨lo,m,rfl,by first | rfl | rw [hmi],HDN.out HA.out,HR1.out.one _⟩
      case measure=>simp [intOf];omega
  · obtain rfl:lo=hi:=by omega
    clear hle;by_cases hln:lo<n
    · obtain ⟨x,hx⟩:∃ x,l[lo]?=some x:=⟨l[lo]'(by rw [HL.out];omega),yC _⟩
      obtain ⟨b,o,rfl,_⟩:=HR.out.place (by rw [cellsOf_length _ 3 ab.cells_length,HL.out];omega);obtain ⟨x0,x1,x2⟩:=cH (HR.out.keep (Keep.of_below HR1.out.below (yB _) (fun _=>False)) (fun _ _ _=>id)) hx;have hb0:b<wr.heap.size:=yL wr _ x0;have HX:=yA hx;clear hx;have hd:decide (lo<n)=true:=by simpa using hln
      by_cases h1:x.r=r
      · by_cases h2:x.c=k
        · have HE:=yA (HHV.out.hit HX.out ⟨h1,h2⟩)
          have h3:(x.r==r)=true:=by simp [h1]
          have h4:(x.c==k)=true:=by simp [h2]
          clear h1 h2;go_wp2_with fail
          go_quiet (fail)
          go_wp2_with fail
          go_ret
          exact ⟨by rw [HE.out];rfl,below_drewN HR1.out.below _⟩
        · have HE:=yA (HHV.out.miss HG.out HX.out (fun h=>h2 h.2))
          have h3:(x.r==r)=true:=by simp [h1]
          have h4:(x.c==k)=false:=by simp [h2]
          clear h1 h2;go_wp2_with fail
          go_quiet (fail)
          go_wp2_with fail
          go_ret
          exact ⟨by rw [HE.out];rfl,below_drewN HR1.out.below _⟩
      · have HE:=yA (HHV.out.miss HG.out HX.out (fun h=>h1 h.1))
        have h3:(x.r==r)=false:=by simp [h1]
        clear h1;go_wp2_with fail
        go_quiet (fail)
        go_wp2_with fail
        go_ret
        exact ⟨by rw [HE.out];rfl,below_drewN HR1.out.below _⟩
    · have HE:=yA (HHV.out.past (by rw [HL.out];omega))
      have hd:decide (lo<n)=false:=by simpa using hln
      go_wp2_with fail
      go_quiet (fail)
      go_wp2_with fail
      go_ret
      exact ⟨by rw [HE.out];rfl,below_drewN HR1.out.below _⟩
structure RV where
 x:aF
 wo:Option Addr
 wn:Nat
 wc:Nat
 ko:Option Addr
 kn:Nat
 kc:Nat
 eo:Option Addr
 en:Nat
 ec:Nat
 po:Option Addr
 pn:Nat
 pc:Nat
 yo:Option Addr
 yn:Nat
 yc:Nat
 zo:Option Addr
 zn:Nat
 zc:Nat
structure RV.In (w:World) (v:RV):Prop where
 wl:v.x.ws.length=v.wn
 wr:RdC w v.wo (cellsOf ad.cells v.x.ws)
 wb:v.wn≤1048576
 kl:v.x.ds.length=v.kn
 kr:RdC w v.ko (cellsOf ak.cells v.x.ds)
 kb:v.kn≤1048576
 el:v.x.es.length=v.en
 er:RdC w v.eo (cellsOf ab.cells v.x.es)
 eb:v.en≤1048576
 pl:v.x.ps.length=v.pn
 pr:RdC w v.po (cellsOf ag.cells v.x.ps)
 pb:v.pn≤1048576
 yl:v.x.ys.length=v.yn
 yr:RdC w v.yo (cellsOf aP v.x.ys)
 yb:v.yn≤1048576
 zl:v.x.zs.length=v.zn
 zr:RdC w v.zo (cellsOf aP v.x.zs)
 zb:v.zn≤1048576
 ok:v.x.Ok
theorem RV.In.keep {w w':World} {v:RV} (h:v.In w) (hb:Below w.heap.size w w'):v.In w':=
 ⟨h.wl,h.wr.below hb,h.wb,h.kl,h.kr.below hb,h.kb,h.el,h.er.below hb,h.eb,h.pl,h.pr.below hb,h.pb,h.yl,h.yr.below hb,h.yb,h.zl,h.zr.below hb,h.zb,h.ok⟩
theorem cells9 {w:World} {b:Nat} {a0 a1 a2 a3 a4 a5 a6 a7 a8:Value} {t:TypeId} (h:w.heap[b]?=some (.cells #[a0,a1,a2,a3,a4,a5,a6,a7,a8] t (0,0))) :
 w.cell? ⟨b,0,none⟩=some a0∧w.cell? ⟨b,1,none⟩=some a1∧w.cell? ⟨b,2,none⟩=some a2∧w.cell? ⟨b,3,none⟩=some a3∧w.cell? ⟨b,4,none⟩=some a4∧w.cell? ⟨b,5,none⟩=some a5∧w.cell? ⟨b,6,none⟩=some a6∧w.cell? ⟨b,7,none⟩=some a7∧w.cell? ⟨b,8,none⟩=some a8:=by
 refine ⟨?_,?_,?_,?_,?_,?_,?_,?_,?_⟩ <;> rw [yI w b _ _ t (0,0) h] <;> rfl
structure ee (w:World) (v:RV) (H0:Nat) (wr:World):Prop where
 g:wr.heap[H0]?=some (.cells #[.int .i64 v.x.tick,.slice v.wo v.wn v.wc,.slice v.ko v.kn v.kc,.int .i64 v.x.rows,.int .i64 v.x.cols,.slice v.eo v.en v.ec,.slice v.po v.pn v.pc,.slice v.yo v.yn v.yc,.slice v.zo v.zn v.zc] 34 (0,0))
 below:Below w.heap.size w wr
theorem ee.keep {w:World} {v:RV} {H0:Nat} {wr w':World} (h:ee w v H0 wr) (hb:Below wr.heap.size wr w'):ee w v H0 w':=
 ⟨(Keep.of_below hb (yB _) (fun _=>False)).old h.g id,Below.next h.below hb⟩
theorem ee.one {w:World} {v:RV} {H0:Nat} {wr:World} (h:ee w v H0 wr) (o:Obj):ee w v H0 (wr.alloc o):=h.keep ((yH _ _).alloc (yB _) _)
theorem ee.begin (w:World) (v:RV):ee w v w.heap.size (w.alloc (.cells #[.int .i64 v.x.tick,.slice v.wo v.wn v.wc,.slice v.ko v.kn v.kc,.int .i64 v.x.rows,.int .i64 v.x.cols,.slice v.eo v.en v.ec,.slice v.po v.pn v.pc,.slice v.yo v.yn v.yc,.slice v.zo v.zn v.zc] 34)):=
 ⟨yE w _,(yH w.heap.size w).alloc (yB _) _⟩
/-! what is said of a record,step by step -/
theorem rQ {x:aF} (h:et x=false):bw x=1:=by simp [bw,h]
theorem o9 {x:aF} (h1:et x=true) (h:dI x=false):bw x=1:=by simp [bw,h,h1]
theorem rR {x:aF} (h1:et x=true) (h2:dI x=true) (h:dY x=false):bw x=1:=by simp [bw,h,h1,h2]
theorem gV {x:aF} (h1:et x=true) (h2:dI x=true) (h3:dY x=true) (h:dm x=false):bw x=170:=by simp [bw,h,h1,h2,h3]
theorem rS {x:aF} (h1:et x=true) (h2:dI x=true) (h3:dY x=true) (h4:dm x=true) (h:cw x.es x.ps=false):bw x=180:=by simp [bw,h,h1,h2,h3,h4]
theorem la {x:aF} (h1:et x=true) (h2:dI x=true) (h3:dY x=true) (h4:dm x=true) (h5:cw x.es x.ps=true) (h:bH x.rows x.cols x.ys x.zs=false):bw x=1:=by simp [bw,h,h1,h2,h3,h4,h5]
theorem rT {x:aF} (h1:et x=true) (h2:dI x=true) (h3:dY x=true) (h4:dm x=true) (h5:cw x.es x.ps=true) (h:bH x.rows x.cols x.ys x.zs=true):bw x=0:=by simp [bw,h,h1,h2,h3,h4,h5]
theorem jO {x:aF} {k:Nat} {y:ad} (hy:x.ws[k]?=some y) (h:¬ (ir x.ws k<y.number∧0≤y.since∧y.since≤x.tick)):dI x=false:=
 bE (yD.1 hy).1 (by rw [dO hy];exact decide_eq_false h)
theorem mV {x:aF} {k:Nat} {y:ak} (hy:x.ds[k]?=some y) (h:¬ iu x.ds k<y.number):dY x=false:=
 bE (yD.1 hy).1 (by rw [fp hy];exact decide_eq_false h)
section
variable {P:Program}
theorem bk (w:World) (b off:Nat) (ty:TypeId) (cs:List Value) (d:TypeDesc) (hc:∀ j u,cs[j]?=some u→w.cell? ⟨b,off+j,none⟩=some u)
 (hu:P.underlying ty=some d) (hd:(match d with | .struct _ | .array _ _=>true | _=>false)=true) (hi:(P.info? ty).map (·.size)=some cs.length) :
 (loadVar ty ⟨b,off,none⟩).run P w = .ok (.agg cs.toArray) w:=by
 have hl:(loadCells ⟨b,off,none⟩ cs.length).run P w = .ok cs.toArray w:=
  run_loadCells_list (P:=P) w ⟨b,off,none⟩ cs (fun j v hv=>by
   have hadd:(⟨b,off,none⟩:Addr).add j=⟨b,off+j,none⟩:=by unfold Addr.add;split <;> simp_all
   rw [hadd];exact hc j v hv)
 cases hq:P.info? ty with
 | none=>simp [hq] at hi
 | some i=>
   have hs:i.size=cs.length:=by simpa [hq] using hi
   have hagg:(isAgg ty).run P w = .ok true w:=by
    unfold isAgg;rw [zS,run_underlying hu w];cases d <;> simp_all
   simp [loadVar,zS,hagg,sizeOf,typeInfo,hq,hs,hl]
theorem ku {o:Oper} {a:Act} {w:World} {K:Act→World→Prop} {Q:Exit→Act→World→Prop} (ty:TypeId) (x:Operand) (ho:o.op = .load ty x)
 (b off:Nat) (hx:a.eval x = .pointer (some ⟨b,off,none⟩)) (cs:List Value) (d:TypeDesc) (hc:∀ j u,cs[j]?=some u→w.cell? ⟨b,off+j,none⟩=some u)
 (hu:P.underlying ty=some d) (hd:(match d with | .struct _ | .array _ _=>true | _=>false)=true) (hi:(P.info? ty).map (·.size)=some cs.length)
 (h:K (a.put o.dst (.agg cs.toArray)) w):o.wp P a w K Q:=by
 unfold Oper.wp execOp;simp only [ho,hx,Instr.loadAt,Instr.sureAddr,zS,Sem.run_pure,zT,bk w b off ty cs d hc hu hd hi];exact h
theorem aa {ops:Array Oper} {rest:List Oper} {o:Oper} {a:Act} {w:World} {Q:Exit→Act→World→Prop} (hgd:o.guard=none) (ty:TypeId) (x:Operand) (ho:o.op = .load ty x)
 (b off:Nat) (hx:a.eval x = .pointer (some ⟨b,off,none⟩)) (cs:List Value) (vs:Array Value) (hvs:cs.toArray=vs) (d:TypeDesc) (hc:∀ j u,cs[j]?=some u→w.cell? ⟨b,off+j,none⟩=some u)
 (hu:P.underlying ty=some d) (hd:(match d with | .struct _ | .array _ _=>true | _=>false)=true) (hi:(P.info? ty).map (·.size)=some cs.length)
 (h:wpList P ops Q rest (a.put o.dst (.agg vs)) w):wpList P ops Q (o::rest) a w:=
 wpList_plain hgd fun _ hK=>ku ty x ho b off hx cs d hc hu hd hi (hK _ _ (by rw [hvs];exact h))
theorem ah {ops:Array Oper} {rest:List Oper} {o:Oper} {a:Act} {w:World} {Q:Exit→Act→World→Prop} (hgd:o.guard=none) (ty:TypeId) (p x:Operand) (ho:o.op = .store ty p x) (c c':Array Value)
 (hp:a.eval p = .pointer (some ⟨w.heap.size,0,none⟩)) (hx:a.eval x = .agg c') (cs:List Value) (hc:cs.toArray=c') (hi:(P.info? ty).map (·.size)=some c'.size) (hs:c.size=c'.size) (h1:∀ u ∈ cs,u.oneCell'=true)
 (h:wpList P ops Q rest (a.put o.dst undef) (w.alloc (.cells c' ty))):wpList P ops Q (o::rest) a (w.alloc (.cells c ty)):=by
 refine wpList_plain hgd fun K hK=>?_
 have h1':c'.all (·.oneCell')=true:=by subst hc;rw [List.all_toArray,zO];exact h1
 unfold Oper.wp execOp;simp only [ho,hp,hx,zS,run_storeAt_new w ty c c' hi hs h1',zT,Sem.run_pure];exact hK _ _ h
end
theorem tk {P:Program} {e:TypeId} {z:Value} {s b:Nat} (h:(P.info? e).map (fun i=>(i.zero,i.size,i.bytes))=some (some z,s,b)):(P.info? e).map (·.size)=some s:=by
 obtain ⟨i,hi,_,hs,_⟩:=cR h;simp [hi,hs]
theorem aK:(Tryz.prog.info? 79).map (·.size)=some 18:=tk li
theorem dF:(Tryz.prog.info? 83).map (·.size)=some 14:=tk lk
theorem xJ:(Tryz.prog.info? 114).map (·.size)=some 3:=tk gH
theorem pa:(Tryz.prog.info? 69).map (·.size)=some 2:=tk gI
def az.cells (r:az):List Value:=[.int .u8 r.i0,.int .u8 r.i1,.int .u8 r.i2,.int .u8 r.i3,.int .u8 r.i4,.int .u8 r.i5,.int .u8 r.i6,.int .u8 r.i7,.int .i16 r.fx,.int .i16 r.fy,.int .i16 r.tx,.int .i16 r.ty,.int .u8 r.seats,.int .u8 r.classes,.int .i64 r.base,.int .i64 r.ttl]
def gQ.cells (d:gQ):List Value:=[.int .u8 d.i0,.int .u8 d.i1,.int .u8 d.i2,.int .u8 d.i3,.int .u8 d.i4,.int .u8 d.i5,.int .u8 d.i6,.int .u8 d.i7,.int .i16 d.ax,.int .i16 d.ay,.int .u8 d.seats,.int .u8 d.cls,.int .i64 d.radius]
def ae.cells (c:ae):List Value:=[.int .i64 c.q,.int .i64 c.d,.int .i64 c.w,.int .i64 c.ttl,.int .i64 c.b]
theorem pd:(Tryz.prog.info? 77).map (·.size)=some 16:=by kernel_rfl
theorem pg:(Tryz.prog.info? 81).map (·.size)=some 13:=by kernel_rfl
theorem aE:(Tryz.prog.info? 23).map (·.size)=some 5:=by kernel_rfl
theorem gc:(Tryz.prog.info? 72).map (·.size)=some 8:=by kernel_rfl
theorem bp {w:World} {H:Nat} {cs:List Value} {vs:Array Value} {t:TypeId} (h:w.heap[H]?=some (.cells vs t (0,0))) (k:Nat) (he:cs=vs.toList.take k):∀ j u,cs[j]?=some u→w.cell? ⟨H,0+j,none⟩=some u:=by
 intro j u hu;rw [yO,yI w H j _ _ (0,0) h];subst he;rw [List.getElem?_take] at hu;split at hu
 · simpa using hu
 · cases hu
theorem iV {w:World} {H:Nat} {x:ad} {t:TypeId} (h:w.heap[H]?=some (.cells #[.int .u8 x.r.i0,.int .u8 x.r.i1,.int .u8 x.r.i2,.int .u8 x.r.i3,.int .u8 x.r.i4,.int .u8 x.r.i5,.int .u8 x.r.i6,.int .u8 x.r.i7,.int .i16 x.r.fx,.int .i16 x.r.fy,.int .i16 x.r.tx,.int .i16 x.r.ty,.int .u8 x.r.seats,.int .u8 x.r.classes,.int .i64 x.r.base,.int .i64 x.r.ttl,.int .i64 x.since,.int .i64 x.number] t (0,0))):∀ j u,x.r.cells[j]?=some u→w.cell? ⟨H,0+j,none⟩=some u:=bp h 16 rfl
theorem om {w:World} {H:Nat} {x:ak} {t:TypeId} (h:w.heap[H]?=some (.cells #[.int .u8 x.d.i0,.int .u8 x.d.i1,.int .u8 x.d.i2,.int .u8 x.d.i3,.int .u8 x.d.i4,.int .u8 x.d.i5,.int .u8 x.d.i6,.int .u8 x.d.i7,.int .i16 x.d.ax,.int .i16 x.d.ay,.int .u8 x.d.seats,.int .u8 x.d.cls,.int .i64 x.d.radius,.int .i64 x.number] t (0,0))):∀ j u,x.d.cells[j]?=some u→w.cell? ⟨H,0+j,none⟩=some u:=bp h 13 rfl
theorem rU {w:World} {H:Nat} {x:ad} {t:TypeId} (h:w.heap[H]?=some (.cells #[.int .u8 x.r.i0,.int .u8 x.r.i1,.int .u8 x.r.i2,.int .u8 x.r.i3,.int .u8 x.r.i4,.int .u8 x.r.i5,.int .u8 x.r.i6,.int .u8 x.r.i7,.int .i16 x.r.fx,.int .i16 x.r.fy,.int .i16 x.r.tx,.int .i16 x.r.ty,.int .u8 x.r.seats,.int .u8 x.r.classes,.int .i64 x.r.base,.int .i64 x.r.ttl,.int .i64 x.since,.int .i64 x.number] t (0,0))):∀ j u,x.cells[j]?=some u→w.cell? ⟨H,0+j,none⟩=some u:=bp h 18 rfl
theorem bA {w:World} {H:Nat} {x:ae} {t:TypeId} (h:w.heap[H]?=some (.cells #[.int .i64 x.q,.int .i64 x.d,.int .i64 x.w,.int .i64 x.ttl,.int .i64 x.b] t (0,0))):∀ j u,x.cells[j]?=some u→w.cell? ⟨H,0+j,none⟩=some u:=bp h 5 rfl
theorem bS {w:World} {b o:Nat} {l:List ad} (hr:RdC w (some ⟨b,o,none⟩) (cellsOf ad.cells l)) {i:Nat} {x:ad} (hx:l[i]?=some x):∀ j u,x.cells[j]?=some u→w.cell? ⟨b,o+i*18+j,none⟩=some u:=
 fun j u hu=>bf ad.cells_length hr hx j u hu
theorem dz {w:World} {b o:Nat} {l:List ak} (hr:RdC w (some ⟨b,o,none⟩) (cellsOf ak.cells l)) {i:Nat} {x:ak} (hx:l[i]?=some x):∀ j u,x.cells[j]?=some u→w.cell? ⟨b,o+i*14+j,none⟩=some u:=
 fun j u hu=>bf ak.cells_length hr hx j u hu
theorem Row.set {w:World} {g cap size:Nat} {xs:List Value} (h:Row w g cap size xs) (i:Nat) (v:Value) (hi:i<cap*size):Row (w.setCell ⟨g,i,none⟩ v) g cap size (xs.set i v):=by
 have hK:=Keep.setCells w g i [v];have hsc:w.setCells g i [v]=w.setCell ⟨g,i,none⟩ v:=rfl;rw [←hsc];refine ⟨Nat.lt_of_lt_of_le h.lt hK.size,fun j u hu=>?_,fun j hj=>World.isSome_setCells g [v] _ w _ (h.there j hj),fun j hj=>by rw [World.frozen?_setCells];exact h.free j hj⟩;by_cases hj:j=i
 · subst hj
   have h1:=World.cell?_setCells_in g [v] j w (fun k hk=>by simp at hk;subst hk;exact h.there _ (by simpa using hi)) 0 (by simp);rw [List.getElem?_set] at hu;simp only [if_true] at hu;split at hu
   · cases hu;simpa using h1
   · cases hu
 · rw [World.cell?_setCells_out g [v] _ w ⟨g,j,none⟩ (fun _ _=>by simp;omega)]
   rw [List.getElem?_set_ne (fun e=>hj e.symm)] at hu;exact h.cell j u hu
theorem aM {P:Program} {ops:Array Oper} {o:Oper} {a:Act} {w:World} {K:Act→World→Prop} {Q:Exit→Act→World→Prop} {E:Prop}
 (hg:o.guard=none) (s x:Operand) (t tx:TypeId) (hop:o.op=Op.call { callee:=Callee.builtin Builtin.append,args:=#[s,x],argTypes:=#[t,tx] })
 (e:TypeId) (i:TypeInfo) (z:Value) (size bytes:Nat) (ht:P.underlying t=some (.slice e)) (hi:P.info? e=some i) (hz:i.zero=some z) (hsize:i.size=size) (hby:i.bytes=bytes) (hzs:z.cells.size=size)
 (v:Value) (n:Nat) (xs:List Value) (hs:a.eval s=v) (hown:Own w size v n xs) (xv:Value) (m:Nat) (news:List Value) (hx:a.eval x=xv) (hsrc:Src P size tx xv m news w)
 (h63:n+m≤maxLen) (hbytes:(n+m)*bytes≤140737488355328)
 (hK:∀ ao cap w',Own w' size (.slice ao (n+m) cap) (n+m) (xs++news)→Keep (fun k=>v.ownBlock=some k) w w'→((Value.slice ao (n+m) cap).ownBlock=v.ownBlock∨∃ g,(Value.slice ao (n+m) cap).ownBlock=some g∧w.heap.size≤g)→K (a.put o.dst (.slice ao (n+m) cap)) w') :
 if Region.wanted o (yielded ops a.tmps)=true then Oper.wp P o a w K Q else E:=by
 have hw:Region.wanted o (yielded ops a.tmps)=true:=by simp [Region.wanted,hg]
 rw [if_pos hw];obtain ⟨v',w',hr,h2,h3,h4,h5⟩:=iz (P:=P) w t tx o.type e i z size bytes ht hi hz hsize hby hzs v n xs hown xv m news hsrc h63 hbytes
 obtain ⟨ao,cap,hv⟩:∃ ao cap,v' = .slice ao (n+m) cap:=by
  rcases h2.2 with ⟨h,h0⟩ | ⟨g,c,h,_⟩
  · exact ⟨none,0,by rw [h,h0]⟩
  · exact ⟨_,_,h⟩
 subst hv;unfold Oper.wp;simp [execOp,hop,resolve,invoke,builtin,hs,hx,hr,Result.andThen];exact hK _ _ _ h2 h3 h4
structure gd (w3:World) (n m:Nat) (l:List ab) (ev:Value) (H:Nat) (wr:World):Prop where
 own:Own wr 3 ev l.length (cellsOf ab.cells l)
 new:∀ g,ev.ownBlock=some g→w3.heap.size≤g
 keep:Keep (fun k=>k=H) w3 wr
 box:wr.heap[H]?=some (.cells #[.int .i64 n,.int .i64 m,ev] 28 (0,0))
 lt:H<w3.heap.size
theorem gd.begin {w3:World} {n m H:Nat} (h:w3.heap[H]?=some (.cells #[.int .i64 n,.int .i64 m,.slice none 0 0] 28 (0,0))):gd w3 n m [] (.slice none 0 0) H w3:=
 ⟨Own.nil _ _,fun g hg=>by simp [Value.ownBlock] at hg,Keep.refl _ _,h,yK h⟩
theorem gd.past {w3:World} {n m:Nat} {l:List ab} {ev:Value} {H:Nat} {wr w':World} (h:gd w3 n m l ev H wr) (k:Keep (fun _=>False) wr w'):gd w3 n m l ev H w':=
 ⟨h.own.keep k (fun _ _=>id),h.new,h.keep.trans k (fun _ _ h=>h) (fun _ _ h=>h.elim),k.old h.box id,h.lt⟩
theorem gd.next {w3:World} {n m:Nat} {l:List ab} {ev:Value} {H:Nat} {wr WY w':World} (h:gd w3 n m l ev H wr) (hy:Keep (fun _=>False) wr WY) {x:ab} {ao:Option Addr} {cap:Nat}
 (hown:Own w' 3 (.slice ao (l.length+1) cap) (l.length+1) (cellsOf ab.cells l++ab.cells x)) (hk:Keep (fun q=>ev.ownBlock=some q) WY w')
 (hb:(Value.slice ao (l.length+1) cap).ownBlock=ev.ownBlock∨∃ g,(Value.slice ao (l.length+1) cap).ownBlock=some g∧WY.heap.size≤g) :
 gd w3 n m (l++[x]) (.slice ao (l.length+1) cap) H (w'.setCell ⟨H,2,none⟩ (.slice ao (l.length+1) cap)):=by
 have hs3:w3.heap.size≤WY.heap.size:=yV h.keep.size hy.size
 have hnew:∀ g,(Value.slice ao (l.length+1) cap).ownBlock=some g→w3.heap.size≤g:=fun g hg=>by
  rcases hb with hb | ⟨g',hb,hle⟩
  · exact h.new g (hb.symm.trans hg)
  · rw [hg] at hb;cases hb;exact yV hs3 hle
 have hlt:=h.lt;have hbox':w'.heap[H]?=some (.cells #[.int .i64 n,.int .i64 m,ev] 28 (0,0)):=hk.old (hy.old h.box id) (fun he=>by have:=h.new H he;omega);refine ⟨?_,hnew,?_,?_,h.lt⟩
 · rw [gP,yN]
   exact hown.keep (Keep.setCell w' H 2 _) (fun g hg he=>by have:=hnew g hg;omega)
 · refine ((h.keep.trans hy (fun _ _ h=>h) (fun _ _ h=>h.elim)).trans hk (Z:=fun k=>k=H) (fun _ _ h=>h) (fun k hk2 he=>?_)).trans (Keep.setCell w' H 2 _) (fun _ _ h=>h) (fun _ _ h=>h)
   have:=h.new k he;omega
 · exact aj hbox' 2 _
theorem gd.grown {w w3:World} {n m:Nat} {l:List ab} {ev:Value} {H:Nat} {wr:World} (h:gd w3 n m l ev H wr) (hb:Below w.heap.size w w3) (hH:w.heap.size≤H):Grown w ab.cells 3 l ev wr:=
 ⟨h.own,hb.trans (h.keep.below hb.size (fun i hi he=>by omega)),fun g hg=>by have:=h.new g hg;have:=hb.size;omega⟩
def dJ (l:List ab) (ps:List ag):Int:=if cw l ps then 0 else 180
theorem ld {l:List ab} {ps:List ag} (h:cw l ps=false):dJ l ps=180:=by simp [dJ,h]
theorem jP {l:List ab} {ps:List ag} (h:cw l ps=true):dJ l ps=0:=by simp [dJ,h]
structure gE (w:World) (rows cols:Int) (ev pv yv zv:Value) (ps:List ag) (i:Nat) (H0 H1:Nat) (wr:World):Prop where
 g:wr.heap[H0]?=some (.cells #[.int .i64 rows,.int .i64 cols,ev,pv,yv,zv] 164 (0,0))
 t:∃ cs:Array Value,wr.heap[H1]?=some (.cells cs 131 (0,0))∧cs.size=64∧∀ j:Nat,j<64→cs[j]?=some (.bool (!cO ps i j))
 below:Below w.heap.size w wr
theorem gE.keep {w:World} {rows cols:Int} {ev pv yv zv:Value} {ps:List ag} {i:Nat} {H0 H1:Nat} {wr w':World} (h:gE w rows cols ev pv yv zv ps i H0 H1 wr) (hb:Below wr.heap.size wr w'):gE w rows cols ev pv yv zv ps i H0 H1 w':=by
 have hk:=Keep.of_below hb (yB _) (fun _=>False);obtain ⟨cs,h1,h2,h3⟩:=h.t;exact ⟨hk.old h.g id,⟨cs,hk.old h1 id,h2,h3⟩,Below.next h.below hb⟩
theorem gE.one {w:World} {rows cols:Int} {ev pv yv zv:Value} {ps:List ag} {i:Nat} {H0 H1:Nat} {wr:World} (h:gE w rows cols ev pv yv zv ps i H0 H1 wr) (o:Obj):gE w rows cols ev pv yv zv ps i H0 H1 (wr.alloc o):=
 h.keep ((yH _ _).alloc (yB _) _)
theorem gE.taken {w:World} {rows cols:Int} {ev pv yv zv:Value} {ps:List ag} {i:Nat} {H0 H1:Nat} {wr:World} (h:gE w rows cols ev pv yv zv ps i H0 H1 wr) {c:Nat} (hc:c<64):wr.cell? ⟨H1,c,none⟩=some (.bool (!cO ps i c))∧wr.frozen? ⟨H1,c,none⟩=false∧H1<wr.heap.size:=by
 obtain ⟨cs,h1,h2,h3⟩:=h.t;exact ⟨by rw [yI wr H1 c _ _ (0,0) h1];exact h3 c hc,frozen_of_row wr H1 c _ _ h1,yK h1⟩
theorem gE.next {w:World} {rows cols:Int} {ev pv yv zv:Value} {ps:List ag} {i:Nat} {H0 H1:Nat} {wr:World} (h:gE w rows cols ev pv yv zv ps i H0 H1 wr) (hw:w.heap.size≤H1) (hne:H0≠H1) {x:ag} (hx:ps[i]?=some x) {c:Nat} (hc:x.c=(c:Int)):gE w rows cols ev pv yv zv ps (i+1) H0 H1 (wr.setCell ⟨H1,c,none⟩ (.bool true)):=by
 obtain ⟨cs,h1,h2,h3⟩:=h.t;refine ⟨(Keep.setCell _ H1 c _).old h.g hne,⟨_,aj h1 c _,by simpa using h2,fun j hj=>?_⟩,h.below.trans ((Keep.setCell _ H1 c _).below h.below.size (fun k hk he=>by omega))⟩;rw [rO hx,Array.getElem?_setIfInBounds];by_cases hj2:c=j
 · subst hj2
   simp [h2,hj,hc]
 · rw [if_neg hj2,h3 j hj]
   have:decide (x.c≠(j:Int))=true:=decide_eq_true (by omega);rw [this,Bool.and_true]
theorem mW (w:World) (rows cols:Int) (eo po:Option Addr) (n c m c':Nat) (yv zv:Value) (l:List ab) (ps:List ag) (hg:aQ rows cols l=true) (hl:l.length=n) (hr:RdC w eo (cellsOf ab.cells l)) (hn:n≤9007199254740992)
 (hp:ps.length=m) (hpr:RdC w po (cellsOf ag.cells ps)) (hm:m≤9007199254740992) :
 Calls Tryz.prog 89 #[.agg #[.int .i64 rows,.int .i64 cols,.slice eo n c,.slice po m c',yv,zv]] w fun e w'=>e = .returned (.int .i64 (dJ l ps))∧Below w.heap.size w w':=by
 have HL:=yA hl;have HR:=yA hr;have HG:=yA hg;have HP:=yA hp;have HPR:=yA hpr;clear hl hr hg hp hpr;go_enter Tryz.func89,Tryz.ntmps89
 go_wp2_with fail
 have hA:∀ cs:Array Value,cs=#[.bool false,.bool false,.bool false,.bool false,.bool false,.bool false,.bool false,.bool false,.bool false,.bool false,.bool false,.bool false,.bool false,.bool false,.bool false,.bool false,.bool false,.bool false,.bool false,.bool false,.bool false,.bool false,.bool false,.bool false,.bool false,.bool false,.bool false,.bool false,.bool false,.bool false,.bool false,.bool false,.bool false,.bool false,.bool false,.bool false,.bool false,.bool false,.bool false,.bool false,.bool false,.bool false,.bool false,.bool false,.bool false,.bool false,.bool false,.bool false,.bool false,.bool false,.bool false,.bool false,.bool false,.bool false,.bool false,.bool false,.bool false,.bool false,.bool false,.bool false,.bool false,.bool false,.bool false,.bool false]→cs.size=64∧∀ j:Nat,j<64→cs[j]?=some (.bool (!cO ps 0 j)):=fun cs h=>by
  rw [show cs=Array.replicate 64 (.bool false) from h];exact ⟨by simp,fun j hj=>by rw [Array.getElem?_replicate,if_pos hj,rP];rfl⟩
 generalize hcs:(#[.bool false,.bool false,.bool false,.bool false,.bool false,.bool false,.bool false,.bool false,.bool false,.bool false,.bool false,.bool false,.bool false,.bool false,.bool false,.bool false,.bool false,.bool false,.bool false,.bool false,.bool false,.bool false,.bool false,.bool false,.bool false,.bool false,.bool false,.bool false,.bool false,.bool false,.bool false,.bool false,.bool false,.bool false,.bool false,.bool false,.bool false,.bool false,.bool false,.bool false,.bool false,.bool false,.bool false,.bool false,.bool false,.bool false,.bool false,.bool false,.bool false,.bool false,.bool false,.bool false,.bool false,.bool false,.bool false,.bool false,.bool false,.bool false,.bool false,.bool false,.bool false,.bool false,.bool false,.bool false]:Array Value)=cs0;have HA:=yA (hA cs0 hcs.symm);clear hA hcs
 have HW:=yA (show gE w rows cols (.slice eo n c) (.slice po m c') yv zv ps 0 w.heap.size (w.heap.size+1) ((w.alloc (.cells #[.int .i64 rows,.int .i64 cols,.slice eo n c,.slice po m c',yv,zv] 164)).alloc (.cells cs0 131)) from by
  refine ⟨(Keep.alloc (fun _=>False) _ _).old (yE w _) id,⟨cs0,?_,HA.out⟩,((yH w.heap.size w).alloc (yB _) _).alloc (by simp) _⟩;have:=yE (w.alloc (.cells #[.int .i64 rows,.int .i64 cols,.slice eo n c,.slice po m c',yv,zv] 164)) (.cells cs0 131);rw [show (w.alloc (.cells #[.int .i64 rows,.int .i64 cols,.slice eo n c,.slice po m c',yv,zv] 164)).heap.size=w.heap.size+1 by simp] at this;exact this)
 clear HA;generalize (w.alloc (.cells #[.int .i64 rows,.int .i64 cols,.slice eo n c,.slice po m c',yv,zv] 164)).alloc (.cells cs0 131)=W at *;have HHE:=yA (show ∃ H0 H1,w.heap.size=H0∧w.heap.size+1=H1 from ⟨_,_,rfl,rfl⟩);obtain ⟨H0,H1,hH0,hH1⟩:=HHE.out;have HH1:=yA (show w.heap.size≤H1 by omega);have hne:¬ H0=H1:=by omega
 rw [hH1,hH0] at HW;rw [hH1,hH0];have HH:=yA hH0;clear hH0 hH1 HHE;go_loopw [4,11] (fun v i wr=>Hid (∃ k:Nat,v = .int .i64 (dX ps k)∧i = .int .i64 k∧k≤m∧(∀ j,j<k→cW l ps j=true)∧gE w rows cols (.slice eo n c) (.slice po m c') yv zv ps k H0 H1 wr)) (fun _ i _=>m - (intOf i).toNat)
 case atStart=>exact yA ⟨0,rfl,rfl,yQ _,bB,HW.out⟩
 case round=>
  obtain ⟨k,rfl,rfl,hk,hall,hrel1⟩:=hrel.out;clear hrel;obtain ⟨g0,g1,g2,g3,g4,g5⟩:=e7 hrel1.g;have hs0:H0<wr.heap.size:=yK hrel1.g;have hs1:H1<wr.heap.size:=by obtain ⟨cs,h1,_⟩:=hrel1.t;exact yK h1
  have HR1:=yA hrel1;have HALL:=yA hall;clear hrel1 hall;by_cases hlt:k<m
  · obtain ⟨x,hx⟩:∃ x,ps[k]?=some x:=⟨ps[k]'(by rw [HP.out];exact hlt),yC _⟩
    obtain ⟨b,o,rfl,_⟩:=HPR.out.place (by rw [cellsOf_length _ 2 ag.cells_length,HP.out];omega);obtain ⟨x0,x1⟩:=bi (HPR.out.keep (Keep.of_below HR1.out.below (yB _) (fun _=>False)) (fun _ _ _=>id)) hx;have HX:=yA hx;clear hx;have HBAD:=yA (fun h=>ld (gS (es:=l) HX.out h));have HEQ:=yA (gD (es:=l) HX.out);have HPREV:=yA (fM HX.out);have HWT:=yA (fun wx hb=>mU wx rows cols eo n c (.slice (some ⟨b,o,none⟩) m c') yv zv x.r x.c l HG.out HL.out (HR.out.below (Below.next HR1.out.below hb)) hn);generalize dX ps k=pr at *;by_cases h1:x.r≤pr
    · have HF:=yA (HBAD.out (by rw [HEQ.out,decide_eq_false (show ¬ pr<x.r by omega)];rfl))
      go_wp2_with fail
      go_ret
      exact ⟨by rw [HF.out];rfl,(HR1.out.one _).below⟩
    have h1':pr<x.r:=by omega
    have HE1:=yA (show cW l ps k=(decide (aJ l x.r x.c≠0) && cO ps k x.c) by rw [HEQ.out,decide_eq_true h1',Bool.true_and]);have h1d:decide (x.r≤pr)=false:=decide_eq_false h1;clear h1 HEQ;go_wp2_with fail
    have hW2:∀ W2,W2=wr.alloc (.cells #[.int .i64 x.r,.int .i64 x.c] 69)→W2.cell? ⟨wr.heap.size,0,none⟩=some (.int .i64 x.r)∧W2.cell? ⟨wr.heap.size,1,none⟩=some (.int .i64 x.c)∧Below wr.heap.size wr W2:=fun W2 h=>by
     subst h;exact ⟨by go_simp,by go_simp,(yH _ _).alloc (yB _) _⟩
    generalize wr.alloc (.cells #[.int .i64 x.r,.int .i64 x.c] 69)=W2 at *;obtain ⟨q0,q1,hbw⟩:=hW2 W2 rfl;clear hW2;have HBW:=yA hbw;have HRB:=yA (HR1.out.keep hbw);clear hbw;have hs2:wr.heap.size<W2.heap.size:=yL W2 _ q0;refine (HWT.out W2 HBW.out).mono ?_;rintro e w2 ⟨rfl,hb2⟩;have hk2:=Keep.of_below hb2 (yB _) (fun _=>False);have r0:=hk2.cell q0 id;have r1:=hk2.cell q1 id;have HR2:=yA (HRB.out.keep hb2);have HIN:=yA (cV HG.out x.r x.c);have hbx:0≤(0:Int):=by omega
    clear hb2 hk2 q0 q1 hs2 hs0 g0 g1 g2 g3 g4 g5 x0 x1;generalize wr.heap.size=H2 at *;by_cases h2:aJ l x.r x.c=0
    · have HF:=yA (HBAD.out (by rw [HE1.out,h2];rfl))
      generalize aJ l x.r x.c=wt at *;have h2d:(wt==0)=true:=by simp [h2]
      clear h2;go_wp2_with fail
      go_ret
      exact ⟨by rw [HF.out];rfl,HR2.out.below⟩
    · have HE2:=yA (show cW l ps k=cO ps k x.c by rw [HE1.out,decide_eq_true h2,Bool.true_and])
      have hin:0≤x.c∧x.c<64:=by
       rcases HIN.out with ⟨h0,_⟩ | ⟨_,_,_,_,h3,h4,_⟩
       · exact absurd h0 h2
       · have:=fJ HG.out;omega
      obtain ⟨hc1,hc2⟩:=hin;obtain ⟨t0,t1,t2⟩:=HR2.out.taken (show x.c.toNat<64 by omega);have HCC:=yA (show ((x.c.toNat:Nat):Int)=x.c by omega);rw [HCC.out] at t0;generalize aJ l x.r x.c=wt at *;have h2d:(wt==0)=false:=by simp [h2]
      clear h2;cases hfr:cO ps k x.c with
      | false=>
        have HF:=yA (HBAD.out (by rw [HE2.out,hfr]));rw [hfr] at t0;clear hfr;go_wp2_with fail
        go_ret
        exact ⟨by rw [HF.out];rfl,HR2.out.below⟩
      | true=>
        have HA:=yA (aX HALL.out (by rw [HE2.out,hfr]));rw [hfr] at t0;clear hfr;have HNX:=yA (HR2.out.next HH1.out hne HX.out (HCC.out.symm));go_wp2_with fail
        go_roundw
        case rel=>exact yA ⟨k+1,by rw [HPREV.out],by go_num,by omega,HA.out,HNX.out⟩
        case measure=>simp [intOf];omega
  · obtain rfl:m=k:=by omega
    have HF:=yA (jP (l:=l) (ps:=ps) (aU (fun j hj=>HALL.out j (by rw [HP.out] at hj;exact hj))));go_wp2_with fail
    go_ret
    exact ⟨by rw [HF.out];rfl,HR1.out.below⟩
def da:List Int→Int
 | []=>0
 | e::l=>if e≠0 then e else da l
theorem lN {l:List Int} (h:∀ e ∈ l,e=0):da l=0:=by
 induction l with
 | nil=>rfl
 | cons e l ih=>rw [da,h e (by simp),if_neg (by simp)];exact ih (fun x hx=>h x (by simp [hx]))
theorem lg:∀ {l:List Int} {k:Nat} {e:Int},l[k]?=some e→e≠0→(∀ j,j<k→l[j]?=some 0)→da l=e
 | [],k,e,h,_,_=>by simp at h
 | a::l,0,e,h,hne,_=>by
   simp only [List.getElem?_cons_zero,zL] at h;subst h;rw [da,if_pos hne]
 | a::l,k+1,e,h,hne,hz=>by
   simp only [List.getElem?_cons_succ] at h;have h0:=hz 0 (by omega);simp only [List.getElem?_cons_zero,zL] at h0;subst h0;rw [da,if_neg (by simp)];exact lg h hne (fun j hj=>by have:=hz (j+1) (by omega);simpa using this)
theorem first_any (w:World) (b n c:Nat) (cl:Value) (gs:List Nat) (es:List Int) (hgn:gs.length=n) (hen:es.length=n) (hn:n≤9007199254740992)
 (hcell:∀ (k:Nat) (g:Nat),gs[k]?=some g→w.cell? ⟨b,k,none⟩=some (.func (.func g) #[cl] #[]))
 (hent:∀ g ∈ gs,∀ args w,(callFunc g args).run Tryz.prog w = .ok (.enter g args) w)
 (hfn:∀ (k:Nat) (g:Nat) (e:Int),gs[k]?=some g→es[k]?=some e→(∀ j:Nat,j<k→es[j]?=some 0)→∀ wx,Below w.heap.size w wx→Calls Tryz.prog g #[cl] wx fun r w'=>r = .returned (.int .i64 e)∧Below wx.heap.size wx w') :
 Calls Tryz.prog 87 #[.slice (some ⟨b,0,none⟩) n c] w fun e w'=>e = .returned (.int .i64 (da es))∧Below w.heap.size w w':=by
 have HGN:=yA hgn;have HEN:=yA hen;have HC:=yA hcell;have HF:=yA hfn;have HT:=yA hent;clear hgn hen hcell hfn hent;go_enter Tryz.func87,Tryz.ntmps87
 go_wp2_with fail
 go_loopw [8] (fun i wr=>Hid (∃ k:Nat,i = .int .i64 k∧k≤n∧(∀ j:Nat,j<k→es[j]?=some 0)∧Below w.heap.size w wr)) (fun i _=>n - (intOf i).toNat)
 case atStart=>exact yA ⟨0,rfl,yQ _,fun j hj=>absurd hj (zz j),yH _ _⟩
 case round=>
  obtain ⟨k,rfl,hk,hall,hbel⟩:=hrel.out;clear hrel;have HALL:=yA hall;have HB:=yA hbel;clear hall hbel;by_cases hlt:k<n
  · obtain ⟨g,hg⟩:∃ g,gs[k]?=some g:=⟨gs[k]'(by rw [HGN.out];exact hlt),yC _⟩
    obtain ⟨e,he⟩:∃ e,es[k]?=some e:=⟨es[k]'(by rw [HEN.out];exact hlt),yC _⟩;have hc:=(Keep.of_below HB.out (yB _) (fun _=>False)).cell (HC.out k g hg) id;have HCALL:=yA (HF.out k g e hg he HALL.out wr HB.out);have HE:=yA he;have hrun:=HT.out g (yP hg);clear hg he;go_wp2_with fail
    refine HCALL.out.mono ?_;rintro r w2 ⟨rfl,hb2⟩;have HB2:=yA (Below.next HB.out hb2);clear hb2 hc hrun;by_cases h0:e=0
    · have HZ:=yA (show ∀ j:Nat,j<k+1→es[j]?=some 0 from fun j hj=>by
       rcases yW.1 hj with hj | rfl
       · exact HALL.out j hj
       · rw [HE.out,h0])
      have h1:(e==0)=true:=by simp [h0]
      have h2:(e != 0)=false:=by simp [h0]
      clear h0;go_wp2_with fail
      go_roundw
      case rel=>exact yA ⟨k+1,by go_num,by omega,HZ.out,HB2.out⟩
      case measure=>simp [intOf];omega
    · have HZ:=yA (lg HE.out h0 HALL.out)
      have h1:(e==0)=false:=by simp [h0]
      have h2:(e != 0)=true:=by simp [h0]
      clear h0;go_wp2_with fail
      go_ret
      exact ⟨by rw [HZ.out];rfl,HB2.out⟩
  · obtain rfl:n=k:=by omega
    have HZ:=yA (lN (l:=es) (fun e he=>by
     obtain ⟨j,hj,rfl⟩:=List.getElem_of_mem he;have h1:=HALL.out j (by rw [HEN.out] at hj;exact hj);rw [yC hj] at h1;exact Option.some.inj h1))
    go_wp2_with fail
    go_ret
    exact ⟨by rw [HZ.out];rfl,HB.out⟩
theorem lO (args:Array Value) (w:World):(callFunc 88 args).run Tryz.prog w = .ok (.enter 88 args) w:=by kernel_rfl
theorem lP (args:Array Value) (w:World):(callFunc 89 args).run Tryz.prog w = .ok (.enter 89 args) w:=by kernel_rfl
theorem nK (args:Array Value) (w:World):(callFunc 90 args).run Tryz.prog w = .ok (.enter 90 args) w:=by kernel_rfl
theorem rV (args:Array Value) (w:World):(callFunc 91 args).run Tryz.prog w = .ok (.enter 91 args) w:=by kernel_rfl
theorem ue (args:Array Value) (w:World):(callFunc 92 args).run Tryz.prog w = .ok (.enter 92 args) w:=by kernel_rfl
structure eh (w:World) (rows cols:Int) (ev pv yv zv:Value) (H0:Nat) (wr:World):Prop where
 g:wr.heap[H0]?=some (.cells #[.int .i64 rows,.int .i64 cols,ev,pv,yv,zv] 164 (0,0))
 below:Below w.heap.size w wr
theorem eh.keep {w:World} {rows cols:Int} {ev pv yv zv:Value} {H0:Nat} {wr w':World} (h:eh w rows cols ev pv yv zv H0 wr) (hb:Below wr.heap.size wr w'):eh w rows cols ev pv yv zv H0 w':=
 ⟨(Keep.of_below hb (yB _) (fun _=>False)).old h.g id,Below.next h.below hb⟩
theorem eh.one {w:World} {rows cols:Int} {ev pv yv zv:Value} {H0:Nat} {wr:World} (h:eh w rows cols ev pv yv zv H0 wr) (o:Obj):eh w rows cols ev pv yv zv H0 (wr.alloc o):=
 h.keep ((yH _ _).alloc (yB _) _)
theorem eh.drewN {w:World} {rows cols:Int} {ev pv yv zv:Value} {H0:Nat} {wr:World} (h:eh w rows cols ev pv yv zv H0 wr) (n:Nat):eh w rows cols ev pv yv zv H0 (wr.drewN n):=⟨h.g,below_drewN h.below n⟩
theorem eh.begin (w:World) (rows cols:Int) (ev pv yv zv:Value):eh w rows cols ev pv yv zv w.heap.size (w.alloc (.cells #[.int .i64 rows,.int .i64 cols,ev,pv,yv,zv] 164)):=
 ⟨yE w _,(yH w.heap.size w).alloc (yB _) _⟩
theorem mX (w:World) (rows cols:Int) (eo:Option Addr) (n c:Nat) (pv yv zv:Value) (l:List ab) (hl:l.length=n) (hr:RdC w eo (cellsOf ab.cells l)) (hn:n≤9007199254740992) :
 Calls Tryz.prog 88 #[.agg #[.int .i64 rows,.int .i64 cols,.slice eo n c,pv,yv,zv]] w fun e w'=>e = .returned (.int .i64 (aY rows cols l))∧Below w.heap.size w w':=by
 have HW:=yA (eh.begin w rows cols (.slice eo n c) pv yv zv);have HC:=yA (fun wx hb=>mR wx rows cols eo n c l hl (hr.below hb) hn);clear hl hr;go_enter Tryz.func88,Tryz.ntmps88
 go_wp2_with fail
 refine (HC.out _ HW.out.below).mono ?_;rintro e w1 ⟨rfl,hb1⟩;have HB:=yA (Below.next HW.out.below hb1);clear hb1;go_wp2_with fail
 go_ret
 exact ⟨rfl,HB.out⟩
def cd (rows cols:Int) (n m:Nat):Int:=if (n:Int)=rows∧(m:Int)=cols then 0 else 1
theorem ph (w:World) (rows cols:Int) (yo zo:Option Addr) (n m c c':Nat) (ev pv:Value) :
 Calls Tryz.prog 90 #[.agg #[.int .i64 rows,.int .i64 cols,ev,pv,.slice yo n c,.slice zo m c']] w fun e w'=>e = .returned (.int .i64 (cd rows cols n m))∧Below w.heap.size w w':=by
 have HW:=yA (eh.begin w rows cols ev pv (.slice yo n c) (.slice zo m c'));by_cases h1:(n:Int)=rows
 · by_cases h2:(m:Int)=cols
   · have HE:=yA (show cd rows cols n m=0 from if_pos ⟨h1,h2⟩)
     have b1:((n:Int) != rows)=false:=by simp [h1]
     have b2:((m:Int) != cols)=false:=by simp [h2]
     clear h1 h2;go_enter Tryz.func90,Tryz.ntmps90
     go_wp2_with fail
     go_ret
     exact ⟨by rw [HE.out];rfl,HW.out.below⟩
   · have HE:=yA (show cd rows cols n m=1 from if_neg (fun h=>h2 h.2))
     have b1:((n:Int) != rows)=false:=by simp [h1]
     have b2:((m:Int) != cols)=true:=by simp [h2]
     clear h1 h2;go_enter Tryz.func90,Tryz.ntmps90
     go_wp2_with fail
     go_ret
     exact ⟨by rw [HE.out];rfl,HW.out.below⟩
 · have HE:=yA (show cd rows cols n m=1 from if_neg (fun h=>h1 h.1))
   have b1:((n:Int) != rows)=true:=by simp [h1]
   clear h1;go_enter Tryz.func90,Tryz.ntmps90
   go_wp2_with fail
   go_ret
   exact ⟨by rw [HE.out];rfl,HW.out.below⟩
def fO (es:List ab) (ys zs:List Int):Int:=if dv es ys zs then 0 else 181
theorem gW {l:List Int} {k:Nat} {x:Int} (hx:l[k]?=some x) (h:x<0):bb l=false:=by
 unfold bb
 rw [List.all_eq_false];exact ⟨x,yP hx,by simpa using h⟩
theorem eP {l:List Int} (h:∀ (j:Nat) (x:Int),l[j]?=some x→0≤x):bb l=true:=by
 unfold bb
 rw [zO];intro x hx;obtain ⟨j,hj,rfl⟩:=List.getElem_of_mem hx;exact decide_eq_true (h j _ (yC hj))
theorem iW {l:List Int} (h:bb l=true) {j:Nat} {x:Int} (hx:l[j]?=some x):0≤x:=of_decide_eq_true (zO.1 h x (yP hx))
theorem xK {es:List ab} {ys zs:List Int} (h:bb ys=false):fO es ys zs=181:=by simp [fO,dv,h]
theorem xL {es:List ab} {ys zs:List Int} (h:bb zs=false):fO es ys zs=181:=by simp [fO,dv,h]
theorem xM {es:List ab} {ys zs:List Int} {k:Nat} (hk:k<es.length) (h:cy es ys zs k=false):fO es ys zs=181:=by
 have:c6 es.length (cy es ys zs)=false:=bE hk h;simp [fO,dv,this]
theorem ug {es:List ab} {ys zs:List Int} (hy:bb ys=true) (hz:bb zs=true) (h:∀ j,j<es.length→cy es ys zs j=true):fO es ys zs=0:=by
 have:c6 es.length (cy es ys zs)=true:=aU h;simp [fO,dv,this,hy,hz]
theorem mY {es:List ab} {ys zs:List Int} {k:Nat} {x:ab} {a b:Int} (hx:es[k]?=some x) (ha:ys[x.r.toNat]?=some a) (hb:zs[x.c.toNat]?=some b):cy es ys zs k=decide (x.w - a≤b):=by
 simp [cy,hx,ha,hb,List.getD]
theorem uh (w:World) (rows cols:Int) (eo yo zo:Option Addr) (n c m c' k c'':Nat) (pv:Value) (l:List ab) (ys zs:List Int) (hg:aQ rows cols l=true) (hl:l.length=n) (hr:RdC w eo (cellsOf ab.cells l)) (hn:n≤9007199254740992)
 (hy:ys.length=m) (hyr:RdC w yo (cellsOf aP ys)) (hm:(m:Int)=rows) (hz:zs.length=k) (hzr:RdC w zo (cellsOf aP zs)) (hk:(k:Int)=cols) (hyo:∀ x ∈ ys,ar x) :
 Calls Tryz.prog 91 #[.agg #[.int .i64 rows,.int .i64 cols,.slice eo n c,pv,.slice yo m c',.slice zo k c'']] w fun e w'=>e = .returned (.int .i64 (fO l ys zs))∧Below w.heap.size w w':=by
 have hhd:=fJ hg;have hm':m≤64:=by omega
 have hk':k≤64:=by omega
 have HMR:=yA hm;have HKC:=yA hk;have HL:=yA hl;have HR:=yA hr;have HG:=yA hg;have HY:=yA hy;have HYR:=yA hyr;have HZ:=yA hz;have HZR:=yA hzr;have HYO:=yA hyo;clear hl hr hg hy hyr hz hzr hm hk hhd hyo;have i0:∀ w,(Instr.index 205 (.agg #[.slice yo m c',.slice zo k c'']) (.int .i64 0)).run Tryz.prog w = .ok (.slice yo m c') w:=fun _=>by kernel_rfl
 have i1:∀ w,(Instr.index 205 (.agg #[.slice yo m c',.slice zo k c'']) (.int .i64 1)).run Tryz.prog w = .ok (.slice zo k c'') w:=fun _=>by kernel_rfl
 have HW:=yA (eh.begin w rows cols (.slice eo n c) pv (.slice yo m c') (.slice zo k c''));go_enter Tryz.func91,Tryz.ntmps91
 go_wp2_with fail
 generalize w.alloc (.cells #[.int .i64 rows,.int .i64 cols,.slice eo n c,pv,.slice yo m c',.slice zo k c''] 164)=W at *;have HHE:=yA (show ∃ H0,w.heap.size=H0 from ⟨_,rfl⟩);obtain ⟨H0,hH0⟩:=HHE.out;rw [hH0] at HW ⊢;have HH:=yA hH0;clear hH0 HHE;go_loop [16] (fun i=>Hid (∃ p:Nat,i = .int .i64 p∧p≤2∧(1≤p→bb ys=true)∧(2≤p→bb zs=true))) (fun i=>2 - (intOf i).toNat)
 case atStart=>exact yA ⟨0,rfl,by omega,fun h=>absurd h (by omega),fun h=>absurd h (by omega)⟩
 case round=>
  obtain ⟨p,rfl,hp,hya,hza⟩:=hrel.out;clear hrel;have HYA:=yA hya;have HZA:=yA hza;clear hya hza;have hp3:p=0∨p=1∨p=2:=by omega
  rcases hp3 with rfl | rfl | rfl
  · go_wp2_with fail
    go_loop [21] (fun i=>Hid (∃ j:Nat,i = .int .i64 j∧j≤m∧∀ (q:Nat) (x:Int),q<j→ys[q]?=some x→0≤x)) (fun i=>m - (intOf i).toNat)
    case atStart=>exact yA ⟨0,rfl,yQ _,fun q x h=>absurd h (zz q)⟩
    case round=>
     obtain ⟨j,rfl,hj,hall⟩:=hrel.out;clear hrel;have HALL:=yA hall;clear hall;by_cases hlt:j<m
     · obtain ⟨x,hx⟩:∃ x,ys[j]?=some x:=⟨ys[j]'(by rw [HY.out];exact hlt),yC _⟩
       obtain ⟨b,o,rfl,_⟩:=HYR.out.place (by rw [cellsOf_length _ 1 aT,HY.out];omega);have hc:=dV (HYR.out.keep (Keep.of_below HW.out.below (yB _) (fun _=>False)) (fun _ _ _=>id)) hx;have HX:=yA hx;clear hx;by_cases h0:x<0
       · have HE:=yA (xK (es:=l) (ys:=ys) (zs:=zs) (gW HX.out h0))
         go_wp2_with fail
         go_ret
         exact ⟨by rw [HE.out];rfl,HW.out.below⟩
       · have h0':0≤x:=by omega
         have HA:=yA (show ∀ (q:Nat) (y:Int),q<j+1→ys[q]?=some y→0≤y from fun q y hq hy=>by
          rcases yW.1 hq with hq | rfl
          · exact HALL.out q y hq hy
          · rw [HX.out] at hy;cases hy;exact h0')
         clear h0;go_wp2_with fail
         go_round
         case rel=>exact yA ⟨j+1,by go_num,by omega,HA.out⟩
         case measure=>simp [intOf];omega
     · obtain rfl:m=j:=by omega
       have HA:=yA (eP (l:=ys) (fun q x hx=>HALL.out q x (by rw [←HY.out];exact (yD.1 hx).1) hx));go_wp2_with fail
       go_round
       case rel=>exact yA ⟨1,by go_num,by omega,fun _=>HA.out,fun h=>absurd h (by omega)⟩
       case measure=>simp [intOf]
  · go_wp2_with fail
    go_loop [21] (fun i=>Hid (∃ j:Nat,i = .int .i64 j∧j≤k∧∀ (q:Nat) (x:Int),q<j→zs[q]?=some x→0≤x)) (fun i=>k - (intOf i).toNat)
    case atStart=>exact yA ⟨0,rfl,yQ _,fun q x h=>absurd h (zz q)⟩
    case round=>
     obtain ⟨j,rfl,hj,hall⟩:=hrel.out;clear hrel;have HALL:=yA hall;clear hall;by_cases hlt:j<k
     · obtain ⟨x,hx⟩:∃ x,zs[j]?=some x:=⟨zs[j]'(by rw [HZ.out];exact hlt),yC _⟩
       obtain ⟨b,o,rfl,_⟩:=HZR.out.place (by rw [cellsOf_length _ 1 aT,HZ.out];omega);have hc:=dV (HZR.out.keep (Keep.of_below HW.out.below (yB _) (fun _=>False)) (fun _ _ _=>id)) hx;have HX:=yA hx;clear hx;by_cases h0:x<0
       · have HE:=yA (xL (es:=l) (ys:=ys) (zs:=zs) (gW HX.out h0))
         go_wp2_with fail
         go_ret
         exact ⟨by rw [HE.out];rfl,HW.out.below⟩
       · have h0':0≤x:=by omega
         have HA:=yA (show ∀ (q:Nat) (y:Int),q<j+1→zs[q]?=some y→0≤y from fun q y hq hy=>by
          rcases yW.1 hq with hq | rfl
          · exact HALL.out q y hq hy
          · rw [HX.out] at hy;cases hy;exact h0')
         clear h0;go_wp2_with fail
         go_round
         case rel=>exact yA ⟨j+1,by go_num,by omega,HA.out⟩
         case measure=>simp [intOf];omega
     · obtain rfl:k=j:=by omega
       have HA:=yA (eP (l:=zs) (fun q x hx=>HALL.out q x (by rw [←HZ.out];exact (yD.1 hx).1) hx));go_wp2_with fail
       go_round
       case rel=>exact yA ⟨2,by go_num,by omega,fun _=>HYA.out (yB _),fun _=>HA.out⟩
       case measure=>simp [intOf]
  · have HYN:=yA (HYA.out (by omega))
    have HZN:=yA (HZA.out (by omega));obtain ⟨g0,g1,g2,g3,g4,g5⟩:=e7 HW.out.g;go_wp2_with fail
    go_loopw [33] (fun i wr=>Hid (∃ j:Nat,i = .int .i64 j∧j≤n∧(∀ q,q<j→cy l ys zs q=true)∧eh w rows cols (.slice eo n c) pv (.slice yo m c') (.slice zo k c'') H0 wr)) (fun i _=>n - (intOf i).toNat)
    case atStart=>exact yA ⟨0,rfl,yQ _,bB,HW.out⟩
    case round=>
     obtain ⟨j,rfl,hj,hall,hrel1⟩:=hrel.out;clear hrel g0 g1 g2 g3 g4 g5;obtain ⟨g0,g1,g2,g3,g4,g5⟩:=e7 hrel1.g;have hs0:H0<wr.heap.size:=yK hrel1.g;have HR1:=yA hrel1;have HALL:=yA hall;clear hrel1 hall;by_cases hlt:j<n
     · obtain ⟨x,hx⟩:∃ x,l[j]?=some x:=⟨l[j]'(by rw [HL.out];exact hlt),yC _⟩
       have hin:=gC HG.out hx;have hr1:x.r.toNat<m:=by have:=HMR.out;omega
       have hr2:x.c.toNat<k:=by have:=HKC.out;omega
       obtain ⟨y,hyx⟩:∃ y,ys[x.r.toNat]?=some y:=⟨ys[x.r.toNat]'(by rw [HY.out];exact hr1),yC _⟩;obtain ⟨z,hzx⟩:∃ z,zs[x.c.toNat]?=some z:=⟨zs[x.c.toNat]'(by rw [HZ.out];exact hr2),yC _⟩;obtain ⟨b,o,rfl,_⟩:=HR.out.place (by rw [cellsOf_length _ 3 ab.cells_length,HL.out];omega);obtain ⟨b1,o1,rfl,_⟩:=HYR.out.place (by rw [cellsOf_length _ 1 aT,HY.out];omega);obtain ⟨b2,o2,rfl,_⟩:=HZR.out.place (by rw [cellsOf_length _ 1 aT,HZ.out];omega);have hkb:=Keep.of_below HR1.out.below (yB _) (fun _=>False);obtain ⟨x0,x1,x2⟩:=cH (HR.out.keep hkb (fun _ _ _=>id)) hx;have yc:=dV (HYR.out.keep hkb (fun _ _ _=>id)) hyx;have zc:=dV (HZR.out.keep hkb (fun _ _ _=>id)) hzx;have hb0:b<wr.heap.size:=yL wr _ x0;have hb1:b1<wr.heap.size:=yL wr _ yc;have hb2:b2<wr.heap.size:=yL wr _ zc;have hyb:=HYO.out y (yP hyx);obtain ⟨hyb1,hyb2⟩:=hyb;have hyn:=iW HYN.out hyx;obtain ⟨e1,e2,e3,e4,e5,e6⟩:=hin;have HX:=yA hx;have HEQ:=yA (mY hx hyx hzx);clear hx hyx hzx hkb;by_cases h0:z<x.w - y
       · have HE:=yA (xM (es:=l) (ys:=ys) (zs:=zs) (by rw [HL.out];exact hlt) (show cy l ys zs j=false by rw [HEQ.out];exact decide_eq_false (by omega)))
         go_wp2_with fail
         go_quiet (fail)
         go_wp2_with fail
         go_ret
         exact ⟨by rw [HE.out];rfl,below_drewN (HR1.out.one _).below _⟩
       · have h0':x.w - y≤z:=by omega
         have HE:=yA (show cy l ys zs j=true by rw [HEQ.out];exact decide_eq_true h0');clear h0;go_wp2_with fail
         go_quiet (fail)
         have HN:=yA (HR1.out.one (.cells #[.int .i64 x.r,.int .i64 x.c,.int .i64 x.w] 114));go_wp2_with fail
         go_roundw
         case rel=>exact yA ⟨j+1,by go_num,by omega,aX HALL.out HE.out,HN.out.drewN _⟩
         case measure=>simp [intOf];omega
     · obtain rfl:n=j:=by omega
       have HE:=yA (ug (es:=l) HYN.out HZN.out (fun q hq=>HALL.out q (by rw [HL.out] at hq;exact hq)));go_wp2_with fail
       go_ret
       exact ⟨by rw [HE.out];rfl,HR1.out.below⟩
def sumV (o:Option Int):Value:=match o with
 | none=>.tuple #[.int .i64 0,.bool false]
 | some n=>.tuple #[.int .i64 n,.bool true]
theorem ui {l:List Int} {j:Nat} {x:Int} (hx:l[j]?=some x):l.take (j+1)=l.take j++[x]:=by
 have hj:=(yD.1 hx).1;rw [zk hj,(yD.1 hx).2]
theorem nL {l m:List Int}:bb (l++m)=(bb l && bb m):=by simp [bb]
theorem qe {l:List Int} (h:bb l=true) (j:Nat):bb (l.take j)=true:=
 eP (fun i x hx=>iW h (j:=i) (by
  rw [List.getElem?_take] at hx;split at hx
  · exact hx
  · cases hx))
theorem kv {pre l:List Int} (hp:bb pre=true) (hl:bb l=true) {j:Nat} {x s:Int} (hx:l[j]?=some x) (hs:sumF 0 (pre++l.take j)=some s):0≤s∧s≤4611686018427387903∧0≤x∧
 (4611686018427387903 - s<x→∀ post,sumF 0 (pre++l++post)=none)∧(x≤4611686018427387903 - s→sumF 0 (pre++l.take (j+1))=some (s+x)):=by
 have h1:=xI (pre++l.take j) 0 (by omega) (by omega) (by rw [nL,hp,qe hl];rfl) s hs;have hj:=(yD.1 hx).1
 have hn:sumF 0 (pre++l.take (j+1))=if 4611686018427387903 - s<x then none else some (s+x):=by
  rw [ui hx,←zq,ud,hs];rfl
 refine ⟨h1.1,h1.2,iW hl hx,fun h post=>?_,fun h=>by rw [hn,if_neg (by omega)]⟩;rw [if_pos h] at hn
 have e:pre++l++post=(pre++l.take (j+1))++(l.drop (j+1)++post):=by
  rw [zq,zq,←zq (l.take (j+1)),List.take_append_drop]
 rw [e];exact kZ hn
theorem vH (w:World) (rows cols:Int) (yo zo:Option Addr) (m c' k c'':Nat) (ev pv:Value) (ys zs:List Int) (hm:m≤9007199254740992) (hk:k≤9007199254740992)
 (hy:ys.length=m) (hyr:RdC w yo (cellsOf aP ys)) (hz:zs.length=k) (hzr:RdC w zo (cellsOf aP zs)) (hyn:bb ys=true) (hzn:bb zs=true) :
 Calls Tryz.prog 132 #[.agg #[.int .i64 rows,.int .i64 cols,ev,pv,.slice yo m c',.slice zo k c'']] w fun e w'=>e = .returned (sumV (cY ys zs))∧Below w.heap.size w w':=by
 have HY:=yA hy;have HYR:=yA hyr;have HZ:=yA hz;have HZR:=yA hzr;have HYN:=yA hyn;have HZN:=yA hzn;clear hy hyr hz hzr hyn hzn;have i0:∀ w,(Instr.index 205 (.agg #[.slice yo m c',.slice zo k c'']) (.int .i64 0)).run Tryz.prog w = .ok (.slice yo m c') w:=fun _=>by kernel_rfl
 have i1:∀ w,(Instr.index 205 (.agg #[.slice yo m c',.slice zo k c'']) (.int .i64 1)).run Tryz.prog w = .ok (.slice zo k c'') w:=fun _=>by kernel_rfl
 have HW:=yA (eh.begin w rows cols ev pv (.slice yo m c') (.slice zo k c''));go_enter Tryz.func132,Tryz.ntmps132
 go_wp2_with fail
 generalize w.alloc (.cells #[.int .i64 rows,.int .i64 cols,ev,pv,.slice yo m c',.slice zo k c''] 164)=W at *;go_loop [4,16] (fun a i=>Hid (∃ (p:Nat) (s:Int),a = .int .i64 s∧i = .int .i64 p∧((p=0∧sumF 0 []=some s)∨(p=1∧sumF 0 ys=some s)∨(p=2∧sumF 0 (ys++zs)=some s)))) (fun _ i=>2 - (intOf i).toNat)
 case atStart=>exact yA ⟨0,0,rfl,rfl,.inl ⟨rfl,rfl⟩⟩
 case round=>
  obtain ⟨p,s,rfl,rfl,hp⟩:=hrel.out;clear hrel;rcases hp with ⟨rfl,hs⟩ | ⟨rfl,hs⟩ | ⟨rfl,hs⟩
  · have HS0:=yA hs
    clear hs;go_wp2_with fail
    go_loop [4,21] (fun a i=>Hid (∃ (j:Nat) (t:Int),a = .int .i64 t∧i = .int .i64 j∧j≤m∧sumF 0 (([]:List Int)++ys.take j)=some t)) (fun _ i=>m - (intOf i).toNat)
    case atStart=>exact yA ⟨0,s,rfl,rfl,yQ _,by rw [List.take_zero,zY];exact HS0.out⟩
    case round=>
     obtain ⟨j,t,rfl,rfl,hj,ht⟩:=hrel.out;clear hrel;have HT:=yA ht;clear ht;by_cases hlt:j<m
     · obtain ⟨x,hx⟩:∃ x,ys[j]?=some x:=⟨ys[j]'(by rw [HY.out];exact hlt),yC _⟩
       obtain ⟨b,o,rfl,_⟩:=HYR.out.place (by rw [cellsOf_length _ 1 aT,HY.out];omega);have hc:=dV (HYR.out.keep (Keep.of_below HW.out.below (yB _) (fun _=>False)) (fun _ _ _=>id)) hx;obtain ⟨s1,s2,s3,s4,s5⟩:=kv (pre:=([]:List Int)) rfl HYN.out hx HT.out;have S4:=yA s4;have S5:=yA s5;clear hx s4 s5;by_cases h0:4611686018427387903 - t<x
       · have HE:=yA (show cY ys zs=none by have:=S4.out h0 zs;simpa [cY] using this)
         go_wp2_with fail
         go_ret2
         exact ⟨by rw [HE.out];rfl,HW.out.below⟩
       · have h0':x≤4611686018427387903 - t:=by omega
         have HA:=yA (S5.out h0');clear h0;go_wp2_with fail
         go_round
         case rel=>exact yA ⟨j+1,t+x,by first | rfl | go_num,by go_num,by omega,HA.out⟩
         case measure=>simp [intOf];omega
     · obtain rfl:m=j:=by omega
       have HA:=yA (show sumF 0 (ys)=some t by
        have:=HT.out;rw [zh (by rw [HY.out];exact yB _)] at this
        simpa using this)
       go_wp2_with fail
       go_round
       case rel=>exact yA ⟨1,t,rfl,by go_num,.inr <| .inl ⟨rfl,HA.out⟩⟩
       case measure=>simp [intOf]
  · have HS0:=yA hs
    clear hs;go_wp2_with fail
    go_loop [4,21] (fun a i=>Hid (∃ (j:Nat) (t:Int),a = .int .i64 t∧i = .int .i64 j∧j≤k∧sumF 0 (ys++zs.take j)=some t)) (fun _ i=>k - (intOf i).toNat)
    case atStart=>exact yA ⟨0,s,rfl,rfl,yQ _,by rw [List.take_zero,zY];exact HS0.out⟩
    case round=>
     obtain ⟨j,t,rfl,rfl,hj,ht⟩:=hrel.out;clear hrel;have HT:=yA ht;clear ht;by_cases hlt:j<k
     · obtain ⟨x,hx⟩:∃ x,zs[j]?=some x:=⟨zs[j]'(by rw [HZ.out];exact hlt),yC _⟩
       obtain ⟨b,o,rfl,_⟩:=HZR.out.place (by rw [cellsOf_length _ 1 aT,HZ.out];omega);have hc:=dV (HZR.out.keep (Keep.of_below HW.out.below (yB _) (fun _=>False)) (fun _ _ _=>id)) hx;obtain ⟨s1,s2,s3,s4,s5⟩:=kv (pre:=ys) HYN.out HZN.out hx HT.out;have S4:=yA s4;have S5:=yA s5;clear hx s4 s5;by_cases h0:4611686018427387903 - t<x
       · have HE:=yA (show cY ys zs=none by have:=S4.out h0 [];simpa [cY] using this)
         go_wp2_with fail
         go_ret2
         exact ⟨by rw [HE.out];rfl,HW.out.below⟩
       · have h0':x≤4611686018427387903 - t:=by omega
         have HA:=yA (S5.out h0');clear h0;go_wp2_with fail
         go_round
         case rel=>exact yA ⟨j+1,t+x,by first | rfl | go_num,by go_num,by omega,HA.out⟩
         case measure=>simp [intOf];omega
     · obtain rfl:k=j:=by omega
       have HA:=yA (show sumF 0 (ys++zs)=some t by
        have:=HT.out;rw [zh (by rw [HZ.out];exact yB _)] at this
        simpa using this)
       go_wp2_with fail
       go_round
       case rel=>exact yA ⟨2,t,rfl,by go_num,.inr <| .inr ⟨rfl,HA.out⟩⟩
       case measure=>simp [intOf]
  · have HE:=yA (show cY ys zs=some s from hs)
    clear hs;go_wp2_with fail
    go_ret2
    exact ⟨by rw [HE.out];rfl,HW.out.below⟩
def rW (es:List ab) (ps:List ag) (ys zs:List Int):Int:=if gapB es ps ys zs then 0 else 182
theorem vI (w:World) (rows cols:Int) (eo po yo zo:Option Addr) (n c q d m c' k c'':Nat) (l:List ab) (ps:List ag) (ys zs:List Int) (hg:aQ rows cols l=true) (hl:l.length=n) (hr:RdC w eo (cellsOf ab.cells l)) (hn:n≤9007199254740992)
 (hp:ps.length=q) (hpr:RdC w po (cellsOf ag.cells ps)) (hq:q≤1048576) (hm:m≤9007199254740992) (hk:k≤9007199254740992)
 (hy:ys.length=m) (hyr:RdC w yo (cellsOf aP ys)) (hz:zs.length=k) (hzr:RdC w zo (cellsOf aP zs)) (hyn:bb ys=true) (hzn:bb zs=true) :
 Calls Tryz.prog 92 #[.agg #[.int .i64 rows,.int .i64 cols,.slice eo n c,.slice po q d,.slice yo m c',.slice zo k c'']] w fun e w'=>e = .returned (.int .i64 (rW l ps ys zs))∧Below w.heap.size w w':=by
 have HG:=yA hg;have HP:=yA hp;have HPR:=yA hpr;have HWT:=yA (fun wx hb r kk=>mU wx rows cols eo n c (.slice po q d) (.slice yo m c') (.slice zo k c'') r kk l hg hl (hr.below hb) hn);have HSU:=yA (fun wx hb=>vH wx rows cols yo zo m c' k c'' (.slice eo n c) (.slice po q d) ys zs hm hk hy (hyr.below hb) hz (hzr.below hb) hyn hzn);clear hl hr hg hp hpr hy hyr hz hzr hyn hzn hm hk;have HW:=yA (eh.begin w rows cols (.slice eo n c) (.slice po q d) (.slice yo m c') (.slice zo k c''));go_enter Tryz.func92,Tryz.ntmps92
 go_wp2_with fail
 generalize w.alloc (.cells #[.int .i64 rows,.int .i64 cols,.slice eo n c,.slice po q d,.slice yo m c',.slice zo k c''] 164)=W at *;have HHE:=yA (show ∃ H0,w.heap.size=H0 from ⟨_,rfl⟩);obtain ⟨H0,hH0⟩:=HHE.out;rw [hH0] at HW;rw [hH0];have HH:=yA hH0;clear hH0 HHE;go_loopw [3,12] (fun a i wr=>Hid (∃ j:Nat,a = .int .i64 (bG l (ps.take j))∧i = .int .i64 j∧j≤q∧eh w rows cols (.slice eo n c) (.slice po q d) (.slice yo m c') (.slice zo k c'') H0 wr)) (fun _ i _=>q - (intOf i).toNat)
 case atStart=>exact yA ⟨0,rfl,rfl,yQ _,HW.out⟩
 case round=>
  obtain ⟨j,rfl,rfl,hj,hrel1⟩:=hrel.out;clear hrel;obtain ⟨g0,g1,g2,g3,g4,g5⟩:=e7 hrel1.g;have hs0:H0<wr.heap.size:=yK hrel1.g;have HR1:=yA hrel1;clear hrel1;have hwb:=ol HG.out (ps.take j);have hlen:(ps.take j).length≤1048576:=by rw [yY];omega
  have hw1:=hwb.1;have hw2:bG l (ps.take j)≤1152923703634296211:=by have:=hwb.2;omega
  clear hwb hlen;by_cases hlt:j<q
  · obtain ⟨x,hx⟩:∃ x,ps[j]?=some x:=⟨ps[j]'(by rw [HP.out];exact hlt),yC _⟩
    obtain ⟨b,o,rfl,_⟩:=HPR.out.place (by rw [cellsOf_length _ 2 ag.cells_length,HP.out];omega);obtain ⟨x0,x1⟩:=bi (HPR.out.keep (Keep.of_below HR1.out.below (yB _) (fun _=>False)) (fun _ _ _=>id)) hx;have hb0:b<wr.heap.size:=yL wr _ x0
    have HNX:=yA (show bG l (ps.take (j+1))=bG l (ps.take j)+aJ l x.r x.c by
     rw [zk (yD.1 hx).1,(yD.1 hx).2,lI])
    obtain ⟨v1,v2⟩:=jL HG.out x.r x.c;clear hx;generalize bG l (ps.take j)=A at *;go_wp2_with fail
    have HR2:=yA (HR1.out.one (.cells #[.int .i64 x.r,.int .i64 x.c] 69));generalize wr.alloc (.cells #[.int .i64 x.r,.int .i64 x.c] 69)=W2 at *;refine (HWT.out W2 HR2.out.below x.r x.c).mono ?_;rintro e w2 ⟨rfl,hb2⟩;have HR3:=yA (HR2.out.keep hb2);clear hb2 g0 g1 g2 g3 g4 g5 hs0 x0 x1 hb0;generalize aJ l x.r x.c=wt at *;go_wp2_with fail
    go_roundw
    case rel=>exact yA ⟨j+1,by rw [HNX.out],by go_num,by omega,HR3.out⟩
    case measure=>simp [intOf];omega
  · obtain rfl:q=j:=by omega
    have HFULL:=yA (show bG l (ps.take q)=bG l ps by rw [zh (by rw [HP.out];exact yB _)]);rw [HFULL.out] at hw1 hw2 ⊢;clear HFULL;have HGE:=yA (show rW l ps ys zs=if cY ys zs=some (bG l ps) then 0 else 182 by unfold rW gapB;by_cases h:cY ys zs=some (bG l ps) <;> simp [h]);generalize bG l ps=A at *;go_wp2_with fail
    refine (HSU.out wr HR1.out.below).mono ?_;rintro e w2 ⟨rfl,hb2⟩;have HB2:=yA (Below.next HR1.out.below hb2);clear hb2 g0 g1 g2 g3 g4 g5 hs0 HSU;cases hsum:cY ys zs with
    | none=>
      rw [hsum] at HGE;clear hsum;have HE:=yA (HGE.out.trans (if_neg (by simp)));simp only [sumV];go_wp2_with fail
      go_ret
      exact ⟨by rw [HE.out];rfl,HB2.out⟩
    | some s=>
      rw [hsum] at HGE;clear hsum;simp only [sumV];by_cases h0:s=A
      · have HE:=yA (HGE.out.trans (if_pos (by rw [h0])))
        have h1:(s != A)=false:=by simp [h0]
        clear h0;go_wp2_with fail
        go_ret
        exact ⟨by rw [HE.out];rfl,HB2.out⟩
      · have HE:=yA (HGE.out.trans (if_neg (by simp [h0])))
        have h1:(s != A)=true:=by simp [h0]
        clear h0;go_wp2_with fail
        go_ret
        exact ⟨by rw [HE.out];rfl,HB2.out⟩
theorem gF {rows cols:Int} {l:List ab} (h:aY rows cols l=0):aQ rows cols l=true:=by
 cases hg:aQ rows cols l with
 | true=>rfl
 | false=>simp [aY,hg] at h
theorem kw (rows cols:Int) (es:List ab) (ps:List ag):da [aY rows cols es,dJ es ps]=cX rows cols es ps:=by
 unfold da da da cX dJ aY;cases aQ rows cols es <;> cases cw es ps <;> rfl
theorem vJ {es:List ab} {ys zs:List Int} (h:fO es ys zs=0):bb ys=true∧bb zs=true:=by
 unfold fO dv at h;cases hy:bb ys <;> cases hz:bb zs <;> simp [hy,hz] at h ⊢
theorem qg {rows cols:Int} {n m:Nat} (h:cd rows cols n m=0):(n:Int)=rows∧(m:Int)=cols:=by
 unfold cd at h;split at h
 · assumption
 · cases h
theorem qh (rows cols:Int) (es:List ab) (ps:List ag) (ys zs:List Int):da [aY rows cols es,dJ es ps,cd rows cols ys.length zs.length,fO es ys zs,rW es ps ys zs]=fN rows cols es ps ys zs:=by
 unfold fN;rw [←kw]
 have hl:cd rows cols ys.length zs.length=if bH rows cols ys zs then 0 else 1:=by
  unfold cd bH;by_cases h1:(ys.length:Int)=rows <;> by_cases h2:(zs.length:Int)=cols <;> simp [h1,h2]
 rw [hl];unfold oZ fO rW;simp only [da];generalize aY rows cols es=a;generalize dJ es ps=b;by_cases ha:a=0 <;> by_cases hb:b=0 <;> cases bH rows cols ys zs <;> cases dv es ys zs <;> cases gapB es ps ys zs <;> simp [ha,hb]
theorem mZ (w W1:World) (A n:Nat) (cl:Value) (gs:List Nat) (es:List Int) (cs:Array Value) (t:TypeId) (hgn:gs.length=n) (hen:es.length=n) (hn:n≤9007199254740992) (hA:A=W1.heap.size) (hB:Below w.heap.size w W1)
 (hcs:cs=(gs.map fun g=>Value.func (.func g) #[cl] #[]).toArray) (hent:∀ g ∈ gs,∀ args w,(callFunc g args).run Tryz.prog w = .ok (.enter g args) w)
 (hfn:∀ (k:Nat) (g:Nat) (e:Int),gs[k]?=some g→es[k]?=some e→(∀ j:Nat,j<k→es[j]?=some 0)→∀ wx,Below w.heap.size w wx→Calls Tryz.prog g #[cl] wx fun r w'=>r = .returned (.int .i64 e)∧Below wx.heap.size wx w') :
 Calls Tryz.prog 87 #[.slice (some ⟨A,0,none⟩) n n] (W1.alloc (.cells cs t)) fun e w'=>e = .returned (.int .i64 (da es))∧Below w.heap.size w w':=by
 subst hA;have hb2:Below w.heap.size w (W1.alloc (.cells cs t)):=hB.alloc hB.size _;refine (first_any (W1.alloc (.cells cs t)) W1.heap.size n n cl gs es hgn hen hn (fun k g hg=>?_) hent (fun k g e hg he hz wx hb=>hfn k g e hg he hz wx (Below.next hb2 hb))).mono ?_
 · rw [zN,hcs]
   simp [hg]
 · rintro e w' ⟨rfl,hb⟩
   exact ⟨rfl,Below.next hb2 hb⟩
theorem nM (w:World) (rows cols:Int) (eo po:Option Addr) (n c q d:Nat) (l:List ab) (ps:List ag) (hl:l.length=n) (hr:RdC w eo (cellsOf ab.cells l)) (hn:n≤9007199254740992)
 (hp:ps.length=q) (hpr:RdC w po (cellsOf ag.cells ps)) (hq:q≤9007199254740992) :
 Calls Tryz.prog 162 #[.agg #[.int .i64 rows,.int .i64 cols,.slice eo n c],.slice po q d] w fun e w'=>e = .returned (.int .i64 (cX rows cols l ps))∧Below w.heap.size w w':=by
 have hmf:∀ (fn:Fn) (first cap:Array Value) (w:World),(Instr.makeFunc fn first cap).run Tryz.prog w = .ok (.func fn first cap) w:=fun _ _ _ _=>rfl
 have HB:=yA (((yH w.heap.size w).alloc (yB _) (.cells #[.int .i64 rows,.int .i64 cols,.slice eo n c] 28)).alloc (by simp) (.cells #[.int .i64 rows,.int .i64 cols,.slice eo n c,.slice po q d,.slice none 0 0,.slice none 0 0] 164))
 have HF:=yA (fun (k:Nat) (g:Nat) (e:Int) (hg:[88,89][k]?=some g) (he:[aY rows cols l,dJ l ps][k]?=some e) (hz:∀ j:Nat,j<k→[aY rows cols l,dJ l ps][j]?=some 0) (wy:World) (hby:Below w.heap.size w wy)=>show Calls Tryz.prog g #[.agg #[.int .i64 rows,.int .i64 cols,.slice eo n c,.slice po q d,.slice none 0 0,.slice none 0 0]] wy (fun r w'=>r = .returned (.int .i64 e)∧Below wy.heap.size wy w') from by
  match k,hg,he,hz with
  | 0,hg,he,hz=>
    simp at hg he;subst hg;subst he;exact mX wy rows cols eo n c _ _ _ l hl (hr.below hby) hn
  | 1,hg,he,hz=>
    simp at hg he;subst hg;subst he;have h0:=hz 0 (by omega);simp at h0;exact mW wy rows cols eo po n c q d _ _ l ps (gF h0) hl (hr.below hby) hn hp (hpr.below hby) hq)
 have HFE:=yA (kw rows cols l ps);clear hl hr hp hpr;go_enter Tryz.func162,Tryz.ntmps162
 go_wp2_with fail
 refine (mZ w _ _ 2 _ _ _ _ _ rfl rfl (by omega) (by simp) HB.out rfl (fun g hg args w=>by
  simp only [zt,zi,or_false] at hg;rcases hg with rfl | rfl
  · exact lO args w
  · exact lP args w) HF.out).mono ?_
 rintro e w' ⟨rfl,hb⟩;have HB2:=yA hb;rw [HFE.out];clear hb HF HB HFE;go_wp2_with fail
 go_ret
 exact ⟨rfl,HB2.out⟩
theorem nN (w:World) (rows cols:Int) (eo po yo zo:Option Addr) (n c q d m c' k c'':Nat) (l:List ab) (ps:List ag) (ys zs:List Int) (hl:l.length=n) (hr:RdC w eo (cellsOf ab.cells l)) (hn:n≤9007199254740992)
 (hp:ps.length=q) (hpr:RdC w po (cellsOf ag.cells ps)) (hq:q≤1048576) (hm:m≤9007199254740992) (hk:k≤9007199254740992)
 (hy:ys.length=m) (hyr:RdC w yo (cellsOf aP ys)) (hz:zs.length=k) (hzr:RdC w zo (cellsOf aP zs)) (hyo:∀ x ∈ ys,ar x) :
 Calls Tryz.prog 51 #[.agg #[.int .i64 rows,.int .i64 cols,.slice eo n c],.agg #[.slice po q d,.slice yo m c',.slice zo k c'']] w fun e w'=>e = .returned (.int .i64 (fN rows cols l ps ys zs))∧Below w.heap.size w w':=by
 have hmf:∀ (fn:Fn) (first cap:Array Value) (w:World),(Instr.makeFunc fn first cap).run Tryz.prog w = .ok (.func fn first cap) w:=fun _ _ _ _=>rfl
 have HB:=yA ((((yH w.heap.size w).alloc (yB _) (.cells #[.int .i64 rows,.int .i64 cols,.slice eo n c] 28)).alloc (by simp) (.cells #[.slice po q d,.slice yo m c',.slice zo k c''] 32)).alloc (by simp;omega) (.cells #[.int .i64 rows,.int .i64 cols,.slice eo n c,.slice po q d,.slice yo m c',.slice zo k c''] 164));have HFE:=yA (qh rows cols l ps ys zs);rw [hy,hz] at HFE
 have HF:=yA (fun (p:Nat) (g:Nat) (e:Int) (hg:[88,89,90,91,92][p]?=some g) (he:[aY rows cols l,dJ l ps,cd rows cols m k,fO l ys zs,rW l ps ys zs][p]?=some e) (hzz:∀ j:Nat,j<p→[aY rows cols l,dJ l ps,cd rows cols m k,fO l ys zs,rW l ps ys zs][j]?=some 0) (wy:World) (hby:Below w.heap.size w wy)=>show Calls Tryz.prog g #[.agg #[.int .i64 rows,.int .i64 cols,.slice eo n c,.slice po q d,.slice yo m c',.slice zo k c'']] wy (fun r w'=>r = .returned (.int .i64 e)∧Below wy.heap.size wy w') from by
  match p,hg,he,hzz with
  | 0,hg,he,hzz=>
    simp at hg he;subst hg;subst he;exact mX wy rows cols eo n c _ _ _ l hl (hr.below hby) hn
  | 1,hg,he,hzz=>
    simp at hg he;subst hg;subst he;have h0:=hzz 0 (by omega);simp at h0;exact mW wy rows cols eo po n c q d _ _ l ps (gF h0) hl (hr.below hby) hn hp (hpr.below hby) (by omega)
  | 2,hg,he,hzz=>
    simp at hg he;subst hg;subst he;exact ph wy rows cols yo zo m k c' c'' _ _
  | 3,hg,he,hzz=>
    simp at hg he;subst hg;subst he;have h0:=hzz 0 (by omega);have h2:=hzz 2 (by omega);simp at h0 h2;have h3:=qg h2;exact uh wy rows cols eo yo zo n c m c' k c'' _ l ys zs (gF h0) hl (hr.below hby) hn hy (hyr.below hby) h3.1 hz (hzr.below hby) h3.2 hyo
  | 4,hg,he,hzz=>
    simp at hg he;subst hg;subst he;have h0:=hzz 0 (by omega);have h3:=hzz 3 (by omega);simp at h0 h3;have h4:=vJ h3;exact vI wy rows cols eo po yo zo n c q d m c' k c'' l ps ys zs (gF h0) hl (hr.below hby) hn hp (hpr.below hby) hq hm hk hy (hyr.below hby) hz (hzr.below hby) h4.1 h4.2)
 clear hl hr hp hpr hy hyr hz hzr hyo hm hk;go_enter Tryz.func51,Tryz.ntmps51
 go_wp2_with fail
 refine (mZ w _ _ 5 _ _ _ _ _ rfl rfl (by omega) (by simp) HB.out rfl (fun g hg args w=>by
  simp only [zt,zi,or_false] at hg;rcases hg with rfl | rfl | rfl | rfl | rfl
  · exact lO args w
  · exact lP args w
  · exact nK args w
  · exact rV args w
  · exact ue args w) HF.out).mono ?_
 rintro e w' ⟨rfl,hb⟩;have HB2:=yA hb;rw [HFE.out];clear hb HF HB HFE;go_wp2_with fail
 go_ret
 exact ⟨rfl,HB2.out⟩
end Go.Proofs.YtcaicgipibcicaaGreat
namespace Go.Proofs.YtcaicgipibcicaaGreat
open Go.RowKit
section
variable {P:Program}
theorem eQ {d:Nat} {e n:Nat} {xs ys:Array Value} {i:Nat} {is:List Nat} {a b:Value} {r s:Bool} {w:World}
 (ha:(part e xs (i*n)).run P w = .ok a w) (hb:(part e ys (i*n)).run P w = .ok b w) (he:(Op.equalIn d e a b).run P w = .ok r w) (hr:(Op.eqItems d e n xs ys is).run P w = .ok s w) :
 (Op.eqItems d e n xs ys (i::is)).run P w = .ok (r && s) w:=by
 rw [Op.eqItems];simp only [zS,ha,hb,he,zT];cases r
 · simp
 · simpa using hr
theorem xN {d:Nat} {e n:Nat} {xs ys:Array Value} {w:World}:(Op.eqItems d e n xs ys []).run P w = .ok true w:=by simp [Op.eqItems]
end
section
variable {P:Program} {d:Nat} {xs ys:Array Value} {f:Field} {fs:List Field} {a b:Value} {r s:Bool} {w:World}
theorem kx (hn : (f.name == "_") = false) (ha : (part f.type xs f.offset).run P w = .ok a w) (hb : (part f.type ys f.offset).run P w = .ok b w) (he : (Op.equalIn d f.type a b).run P w = .ok r w) : (Op.eqFields d xs ys [f]).run P w = .ok r w := by
 have hn' : f.name ≠ "_" := by simpa using hn
 simp only [Op.eqFields,if_pos hn',zS,ha,hb,he,zT];cases r <;> simp
theorem dp (hn : (f.name == "_") = false) (ha : (part f.type xs f.offset).run P w = .ok a w) (hb : (part f.type ys f.offset).run P w = .ok b w) (he : (Op.equalIn d f.type a b).run P w = .ok r w) (hr : (Op.eqFields d xs ys fs).run P w = .ok s w) : (Op.eqFields d xs ys (f :: fs)).run P w = .ok (r && s) w := by
 have hn' : f.name ≠ "_" := by simpa using hn
 rw [Op.eqFields];simp only [if_pos hn',zS,ha,hb,he,zT];cases r
 · simp
 · simpa using hr
theorem qi {t:TypeId} {fs:Array Field} (hu:P.underlying t=some (.struct fs)) (hp:P.stoodInHeld t=false) (h:(Op.eqFields d xs ys fs.toList).run P w = .ok r w):(Op.equalIn (d+1) t (.agg xs) (.agg ys)).run P w = .ok r w:=by
 have hf:P.fieldsOf t=fs:=by simp [Program.fieldsOf,hu]
 rw [run_equalIn_struct (P:=P) w d t xs ys (by rw [hf];exact hu) hp,hf];exact h
end
def lQ (x0 y0 x1 y1 x2 y2 x3 y3 x4 y4 x5 y5 x6 y6 x7 y7:Int):Bool:=(x0==y0 && (x1==y1 && (x2==y2 && (x3==y3 && (x4==y4 && (x5==y5 && (x6==y6 && (x7==y7 && true))))))))
theorem eq_id (d:Nat) (w:World) (x0 y0 x1 y1 x2 y2 x3 y3 x4 y4 x5 y5 x6 y6 x7 y7:Int):(Op.equalIn (d+2) 72 (.agg #[.int .u8 x0,.int .u8 x1,.int .u8 x2,.int .u8 x3,.int .u8 x4,.int .u8 x5,.int .u8 x6,.int .u8 x7]) (.agg #[.int .u8 y0,.int .u8 y1,.int .u8 y2,.int .u8 y3,.int .u8 y4,.int .u8 y5,.int .u8 y6,.int .u8 y7])).run Tryz.prog w = .ok ((x0==y0 && (x1==y1 && (x2==y2 && (x3==y3 && (x4==y4 && (x5==y5 && (x6==y6 && (x7==y7 && true))))))))) w:=by
 obtain ⟨i,hi,_⟩:=info_parts (show (Tryz.prog.info? 5).map (fun i=>(i.zero,i.size,i.bytes))=some (some (.int .u8 0),1,1) by kernel_rfl);have hc:Tryz.prog.cellsOf 5=1:=by kernel_rfl
 rw [run_equalIn_array w (d+1) _ _ Tryz.underlying72 hi,hc];simp only [List.range_succ,List.range_zero,List.nil_append,List.cons_append];refine eQ (by go_simp;rfl) (by go_simp;rfl) (by go_simp) ?_;refine eQ (by go_simp;rfl) (by go_simp;rfl) (by go_simp) ?_;refine eQ (by go_simp;rfl) (by go_simp;rfl) (by go_simp) ?_;refine eQ (by go_simp;rfl) (by go_simp;rfl) (by go_simp) ?_;refine eQ (by go_simp;rfl) (by go_simp;rfl) (by go_simp) ?_;refine eQ (by go_simp;rfl) (by go_simp;rfl) (by go_simp) ?_;refine eQ (by go_simp;rfl) (by go_simp;rfl) (by go_simp) ?_;exact eQ (by go_simp;rfl) (by go_simp;rfl) (by go_simp) xN
theorem vK (x0 y0 x1 y1 x2 y2 x3 y3 x4 y4 x5 y5 x6 y6 x7 y7:Int) (w:World):(Op.equalIn 10000 72 (.agg #[.int .u8 x0,.int .u8 x1,.int .u8 x2,.int .u8 x3,.int .u8 x4,.int .u8 x5,.int .u8 x6,.int .u8 x7]) (.agg #[.int .u8 y0,.int .u8 y1,.int .u8 y2,.int .u8 y3,.int .u8 y4,.int .u8 y5,.int .u8 y6,.int .u8 y7])).run Tryz.prog w = .ok (lQ x0 y0 x1 y1 x2 y2 x3 y3 x4 y4 x5 y5 x6 y6 x7 y7) w:=eq_id 9998 w x0 y0 x1 y1 x2 y2 x3 y3 x4 y4 x5 y5 x6 y6 x7 y7
theorem oo (x0 y0 x1 y1 x2 y2 x3 y3 x4 y4 x5 y5 x6 y6 x7 y7:Int):lQ x0 y0 x1 y1 x2 y2 x3 y3 x4 y4 x5 y5 x6 y6 x7 y7=true↔x0=y0∧x1=y1∧x2=y2∧x3=y3∧x4=y4∧x5=y5∧x6=y6∧x7=y7:=by simp [lQ]
theorem qj (d:Nat) (w:World) (x0 y0 x1 y1:Int):(Op.equalIn (d+2) 75 (.agg #[.int .i16 x0,.int .i16 x1]) (.agg #[.int .i16 y0,.int .i16 y1])).run Tryz.prog w = .ok ((x0==y0 && x1==y1)) w:=by
 refine qi Tryz.underlying75 (by kernel_rfl) ?_;refine dp (by rfl) (by go_simp;rfl) (by go_simp;rfl) (by go_simp) ?_;exact kx (by rfl) (by go_simp;rfl) (by go_simp;rfl) (by go_simp)
def vL (x0 y0 x1 y1 x2 y2 x3 y3 x4 y4 x5 y5 x6 y6 x7 y7 x8 y8 x9 y9 x10 y10 x11 y11 x12 y12 x13 y13 x14 y14 x15 y15:Int):Bool:=(((x0==y0 && (x1==y1 && (x2==y2 && (x3==y3 && (x4==y4 && (x5==y5 && (x6==y6 && (x7==y7 && true))))))))) && (((x8==y8 && x9==y9)) && (((x10==y10 && x11==y11)) && (x12==y12 && (x13==y13 && (x14==y14 && x15==y15))))))
theorem eq_req (d:Nat) (w:World) (x0 y0 x1 y1 x2 y2 x3 y3 x4 y4 x5 y5 x6 y6 x7 y7 x8 y8 x9 y9 x10 y10 x11 y11 x12 y12 x13 y13 x14 y14 x15 y15:Int):(Op.equalIn (d+3) 77 (.agg #[.int .u8 x0,.int .u8 x1,.int .u8 x2,.int .u8 x3,.int .u8 x4,.int .u8 x5,.int .u8 x6,.int .u8 x7,.int .i16 x8,.int .i16 x9,.int .i16 x10,.int .i16 x11,.int .u8 x12,.int .u8 x13,.int .i64 x14,.int .i64 x15]) (.agg #[.int .u8 y0,.int .u8 y1,.int .u8 y2,.int .u8 y3,.int .u8 y4,.int .u8 y5,.int .u8 y6,.int .u8 y7,.int .i16 y8,.int .i16 y9,.int .i16 y10,.int .i16 y11,.int .u8 y12,.int .u8 y13,.int .i64 y14,.int .i64 y15])).run Tryz.prog w = .ok ((((x0==y0 && (x1==y1 && (x2==y2 && (x3==y3 && (x4==y4 && (x5==y5 && (x6==y6 && (x7==y7 && true))))))))) && (((x8==y8 && x9==y9)) && (((x10==y10 && x11==y11)) && (x12==y12 && (x13==y13 && (x14==y14 && x15==y15))))))) w:=by
 refine qi Tryz.underlying77 (by kernel_rfl) ?_;refine dp (by rfl) (by go_simp) (by go_simp) (eq_id (d+0) w _ _ _ _ _ _ _ _ _ _ _ _ _ _ _ _ ) ?_;refine dp (by rfl) (by go_simp) (by go_simp) (qj (d+0) w _ _ _ _ ) ?_;refine dp (by rfl) (by go_simp) (by go_simp) (qj (d+0) w _ _ _ _ ) ?_;refine dp (by rfl) (by go_simp;rfl) (by go_simp;rfl) (by go_simp) ?_;refine dp (by rfl) (by go_simp;rfl) (by go_simp;rfl) (by go_simp) ?_;refine dp (by rfl) (by go_simp;rfl) (by go_simp;rfl) (by go_simp) ?_;exact kx (by rfl) (by go_simp;rfl) (by go_simp;rfl) (by go_simp)
theorem bq_req_iff (x0 y0 x1 y1 x2 y2 x3 y3 x4 y4 x5 y5 x6 y6 x7 y7 x8 y8 x9 y9 x10 y10 x11 y11 x12 y12 x13 y13 x14 y14 x15 y15:Int):vL x0 y0 x1 y1 x2 y2 x3 y3 x4 y4 x5 y5 x6 y6 x7 y7 x8 y8 x9 y9 x10 y10 x11 y11 x12 y12 x13 y13 x14 y14 x15 y15=true↔x0=y0∧x1=y1∧x2=y2∧x3=y3∧x4=y4∧x5=y5∧x6=y6∧x7=y7∧x8=y8∧x9=y9∧x10=y10∧x11=y11∧x12=y12∧x13=y13∧x14=y14∧x15=y15:=by simp [vL,and_assoc]
def mr (x0 y0 x1 y1 x2 y2 x3 y3 x4 y4 x5 y5 x6 y6 x7 y7 x8 y8 x9 y9 x10 y10 x11 y11 x12 y12 x13 y13 x14 y14 x15 y15 x16 y16 x17 y17:Int):Bool:=(((((x0==y0 && (x1==y1 && (x2==y2 && (x3==y3 && (x4==y4 && (x5==y5 && (x6==y6 && (x7==y7 && true))))))))) && (((x8==y8 && x9==y9)) && (((x10==y10 && x11==y11)) && (x12==y12 && (x13==y13 && (x14==y14 && x15==y15))))))) && (x16==y16 && x17==y17))
theorem xO (d:Nat) (w:World) (x0 y0 x1 y1 x2 y2 x3 y3 x4 y4 x5 y5 x6 y6 x7 y7 x8 y8 x9 y9 x10 y10 x11 y11 x12 y12 x13 y13 x14 y14 x15 y15 x16 y16 x17 y17:Int):(Op.equalIn (d+4) 79 (.agg #[.int .u8 x0,.int .u8 x1,.int .u8 x2,.int .u8 x3,.int .u8 x4,.int .u8 x5,.int .u8 x6,.int .u8 x7,.int .i16 x8,.int .i16 x9,.int .i16 x10,.int .i16 x11,.int .u8 x12,.int .u8 x13,.int .i64 x14,.int .i64 x15,.int .i64 x16,.int .i64 x17]) (.agg #[.int .u8 y0,.int .u8 y1,.int .u8 y2,.int .u8 y3,.int .u8 y4,.int .u8 y5,.int .u8 y6,.int .u8 y7,.int .i16 y8,.int .i16 y9,.int .i16 y10,.int .i16 y11,.int .u8 y12,.int .u8 y13,.int .i64 y14,.int .i64 y15,.int .i64 y16,.int .i64 y17])).run Tryz.prog w = .ok ((((((x0==y0 && (x1==y1 && (x2==y2 && (x3==y3 && (x4==y4 && (x5==y5 && (x6==y6 && (x7==y7 && true))))))))) && (((x8==y8 && x9==y9)) && (((x10==y10 && x11==y11)) && (x12==y12 && (x13==y13 && (x14==y14 && x15==y15))))))) && (x16==y16 && x17==y17))) w:=by
 refine qi Tryz.underlying79 (by kernel_rfl) ?_;refine dp (by rfl) (by go_simp) (by go_simp) (eq_req (d+0) w _ _ _ _ _ _ _ _ _ _ _ _ _ _ _ _ _ _ _ _ _ _ _ _ _ _ _ _ _ _ _ _ ) ?_;refine dp (by rfl) (by go_simp;rfl) (by go_simp;rfl) (by go_simp) ?_;exact kx (by rfl) (by go_simp;rfl) (by go_simp;rfl) (by go_simp)
theorem vM (x0 y0 x1 y1 x2 y2 x3 y3 x4 y4 x5 y5 x6 y6 x7 y7 x8 y8 x9 y9 x10 y10 x11 y11 x12 y12 x13 y13 x14 y14 x15 y15 x16 y16 x17 y17:Int) (w:World):(Op.equalIn 10000 79 (.agg #[.int .u8 x0,.int .u8 x1,.int .u8 x2,.int .u8 x3,.int .u8 x4,.int .u8 x5,.int .u8 x6,.int .u8 x7,.int .i16 x8,.int .i16 x9,.int .i16 x10,.int .i16 x11,.int .u8 x12,.int .u8 x13,.int .i64 x14,.int .i64 x15,.int .i64 x16,.int .i64 x17]) (.agg #[.int .u8 y0,.int .u8 y1,.int .u8 y2,.int .u8 y3,.int .u8 y4,.int .u8 y5,.int .u8 y6,.int .u8 y7,.int .i16 y8,.int .i16 y9,.int .i16 y10,.int .i16 y11,.int .u8 y12,.int .u8 y13,.int .i64 y14,.int .i64 y15,.int .i64 y16,.int .i64 y17])).run Tryz.prog w = .ok (mr x0 y0 x1 y1 x2 y2 x3 y3 x4 y4 x5 y5 x6 y6 x7 y7 x8 y8 x9 y9 x10 y10 x11 y11 x12 y12 x13 y13 x14 y14 x15 y15 x16 y16 x17 y17) w:=xO 9996 w x0 y0 x1 y1 x2 y2 x3 y3 x4 y4 x5 y5 x6 y6 x7 y7 x8 y8 x9 y9 x10 y10 x11 y11 x12 y12 x13 y13 x14 y14 x15 y15 x16 y16 x17 y17
theorem qk (x0 y0 x1 y1 x2 y2 x3 y3 x4 y4 x5 y5 x6 y6 x7 y7 x8 y8 x9 y9 x10 y10 x11 y11 x12 y12 x13 y13 x14 y14 x15 y15 x16 y16 x17 y17:Int):mr x0 y0 x1 y1 x2 y2 x3 y3 x4 y4 x5 y5 x6 y6 x7 y7 x8 y8 x9 y9 x10 y10 x11 y11 x12 y12 x13 y13 x14 y14 x15 y15 x16 y16 x17 y17=true↔x0=y0∧x1=y1∧x2=y2∧x3=y3∧x4=y4∧x5=y5∧x6=y6∧x7=y7∧x8=y8∧x9=y9∧x10=y10∧x11=y11∧x12=y12∧x13=y13∧x14=y14∧x15=y15∧x16=y16∧x17=y17:=by simp [mr,and_assoc]
def eF (x0 y0 x1 y1 x2 y2:Int):Bool:=(x0==y0 && (x1==y1 && x2==y2))
theorem xP (d:Nat) (w:World) (x0 y0 x1 y1 x2 y2:Int):(Op.equalIn (d+2) 114 (.agg #[.int .i64 x0,.int .i64 x1,.int .i64 x2]) (.agg #[.int .i64 y0,.int .i64 y1,.int .i64 y2])).run Tryz.prog w = .ok ((x0==y0 && (x1==y1 && x2==y2))) w:=by
 refine qi Tryz.underlying114 (by kernel_rfl) ?_;refine dp (by rfl) (by go_simp;rfl) (by go_simp;rfl) (by go_simp) ?_;refine dp (by rfl) (by go_simp;rfl) (by go_simp;rfl) (by go_simp) ?_;exact kx (by rfl) (by go_simp;rfl) (by go_simp;rfl) (by go_simp)
theorem ql (x0 y0 x1 y1 x2 y2:Int) (w:World):(Op.equalIn 10000 114 (.agg #[.int .i64 x0,.int .i64 x1,.int .i64 x2]) (.agg #[.int .i64 y0,.int .i64 y1,.int .i64 y2])).run Tryz.prog w = .ok (eF x0 y0 x1 y1 x2 y2) w:=xP 9998 w x0 y0 x1 y1 x2 y2
theorem qm (x0 y0 x1 y1 x2 y2:Int):eF x0 y0 x1 y1 x2 y2=true↔x0=y0∧x1=y1∧x2=y2:=by simp [eF]
theorem pi (x0 x1 x2:Int):eF x0 x0 x1 x1 x2 x2=true:=by simp [eF]
end Go.Proofs.YtcaicgipibcicaaGreat
namespace Go.Proofs.YtcaicgipibcicaaGreat
open Go.RowKit Go.Sort
theorem qn (x y:Int) (hx:0≤x) (hy:0≤y) (hs:x+y≤9223372036854775807) (w:World) :
 (callFunc 193 #[.int .u64 x,.int .u64 y,.int .u64 0]).run Tryz.prog w = .ok (.value (.tuple #[.int .u64 (x+y),.int .u64 0])) w:=by
 rw [run_callFunc_extern Tryz.func193 (by kernel_rfl) (by kernel_rfl) (by kernel_rfl) (e:=add64Entry) (by kernel_rfl),run_add64 x y 0 hx hy (by omega) (by omega)];rw [show (x+y+0) % 18446744073709551616=x+y by omega,show (x+y+0) / 18446744073709551616=0 by omega];rfl
theorem jQ {l:List Int} (h:∀ x ∈ l,0≤x):0≤l.sum:=by
 induction l with
 | nil=>simp
 | cons a l ih=>have h1:=h a (by simp);have h2:=ih (fun x hx=>h x (by simp [hx]));simp only [List.sum_cons];omega
theorem ju {l:List Int} {j:Nat} {x:Int} (hx:l[j]?=some x):(l.take (j+1)).sum=(l.take j).sum+x:=by
 rw [zk (yD.1 hx).1,(yD.1 hx).2];simp
theorem uj {l:List Int} (hp:∀ x ∈ l,0≤x) (hs:l.sum≤4611686018427387903) {j:Nat} {x:Int} (hx:l[j]?=some x):x≤4611686018427387903∧0≤(l.take j).sum∧(l.take j).sum+x≤4611686018427387903:=by
 have h0:=jQ (l:=l.take j) (fun y hy=>hp y (List.mem_of_mem_take hy));have h1:=jQ (l:=l.drop (j+1)) (fun y hy=>hp y (List.mem_of_mem_drop hy));have h2:=ju hx;have h3:l.sum=(l.take (j+1)).sum+(l.drop (j+1)).sum:=by rw [←List.sum_append,List.take_append_drop]
 have h4:=hp x (yP hx);omega
theorem uk (w:World) (b n c:Nat) (l:List Int) (hl:l.length=n) (hr:RdC w (some ⟨b,0,none⟩) (cellsOf aP l)) (hn:n≤9007199254740992) (hp:∀ x ∈ l,0≤x) (hs:l.sum≤4611686018427387903) :
 Calls Tryz.prog 173 #[.slice (some ⟨b,0,none⟩) n c] w fun e w'=>e = .returned (.tuple #[.int .i64 l.sum,.bool true])∧w=w':=by
 have HL:=yA hl;have HR:=yA hr;have HP:=yA hp;have HS:=yA hs;clear hl hr hp hs;go_enter Tryz.func173,Tryz.ntmps173
 go_wp2_with fail
 go_loop [4,5,12] (fun a v i=>Hid (∃ j:Nat,a = .int .u64 0∧v = .int .u64 (l.take j).sum∧i = .int .i64 j∧j≤n)) (fun _ _ i=>n - (intOf i).toNat)
 case atStart=>exact yA ⟨0,rfl,rfl,rfl,yQ _⟩
 case round=>
  obtain ⟨j,rfl,rfl,rfl,hj⟩:=hrel.out;clear hrel;by_cases hlt:j<n
  · obtain ⟨x,hx⟩:∃ x,l[j]?=some x:=⟨l[j]'(by rw [HL.out];exact hlt),yC _⟩
    have hc:=tg HR.out hx;have hx0:=HP.out x (yP hx);have HX:=yA hx;clear hx;obtain ⟨hx1,hx2,hx3⟩:=uj HP.out HS.out HX.out;have HT:=yA (ju HX.out);generalize (l.take j).sum=s at *;go_wp2_with fail
    refine (kp _ x hx0 hx1).mono ?_;rintro e w1 ⟨rfl,rfl⟩;have hadd:=qn s x hx2 hx0 (by omega);have hsh:x / 9223372036854775808=0:=by omega
    go_wp2_with fail
    go_round
    case rel=>exact yA ⟨j+1,rfl,by rw [HT.out],by go_num,by omega⟩
    case measure=>simp [intOf];omega
  · obtain rfl:n=j:=by omega
    have HFULL:=yA (show (l.take n).sum=l.sum by rw [zh (by rw [HL.out];exact yB _)]);have h1:0≤l.sum:=jQ HP.out;have h2:=HS.out;rw [HFULL.out];obtain ⟨s,hsm⟩:∃ s,l.sum=s:=⟨_,rfl⟩;rw [hsm] at h1 h2 ⊢;have HSM:=yA hsm;clear hsm;have hsh:s / 9223372036854775808=0:=by omega
    go_wp2_with fail
    refine (kp _ s h1 h2).mono ?_;rintro e w1 ⟨rfl,rfl⟩;go_wp2_with fail
    go_ret2
    exact ⟨by rw [HSM.out];rfl,rfl⟩
theorem vN (w:World) (c:ae) (r:az) (hr:r.Ok):Calls Tryz.prog 133 #[.agg #[.int .i64 c.q,.int .i64 c.d,.int .i64 c.w,.int .i64 c.ttl,.int .i64 c.b],.agg #[.int .u8 r.i0,.int .u8 r.i1,.int .u8 r.i2,.int .u8 r.i3,.int .u8 r.i4,.int .u8 r.i5,.int .u8 r.i6,.int .u8 r.i7,.int .i16 r.fx,.int .i16 r.fy,.int .i16 r.tx,.int .i16 r.ty,.int .u8 r.seats,.int .u8 r.classes,.int .i64 r.base,.int .i64 r.ttl]] w fun e w'=>e = .returned (.bool (eZ c r))∧Below w.heap.size w w':=by
 have HB:=yA (((yH w.heap.size w).alloc (yB _) (.cells #[.int .i64 c.q,.int .i64 c.d,.int .i64 c.w,.int .i64 c.ttl,.int .i64 c.b] 23)).alloc (by simp) (.cells #[.int .u8 r.i0,.int .u8 r.i1,.int .u8 r.i2,.int .u8 r.i3,.int .u8 r.i4,.int .u8 r.i5,.int .u8 r.i6,.int .u8 r.i7,.int .i16 r.fx,.int .i16 r.fy,.int .i16 r.tx,.int .i16 r.ty,.int .u8 r.seats,.int .u8 r.classes,.int .i64 r.base,.int .i64 r.ttl] 77));obtain ⟨s1,s2⟩:=hr.seats;obtain ⟨s3,s4⟩:=hr.classes;clear hr;by_cases a1:r.seats≤0
 · have HM:=yA (show eZ c r=false by
    have:r.seats=0:=by omega
    simp [eZ,this])
   go_enter Tryz.func133,Tryz.ntmps133
   go_wp2_with fail
   go_ret
   exact ⟨by rw [HM.out];rfl,HB.out⟩
 have a1':0<r.seats:=by omega
 have H1:=yA (show decide (r.seats≠0)=true by simp;omega);clear a1;by_cases a2:r.classes≤0
 · have HM:=yA (show eZ c r=false by
    have:r.classes=0:=by omega
    simp [eZ,this])
   go_enter Tryz.func133,Tryz.ntmps133
   go_wp2_with fail
   go_ret
   exact ⟨by rw [HM.out];rfl,HB.out⟩
 have a2':0<r.classes:=by omega
 have H2:=yA (show decide (r.classes≠0)=true by simp;omega);clear a2;go_enter Tryz.func133,Tryz.ntmps133
 go_wp2_with fail
 refine (dk _ _ _ _).mono ?_;rintro e w1 ⟨rfl,rfl⟩;cases h3:decide (0≤r.base∧r.base≤c.b) with
 | false=>
   have HM:=yA (show eZ c r=false by simp only [eZ,h3,H2.out,H1.out];rfl);clear h3;go_wp2_with fail
   go_ret
   exact ⟨by rw [HM.out];rfl,HB.out⟩
 | true=>
   have HM:=yA (show eZ c r=decide (1≤r.ttl∧r.ttl≤c.ttl) by simp only [eZ,h3,H2.out,H1.out,Bool.true_and,bu]);clear h3;go_wp2_with fail
   refine (dk _ _ _ _).mono ?_;rintro e w1 ⟨rfl,rfl⟩;generalize decide (1≤r.ttl∧r.ttl≤c.ttl)=B at *;go_wp2_with fail
   go_ret
   exact ⟨by rw [HM.out];rfl,HB.out⟩
theorem m5 (w:World) (c:ae) (r:az) (hr:r.Ok):Calls Tryz.prog 96 #[.agg #[.int .i64 c.q,.int .i64 c.d,.int .i64 c.w,.int .i64 c.ttl,.int .i64 c.b],.agg #[.int .u8 r.i0,.int .u8 r.i1,.int .u8 r.i2,.int .u8 r.i3,.int .u8 r.i4,.int .u8 r.i5,.int .u8 r.i6,.int .u8 r.i7,.int .i16 r.fx,.int .i16 r.fy,.int .i16 r.tx,.int .i16 r.ty,.int .u8 r.seats,.int .u8 r.classes,.int .i64 r.base,.int .i64 r.ttl]] w fun e w'=>e = .returned (.int .i64 (bn c r))∧Below w.heap.size w w':=by
 have HB:=yA (((yH w.heap.size w).alloc (yB _) (.cells #[.int .i64 c.q,.int .i64 c.d,.int .i64 c.w,.int .i64 c.ttl,.int .i64 c.b] 23)).alloc (by simp) (.cells #[.int .u8 r.i0,.int .u8 r.i1,.int .u8 r.i2,.int .u8 r.i3,.int .u8 r.i4,.int .u8 r.i5,.int .u8 r.i6,.int .u8 r.i7,.int .i16 r.fx,.int .i16 r.fy,.int .i16 r.tx,.int .i16 r.ty,.int .u8 r.seats,.int .u8 r.classes,.int .i64 r.base,.int .i64 r.ttl] 77));have HMAY:=yA (fun w=>vN w c r hr);go_enter Tryz.func96,Tryz.ntmps96
 go_wp2_with fail
 have hz:(w.alloc (.cells #[.int .i64 c.q,.int .i64 c.d,.int .i64 c.w,.int .i64 c.ttl,.int .i64 c.b] 23)).heap.size=w.heap.size+1:=by simp
 have hh0:=(Keep.alloc (fun _=>False) (w.alloc (.cells #[.int .i64 c.q,.int .i64 c.d,.int .i64 c.w,.int .i64 c.ttl,.int .i64 c.b] 23)) (.cells #[.int .u8 r.i0,.int .u8 r.i1,.int .u8 r.i2,.int .u8 r.i3,.int .u8 r.i4,.int .u8 r.i5,.int .u8 r.i6,.int .u8 r.i7,.int .i16 r.fx,.int .i16 r.fy,.int .i16 r.tx,.int .i16 r.ty,.int .u8 r.seats,.int .u8 r.classes,.int .i64 r.base,.int .i64 r.ttl] 77)).old (yE w (.cells #[.int .i64 c.q,.int .i64 c.d,.int .i64 c.w,.int .i64 c.ttl,.int .i64 c.b] 23)) id;have hh1:=yE (w.alloc (.cells #[.int .i64 c.q,.int .i64 c.d,.int .i64 c.w,.int .i64 c.ttl,.int .i64 c.b] 23)) (.cells #[.int .u8 r.i0,.int .u8 r.i1,.int .u8 r.i2,.int .u8 r.i3,.int .u8 r.i4,.int .u8 r.i5,.int .u8 r.i6,.int .u8 r.i7,.int .i16 r.fx,.int .i16 r.fy,.int .i16 r.tx,.int .i16 r.ty,.int .u8 r.seats,.int .u8 r.classes,.int .i64 r.base,.int .i64 r.ttl] 77);rw [hz] at hh1;have H0:=yA hh0;have H1:=yA hh1;clear hz hh0 hh1;generalize (w.alloc (.cells #[.int .i64 c.q,.int .i64 c.d,.int .i64 c.w,.int .i64 c.ttl,.int .i64 c.b] 23)).alloc (.cells #[.int .u8 r.i0,.int .u8 r.i1,.int .u8 r.i2,.int .u8 r.i3,.int .u8 r.i4,.int .u8 r.i5,.int .u8 r.i6,.int .u8 r.i7,.int .i16 r.fx,.int .i16 r.fy,.int .i16 r.tx,.int .i16 r.ty,.int .u8 r.seats,.int .u8 r.classes,.int .i64 r.base,.int .i64 r.ttl] 77)=W at *;generalize w.heap.size+1=H2 at *;refine (eM W c).mono ?_;rintro e w1 ⟨rfl,hb1⟩;have hk1:=Keep.of_below hb1 (yB _) (fun _=>False);have g0:=hk1.old H0.out id;have g1:=hk1.old H1.out id;have HB1:=yA (dN HB.out hb1);obtain ⟨k0,k1,k2,k3,k4⟩:=vz g0;obtain ⟨j0,j1,j2,j3,j4,j5,j6,j7,j8,j9,j10,j11,j12,j13,j14,j15⟩:=xF g1;clear hb1 hk1 g0 g1;cases hc:aB c with
 | false=>
   have he:bn c r=160:=by simp [bn,hc]
   have HE:=yA he;have hce:al c=160:=by simp [al,hc]
   rw [hce];clear he hce hc;go_wp2_with fail
   go_ret
   exact ⟨by rw [HE.out];rfl,HB1.out⟩
 | true=>
   have he:bn c r=if eZ c r then 0 else 1:=by simp [bn,hc]
   have HE:=yA he;have hce:al c=0:=by simp [al,hc]
   rw [hce];clear he hce hc;go_wp2_with fail
   refine (HMAY.out w1).mono ?_;rintro e w2 ⟨rfl,hb2⟩;have HB2:=yA (dN HB1.out hb2);clear hb2;cases h5:eZ c r with
   | false=>
     go_wp2_with fail
     go_ret
     exact ⟨by rw [HE.out,h5];rfl,HB2.out⟩
   | true=>
     go_wp2_with fail
     go_ret
     exact ⟨by rw [HE.out,h5];rfl,HB2.out⟩
def wtP (c:ae) (now:Int) (w:ad):Int × Int:=f8 c now w (bn c w.r)
theorem oq {c:ae} {now:Int} {w:ad} (h:bn c w.r≠0):wtP c now w=(0,bn c w.r):=by simp only [wtP,f8,if_pos h]
theorem iX {c:ae} {now:Int} {w:ad} (h0:bn c w.r=0) (h:¬ (0≤now∧now≤1099511627776∧0≤w.since∧w.since≤1099511627776∧w.since≤now)):wtP c now w=(0,1):=by
 simp only [wtP,f8,h0,ne_eq,not_true_eq_false,if_false,if_pos h]
theorem qo {c:ae} {now:Int} {w:ad} (h0:bn c w.r=0) (h:0≤now∧now≤1099511627776∧0≤w.since∧w.since≤1099511627776∧w.since≤now) (h1:w.r.ttl<now - w.since):wtP c now w=(0,131):=by
 simp only [wtP,f8,h0,ne_eq,not_true_eq_false,if_false,if_neg (fun k:¬ _=>k h),if_pos h1]
theorem qp {c:ae} {now:Int} {w:ad} (h0:bn c w.r=0) (h:0≤now∧now≤1099511627776∧0≤w.since∧w.since≤1099511627776∧w.since≤now) (h1:¬ w.r.ttl<now - w.since):wtP c now w=((now - w.since)*(c.b+1)+w.r.base+1,0):=by
 simp only [wtP,f8,h0,ne_eq,not_true_eq_false,if_false,if_neg (fun k:¬ _=>k h),if_neg h1]
theorem fj {c:ae} {r:az} (h:bn c r=0):1≤c.b∧c.b≤1048576∧0≤r.base∧r.base≤c.b∧1≤r.ttl∧r.ttl≤c.ttl∧c.ttl≤1048576:=by
 unfold bn at h;cases hc:aB c with
 | false=>simp [hc] at h
 | true=>
   cases hm:eZ c r with
   | false=>simp [hc,hm] at h
   | true=>
     unfold aB at hc;unfold eZ at hm;simp only [zD] at hc hm;have h1:=of_decide_eq_true hc.2;have h2:=of_decide_eq_true hc.1.2;have h3:=of_decide_eq_true hm.2;have h4:=of_decide_eq_true hm.1.2;omega
theorem vO {a b:Int} (h1:0≤a) (h2:a≤1048576) (h3:0≤b) (h4:b≤1048577):0≤a*b∧a*b≤1099512676352:=by
 obtain ⟨x,rfl⟩:=zV h1;obtain ⟨y,rfl⟩:=zV h3;have hlt:=Nat.mul_le_mul (show x≤1048576 by omega) (show y≤1048577 by omega);rw [show ((x:Int)*(y:Int))=((x*y:Nat):Int) by simp];omega
structure ky (w:World) (c:ae) (x:ad) (H0 H1:Nat) (wr:World):Prop where
 g:wr.heap[H0]?=some (.cells #[.int .i64 c.q,.int .i64 c.d,.int .i64 c.w,.int .i64 c.ttl,.int .i64 c.b] 23 (0,0))
 h:wr.heap[H1]?=some (.cells #[.int .u8 x.r.i0,.int .u8 x.r.i1,.int .u8 x.r.i2,.int .u8 x.r.i3,.int .u8 x.r.i4,.int .u8 x.r.i5,.int .u8 x.r.i6,.int .u8 x.r.i7,.int .i16 x.r.fx,.int .i16 x.r.fy,.int .i16 x.r.tx,.int .i16 x.r.ty,.int .u8 x.r.seats,.int .u8 x.r.classes,.int .i64 x.r.base,.int .i64 x.r.ttl,.int .i64 x.since,.int .i64 x.number] 79 (0,0))
 below:Below w.heap.size w wr
theorem ky.keep {w:World} {c:ae} {x:ad} {H0 H1:Nat} {wr w':World} (h:ky w c x H0 H1 wr) (hb:Below wr.heap.size wr w'):ky w c x H0 H1 w':=
 ⟨(Keep.of_below hb (yB _) (fun _=>False)).old h.g id,(Keep.of_below hb (yB _) (fun _=>False)).old h.h id,Below.next h.below hb⟩
theorem ky.begin (w:World) (c:ae) (x:ad):ky w c x w.heap.size (w.heap.size+1) ((w.alloc (.cells #[.int .i64 c.q,.int .i64 c.d,.int .i64 c.w,.int .i64 c.ttl,.int .i64 c.b] 23)).alloc (.cells #[.int .u8 x.r.i0,.int .u8 x.r.i1,.int .u8 x.r.i2,.int .u8 x.r.i3,.int .u8 x.r.i4,.int .u8 x.r.i5,.int .u8 x.r.i6,.int .u8 x.r.i7,.int .i16 x.r.fx,.int .i16 x.r.fy,.int .i16 x.r.tx,.int .i16 x.r.ty,.int .u8 x.r.seats,.int .u8 x.r.classes,.int .i64 x.r.base,.int .i64 x.r.ttl,.int .i64 x.since,.int .i64 x.number] 79)):=by
 refine ⟨(Keep.alloc (fun _=>False) _ _).old (yE w _) id,?_,((yH w.heap.size w).alloc (yB _) _).alloc (by simp) _⟩;have:=yE (w.alloc (.cells #[.int .i64 c.q,.int .i64 c.d,.int .i64 c.w,.int .i64 c.ttl,.int .i64 c.b] 23)) (.cells #[.int .u8 x.r.i0,.int .u8 x.r.i1,.int .u8 x.r.i2,.int .u8 x.r.i3,.int .u8 x.r.i4,.int .u8 x.r.i5,.int .u8 x.r.i6,.int .u8 x.r.i7,.int .i16 x.r.fx,.int .i16 x.r.fy,.int .i16 x.r.tx,.int .i16 x.r.ty,.int .u8 x.r.seats,.int .u8 x.r.classes,.int .i64 x.r.base,.int .i64 x.r.ttl,.int .i64 x.since,.int .i64 x.number] 79);rw [show (w.alloc (.cells #[.int .i64 c.q,.int .i64 c.d,.int .i64 c.w,.int .i64 c.ttl,.int .i64 c.b] 23)).heap.size=w.heap.size+1 by simp] at this;exact this
theorem ky.cells {w:World} {c:ae} {x:ad} {H0 H1:Nat} {wr:World} (h:ky w c x H0 H1 wr):wr.cell? ⟨H0,4,none⟩=some (.int .i64 c.b)∧wr.cell? ⟨H1,14,none⟩=some (.int .i64 x.r.base)∧wr.cell? ⟨H1,15,none⟩=some (.int .i64 x.r.ttl)∧wr.cell? ⟨H1,16,none⟩=some (.int .i64 x.since):=by
 refine ⟨?_,?_,?_,?_⟩
 · rw [yI wr H0 _ _ _ (0,0) h.g];rfl
 all_goals rw [yI wr H1 _ _ _ (0,0) h.h];rfl
theorem RdC.laid (w:World) (cs:Array Value) (t:TypeId) (l:List Value) (h:cs.toList=l):RdC (w.alloc (.cells cs t)) (some ⟨w.heap.size,0,none⟩) l:=by
 refine .inr ⟨_,0,rfl,fun j u hu=>?_⟩;rw [yO,zN];subst h
 simpa using hu
theorem vP (w:World) (c:ae) (now:Int) (x:ad) (hx:x.Ok) (hnow:ar now):Calls Tryz.prog 129 #[.agg #[.int .i64 c.q,.int .i64 c.d,.int .i64 c.w,.int .i64 c.ttl,.int .i64 c.b],.int .i64 now,.agg #[.int .u8 x.r.i0,.int .u8 x.r.i1,.int .u8 x.r.i2,.int .u8 x.r.i3,.int .u8 x.r.i4,.int .u8 x.r.i5,.int .u8 x.r.i6,.int .u8 x.r.i7,.int .i16 x.r.fx,.int .i16 x.r.fy,.int .i16 x.r.tx,.int .i16 x.r.ty,.int .u8 x.r.seats,.int .u8 x.r.classes,.int .i64 x.r.base,.int .i64 x.r.ttl,.int .i64 x.since,.int .i64 x.number]] w fun e w'=>e = .returned (.tuple #[.int .i64 (wtP c now x).1,.int .i64 (wtP c now x).2])∧Below w.heap.size w w':=by
 have HXR:=yA hx.r;obtain ⟨xs1,xs2⟩:=hx.since;obtain ⟨xt1,xt2⟩:=hx.r.ttl;obtain ⟨nw1,nw2⟩:=hnow;clear hx;have HW:=yA (ky.begin w c x);obtain ⟨A,E,hAE⟩:∃ A E,wtP c now x=(A,E):=⟨_,_,rfl⟩;rw [hAE];have HAE:=yA hAE;clear hAE;go_enter Tryz.func129,Tryz.ntmps129
 go_upto_region 1 with fail
 generalize (w.alloc (.cells #[.int .i64 c.q,.int .i64 c.d,.int .i64 c.w,.int .i64 c.ttl,.int .i64 c.b] 23)).alloc (.cells #[.int .u8 x.r.i0,.int .u8 x.r.i1,.int .u8 x.r.i2,.int .u8 x.r.i3,.int .u8 x.r.i4,.int .u8 x.r.i5,.int .u8 x.r.i6,.int .u8 x.r.i7,.int .i16 x.r.fx,.int .i16 x.r.fy,.int .i16 x.r.tx,.int .i16 x.r.ty,.int .u8 x.r.seats,.int .u8 x.r.classes,.int .i64 x.r.base,.int .i64 x.r.ttl,.int .i64 x.since,.int .i64 x.number] 79)=W at *;generalize w.heap.size+1=H1 at *;have HHE:=yA (show ∃ H0,w.heap.size=H0 from ⟨_,rfl⟩);obtain ⟨H0,hH0⟩:=HHE.out;rw [hH0] at HW;rw [hH0];have HH:=yA hH0;clear hH0 HHE;go_wp2_with (first | ((with_reducible refine aa (o:=⟨some 13,_,_,_,_,_⟩) ?_ 23 (.tmp 3) ?_ H0 (0) ?_ c.cells #[.int .i64 c.q,.int .i64 c.d,.int .i64 c.w,.int .i64 c.ttl,.int .i64 c.b] ?_ _ (bA HW.out.g) Tryz.underlying23 ?_ ?_ ?_);rfl;rfl;rfl;rfl;rfl;exact aE) | ((with_reducible refine aa (o:=⟨some 15,_,_,_,_,_⟩) ?_ 77 (.tmp 14) ?_ H1 (0) ?_ x.r.cells #[.int .u8 x.r.i0,.int .u8 x.r.i1,.int .u8 x.r.i2,.int .u8 x.r.i3,.int .u8 x.r.i4,.int .u8 x.r.i5,.int .u8 x.r.i6,.int .u8 x.r.i7,.int .i16 x.r.fx,.int .i16 x.r.fy,.int .i16 x.r.tx,.int .i16 x.r.ty,.int .u8 x.r.seats,.int .u8 x.r.classes,.int .i64 x.r.base,.int .i64 x.r.ttl] ?_ _ (iV HW.out.h) Tryz.underlying77 ?_ ?_ ?_);rfl;rfl;rfl;rfl;rfl;exact pd))
 refine (check_any W c x.r).mono ?_;rintro e w1 ⟨rfl,hb1⟩;have HW1:=yA (HW.out.keep hb1);clear hb1 HW;obtain ⟨g4,k14,k15,k16⟩:=HW1.out.cells;by_cases h0:bn c x.r=0
 · have HB:=yA (fj h0)
   obtain ⟨b1,b2,b3,b4,b5,b6,b7⟩:=HB.out;have H0E:=yA h0;rw [h0];clear h0;go_wp2_with fail
   refine (mL w1 now).mono ?_;rintro e w2 ⟨rfl,rfl⟩;by_cases ht1:0≤now∧now≤1099511627776
   · obtain ⟨t1,t2⟩:=ht1
     rw [show cx now=true from decide_eq_true ⟨t1,t2⟩];go_wp2_with fail
     refine (mL w1 x.since).mono ?_;rintro e w2 ⟨rfl,rfl⟩;by_cases ht2:0≤x.since∧x.since≤1099511627776
     · obtain ⟨t3,t4⟩:=ht2
       rw [show cx x.since=true from decide_eq_true ⟨t3,t4⟩];by_cases ht3:now<x.since
       · have HE:=yA (zZ (HAE.out.symm.trans (iX H0E.out (by omega))))
         go_wp2_with fail
         go_ret2
         exact ⟨by rw [HE.out.1,HE.out.2];rfl,HW1.out.below⟩
       · have t5:x.since≤now:=by omega
         clear ht3;by_cases ht4:x.r.ttl<now - x.since
         · have HE:=yA (zZ (HAE.out.symm.trans (qo H0E.out ⟨t1,t2,t3,t4,t5⟩ ht4)))
           go_wp2_with fail
           go_ret2
           exact ⟨by rw [HE.out.1,HE.out.2];rfl,HW1.out.below⟩
         · have t6:now - x.since≤x.r.ttl:=by omega
           have HE:=yA (zZ (HAE.out.symm.trans (qp H0E.out ⟨t1,t2,t3,t4,t5⟩ ht4)));have hmb:=vO (a:=now - x.since) (b:=c.b+1) (by omega) (by omega) (by omega) (by omega);have HM:=yA (fun w=>ua w (now - x.since) (c.b+1) (by omega) (by omega) (by omega) (by omega));obtain ⟨M,hM⟩:∃ M,(now - x.since)*(c.b+1)=M:=⟨_,rfl⟩;rw [hM] at HM hmb HE;obtain ⟨m1,m2⟩:=hmb;clear ht4 hM;go_wp2_with fail
           refine (HM.out w1).mono ?_;rintro e w2 ⟨rfl,rfl⟩;go_wp2_with fail
           have HB2:=yA (HW1.out.below.alloc HW1.out.below.size (.cells #[.int .i64 M,.int .i64 x.r.base,.int .i64 1] 3))
           refine (uk _ w1.heap.size 3 3 [M,x.r.base,1] rfl (RdC.laid w1 #[.int .i64 M,.int .i64 x.r.base,.int .i64 1] 3 _ rfl) (by omega) (fun y hy=>by
            simp only [zt,zi,or_false] at hy;rcases hy with rfl | rfl | rfl <;> omega) (by simp only [List.sum_cons,List.sum_nil];omega)).mono ?_
           rintro e w2 ⟨rfl,rfl⟩;have HS3:=yA (show [M,x.r.base,1].sum=A by rw [HE.out.1];simp only [List.sum_cons,List.sum_nil];omega);rw [HS3.out];generalize w1.alloc (.cells #[.int .i64 M,.int .i64 x.r.base,.int .i64 1] 3)=W2 at *;go_wp2_with fail
           go_ret2
           exact ⟨by rw [HE.out.2];rfl,HB2.out⟩
     · have HE:=yA (zZ (HAE.out.symm.trans (iX H0E.out (by omega))))
       rw [show cx x.since=false from decide_eq_false ht2];clear ht2;go_wp2_with fail
       go_ret2
       exact ⟨by rw [HE.out.1,HE.out.2];rfl,HW1.out.below⟩
   · have HE:=yA (zZ (HAE.out.symm.trans (iX H0E.out (by omega))))
     rw [show cx now=false from decide_eq_false ht1];clear ht1;go_wp2_with fail
     go_ret2
     exact ⟨by rw [HE.out.1,HE.out.2];rfl,HW1.out.below⟩
 · have HE:=yA (zZ (HAE.out.symm.trans (oq h0)))
   have b1:(bn c x.r==0)=false:=by simp [h0]
   have b2:(bn c x.r != 0)=true:=by simp [h0]
   clear h0;generalize bn c x.r=C at *;go_wp2_with fail
   go_ret2
   exact ⟨by rw [HE.out.1,HE.out.2];rfl,HW1.out.below⟩
theorem ix (c:ae) (now:Int) (x:ad) (l:List ad):gp c now (x::l)=if (wtP c now x).2≠0 then (wtP c now x).2 else gp c now l:=rfl
theorem lR {c:ae} {now:Int} {l:List ad} (h:∀ (j:Nat) (x:ad),l[j]?=some x→(wtP c now x).2=0):gp c now l=0:=by
 induction l with
 | nil=>rfl
 | cons a l ih=>rw [ix,h 0 a (by simp),if_neg (by simp)];exact ih (fun j x hx=>h (j+1) x (by simpa using hx))
theorem lh {c:ae} {now:Int}:∀ {l:List ad} {k:Nat} {x:ad},l[k]?=some x→(wtP c now x).2≠0→(∀ (j:Nat) (y:ad),j<k→l[j]?=some y→(wtP c now y).2=0)→gp c now l=(wtP c now x).2
 | [],k,x,h,_,_=>by simp at h
 | a::l,0,x,h,hne,_=>by
   simp only [List.getElem?_cons_zero,zL] at h;subst h;rw [ix,if_pos hne]
 | a::l,k+1,x,h,hne,hz=>by
   simp only [List.getElem?_cons_succ] at h;rw [ix,hz 0 a (by omega) (by simp),if_neg (by simp)];exact lh h hne (fun j y hj hy=>hz (j+1) y (by omega) (by simpa using hy))
theorem jv {l:List ak} (h:∀ (j:Nat) (x:ak),l[j]?=some x→aR x.d=0):eO l=0:=by
 induction l with
 | nil=>rfl
 | cons a l ih=>rw [eO,h 0 a (by simp),if_neg (by simp)];exact ih (fun j x hx=>h (j+1) x (by simpa using hx))
theorem iy:∀ {l:List ak} {k:Nat} {x:ak},l[k]?=some x→aR x.d≠0→(∀ (j:Nat) (y:ak),j<k→l[j]?=some y→aR y.d=0)→eO l=aR x.d
 | [],k,x,h,_,_=>by simp at h
 | a::l,0,x,h,hne,_=>by
   simp only [List.getElem?_cons_zero,zL] at h;subst h;rw [eO,if_pos hne]
 | a::l,k+1,x,h,hne,hz=>by
   simp only [List.getElem?_cons_succ] at h;rw [eO,hz 0 a (by omega) (by simp),if_neg (by simp)];exact iy h hne (fun j y hj hy=>hz (j+1) y (by omega) (by simpa using hy))
theorem qq {c:ae} {now:Int} {ws:List ad} {ds:List ak} (h:aB c=false):bO c now ws ds=160:=by simp [bO,al,h]
theorem qr {c:ae} {now:Int} {ws:List ad} {ds:List ak} (h1:aB c=true) (h:cx now=false):bO c now ws ds=1:=by simp [bO,al,h1,h]
theorem qs {c:ae} {now:Int} {ws:List ad} {ds:List ak} (h1:aB c=true) (h2:cx now=true) (h:64<ws.length∨64<ds.length):bO c now ws ds=3:=by simp only [bO,al,h1,h2,if_true,ne_eq,not_true_eq_false,if_false,Bool.not_true,Bool.false_eq_true,if_pos h]
theorem qt {c:ae} {now:Int} {ws:List ad} {ds:List ak} (h1:aB c=true) (h2:cx now=true) (h3:¬ (64<ws.length∨64<ds.length)) (h:gp c now ws≠0):bO c now ws ds=gp c now ws:=by simp only [bO,al,h1,h2,if_true,ne_eq,not_true_eq_false,if_false,Bool.not_true,Bool.false_eq_true,if_neg h3,if_pos h]
theorem qu {c:ae} {now:Int} {ws:List ad} {ds:List ak} (h1:aB c=true) (h2:cx now=true) (h3:¬ (64<ws.length∨64<ds.length)) (h:gp c now ws=0):bO c now ws ds=eO ds:=by simp only [bO,al,h1,h2,if_true,ne_eq,not_true_eq_false,if_false,Bool.not_true,Bool.false_eq_true,if_neg h3,h]
def e8 (c:ae) (now:Int) (ws:List ad) (p:ag):ab:=⟨p.r,p.c,match ws[p.r.toNat]? with | none=>0 | some w=>(wtP c now w).1⟩
theorem ot {c:ae} {now:Int} {ws:List ad} {p:ag} {x:ad} (h:ws[p.r.toNat]?=some x):e8 c now ws p=⟨p.r,p.c,(wtP c now x).1⟩:=by simp only [e8,h]
theorem ou {ws:List ad} {ds:List ak} {p:ag} (h:p ∈ bN ws ds):0≤p.r∧p.r<ws.length∧0≤p.c∧p.c<ds.length:=by
 unfold bN pairsRow at h;rw [List.mem_flatMap] at h;obtain ⟨i,hi,h⟩:=h;unfold cJ at h;rw [List.mem_map] at h;obtain ⟨k,hk,rfl⟩:=h;rw [List.mem_filter] at hk;have h1:=List.mem_range.1 hi;have h2:=List.mem_range.1 hk.1;exact ⟨by simp,by simpa using h1,by simp,by simpa using h2⟩
theorem jR (ws:List ad) (ds:List ak):(bN ws ds).length≤ws.length*ds.length:=ks ws ds ws.length
theorem dA {α β:Type} {l:List α} {f:α→β} {j:Nat} {x:α} (hx:l[j]?=some x):(l.take (j+1)).map f=(l.take j).map f++[f x]:=by
 rw [zk (yD.1 hx).1,(yD.1 hx).2];simp
def GraphPost (w:World) (c:ae) (now:Int) (ws:List ad) (ds:List ak) (e:Ending) (w':World):Prop:=
 (bO c now ws ds≠0∧e = .returned (.tuple #[.agg #[.int .i64 0,.int .i64 0,.slice none 0 0],.int .i64 (bO c now ws ds)])∧Below w.heap.size w w')∨
 (bO c now ws ds=0∧∃ ev,e = .returned (.tuple #[.agg #[.int .i64 ws.length,.int .i64 ds.length,ev],.int .i64 0])∧Grown w ab.cells 3 (bj c now ws ds) ev w')
theorem GraphPost.no {w:World} {c:ae} {now:Int} {ws:List ad} {ds:List ak} {w':World} {E:Int} (h:bO c now ws ds=E) (hE:E≠0) (hb:Below w.heap.size w w'):GraphPost w c now ws ds (.returned (.tuple #[.agg #[.int .i64 0,.int .i64 0,.slice none 0 0],.int .i64 E])) w':=by
 subst h;exact .inl ⟨hE,rfl,hb⟩
theorem GraphPost.yes {w:World} {c:ae} {now:Int} {ws:List ad} {ds:List ak} {w':World} {n m:Nat} {ev:Value} (hE:bO c now ws ds=0) (hn:ws.length=n) (hm:ds.length=m) (hg:Grown w ab.cells 3 (bj c now ws ds) ev w') :
 GraphPost w c now ws ds (.returned (.tuple #[.agg #[.int .i64 n,.int .i64 m,ev],.int .i64 0])) w':=by
 subst hn;subst hm;exact .inr ⟨hE,ev,rfl,hg⟩
structure c7 (w:World) (c:ae) (H0 H8:Nat) (wr:World):Prop where
 g:wr.heap[H0]?=some (.cells #[.int .i64 c.q,.int .i64 c.d,.int .i64 c.w,.int .i64 c.ttl,.int .i64 c.b] 23 (0,0))
 r:wr.heap[H8]?=some (.cells #[.int .i64 0,.int .i64 0,.slice none 0 0] 28 (0,0))
 below:Below w.heap.size w wr
theorem c7.keep {w:World} {c:ae} {H0 H8:Nat} {wr w':World} (h:c7 w c H0 H8 wr) (hb:Below wr.heap.size wr w'):c7 w c H0 H8 w':=
 ⟨(Keep.of_below hb (yB _) (fun _=>False)).old h.g id,(Keep.of_below hb (yB _) (fun _=>False)).old h.r id,Below.next h.below hb⟩
theorem c7.one {w:World} {c:ae} {H0 H8:Nat} {wr:World} (h:c7 w c H0 H8 wr) (o:Obj):c7 w c H0 H8 (wr.alloc o):=h.keep ((yH _ _).alloc (yB _) _)
theorem c7.begin (w:World) (c:ae):c7 w c w.heap.size (w.heap.size+1) ((w.alloc (.cells #[.int .i64 c.q,.int .i64 c.d,.int .i64 c.w,.int .i64 c.ttl,.int .i64 c.b] 23)).alloc (.cells #[.int .i64 0,.int .i64 0,.slice none 0 0] 28)):=by
 refine ⟨(Keep.alloc (fun _=>False) _ _).old (yE w _) id,?_,((yH w.heap.size w).alloc (yB _) _).alloc (by simp) _⟩;have:=yE (w.alloc (.cells #[.int .i64 c.q,.int .i64 c.d,.int .i64 c.w,.int .i64 c.ttl,.int .i64 c.b] 23)) (.cells #[.int .i64 0,.int .i64 0,.slice none 0 0] 28);rw [show (w.alloc (.cells #[.int .i64 c.q,.int .i64 c.d,.int .i64 c.w,.int .i64 c.ttl,.int .i64 c.b] 23)).heap.size=w.heap.size+1 by simp] at this;exact this
theorem c7.write {w:World} {c:ae} {H0 H8:Nat} {wr:World} (h:c7 w c H0 H8 wr) (hH:w.heap.size≤H8) (a b d:Value):Below w.heap.size w (((wr.setCell ⟨H8,0,none⟩ a).setCell ⟨H8,1,none⟩ b).setCell ⟨H8,2,none⟩ d):=
 ((h.below.setCell (p:=⟨H8,0,none⟩) hH a).setCell (p:=⟨H8,1,none⟩) hH b).setCell (p:=⟨H8,2,none⟩) hH d
theorem Own.sl {w:World} {size:Nat} {v:Value} {n:Nat} {xs:List Value} (h:Own w size v n xs):∃ ao cap,v = .slice ao n cap:=by
 rcases h.2 with ⟨h,h0⟩ | ⟨g,cap,h,_⟩
 · exact ⟨none,0,by rw [h,h0]⟩
 · exact ⟨_,cap,h⟩
theorem c7.keepX {w:World} {c:ae} {H0 H8:Nat} {wr w':World} {X:Nat→Prop} (h:c7 w c H0 H8 wr) (hk:Keep X wr w') (h0:¬ X H0) (h8:¬ X H8) (hb:∀ i,i<w.heap.size→¬ X i):c7 w c H0 H8 w':=
 ⟨hk.old h.g h0,hk.old h.r h8,h.below.trans (hk.below h.below.size hb)⟩
theorem c7.set {w:World} {c:ae} {H0 H8 G:Nat} {wr:World} (h:c7 w c H0 H8 wr) (h0:H0<H8) (h8:H8<G) (hw:w.heap.size≤H8) (k:Nat) (v:Value):c7 w c H0 H8 (wr.setCell ⟨G,k,none⟩ v):=
 ⟨(Keep.setCell wr G k v).old h.g (by omega),(Keep.setCell wr G k v).old h.r (by omega),h.below.setCell (p:=⟨G,k,none⟩) (by simp;omega) v⟩
theorem Grown.write {α:Type} {w:World} {f:α→List Value} {k:Nat} {l:List α} {v:Value} {wr:World} (h:Grown w f k l v wr) {H:Nat} (hH:w.heap.size≤H) (hne:∀ g,v.ownBlock=some g→g≠H) (a b d:Value):Grown w f k l v (((wr.setCell ⟨H,0,none⟩ a).setCell ⟨H,1,none⟩ b).setCell ⟨H,2,none⟩ d):=by
 have hk:Keep (fun k=>k=H) wr (((wr.setCell ⟨H,0,none⟩ a).setCell ⟨H,1,none⟩ b).setCell ⟨H,2,none⟩ d):=
  ((Keep.setCell wr H 0 a).trans (Keep.setCell _ H 1 b) (fun _ _ h=>h) (fun _ _ h=>h)).trans (Keep.setCell _ H 2 d) (fun _ _ h=>h) (fun _ _ h=>h)
 exact ⟨h.own.keep hk hne,h.below.trans (hk.below h.below.size (fun i hi he=>by omega)),h.new⟩
def mm (c:ae) (now:Int) (ws:List ad) (n k:Nat):List Value:=(ws.take k).map (fun x=>Value.int .i64 (wtP c now x).1)++List.replicate (n - k) (.int .i64 0)
theorem ul (c:ae) (now:Int) (ws:List ad) (n:Nat):mm c now ws n 0=List.replicate n (.int .i64 0):=by simp [mm]
theorem um {c:ae} {now:Int} {ws:List ad} {n k:Nat} {x:ad} (hn:ws.length=n) (hx:ws[k]?=some x):mm c now ws n (k+1)=(mm c now ws n k).set k (.int .i64 (wtP c now x).1):=by
 have hk:=(yD.1 hx).1;unfold mm;rw [dA hx,List.set_append_right _ _ (by rw [zy,yY];omega),zy,yY,show k - min k ws.length=0 by omega,show n - k=(n - (k+1))+1 by omega,List.replicate_succ,zq];rfl
theorem un {c:ae} {now:Int} {ws:List ad} {n k:Nat} (hn:ws.length=n) (hk:k<n):(mm c now ws n k)[k]?=some (.int .i64 0):=by
 unfold mm;rw [List.getElem?_append_right (by rw [zy,yY];omega),zy,yY,List.getElem?_replicate,if_pos (by omega)]
theorem xQ {c:ae} {now:Int} {ws:List ad} {n i:Nat} {x:ad} (hn:ws.length=n) (hx:ws[i]?=some x):(mm c now ws n n)[i]?=some (.int .i64 (wtP c now x).1):=by
 have hi:=(yD.1 hx).1;unfold mm;rw [zh (by omega),List.getElem?_append_left (by rw [zy];exact hi)];simp [hx]
theorem bC {wr:World} {H8:Nat} {x y z:Value} (h:wr.heap[H8]?=some (.cells #[x,y,z] 28 (0,0))) (a b d:Value) :
 ((((wr.setCell ⟨H8,0,none⟩ a).setCell ⟨H8,1,none⟩ b).setCell ⟨H8,2,none⟩ d).cell? ⟨H8,0,none⟩=some a)∧((((wr.setCell ⟨H8,0,none⟩ a).setCell ⟨H8,1,none⟩ b).setCell ⟨H8,2,none⟩ d).cell? ⟨H8,1,none⟩=some b)∧((((wr.setCell ⟨H8,0,none⟩ a).setCell ⟨H8,1,none⟩ b).setCell ⟨H8,2,none⟩ d).cell? ⟨H8,2,none⟩=some d):=by
 have hq:(((wr.setCell ⟨H8,0,none⟩ a).setCell ⟨H8,1,none⟩ b).setCell ⟨H8,2,none⟩ d).heap[H8]?=some (.cells #[a,b,d] 28 (0,0)):=aj (aj (aj h 0 a) 1 b) 2 d;obtain ⟨q0,q1,q2,_⟩:=cells3 hq;exact ⟨q0,q1,q2⟩
end Go.Proofs.YtcaicgipibcicaaGreat
namespace Go.Proofs.YtcaicgipibcicaaGreat
section
variable {P:Program} {ops:Array Oper} {md:Region.Mode} {S:World→Prop} {Q:Exit→Act→World→Prop}
def jS (P:Program) (md:Region.Mode) (ops:Array Oper) (Q:Exit→Act→World→Prop) (S:World→Prop) (n:Nat) (L:Array Bool→Act→World→Prop):Nat→Array Bool→Act→World→Prop
 | 0,listed,a,w=>L listed a w
 | f+1,listed,a,w=>Region.ready md ops listed≠[]∧∀ i ∈ Region.ready md ops listed,i<n∧wpOp P ops Q i (fun a' w'=>S w'∧jS P md ops Q S n L f (listed.setIfInBounds i true) a' w') a w
theorem fQ {n g:Nat} {L:Array Bool→Act→World→Prop} (hL:∀ listed a w,L listed a w→wpAny P md ops Q g listed a w) :
 ∀ (f:Nat) (listed:Array Bool) (a:Act) (w:World),jS P md ops Q S n L f listed a w→wpAny P md ops Q (f+g) listed a w
 | 0,listed,a,w,h=>by rw [yO];exact hL _ _ _ h
 | f+1,listed,a,w,h=>by
   rw [show f+1+g=(f+g)+1 by omega];exact ⟨fun h0=>absurd h0 h.1,fun i hi=>wpOp_mono (fun a' w' h'=>fQ hL f _ a' w' h'.2) (h.2 i hi).2⟩
theorem kz {n i:Nat} {oi:Oper} {v:Value} {L:Array Bool→Act→World→Prop} (hi:ops[i]?=some oi) (hsel:∀ (j:Nat) (o:Oper) cs b,ops[j]?=some o→o.op≠.select cs b)
 (hs:Region.sinkB md ops n=true) (hc:Region.chainB md ops n=true) (hn:n<ops.size) (hin:i<n)
 (hQ:∀ c a w,Q (.panic c) (a.put oi.dst v) w→Q (.panic c) a w)
 (hdone:∀ listed a w,L listed a w→∀ j ∈ Region.ready md ops listed,n≤j) :
 ∀ (f:Nat) (listed:Array Bool) (a:Act) (w:World),HeadInv md ops n listed→
  (∀ j oj,ops[j]?=some oj→j≠i→listed.getD j true=false→(∀ e ∈ oj.after,Region.binds md e=true→e.on≠i)→oi.apart ops oj=true)→
  i ∈ Region.ready md ops listed→YieldsIf P ops S oi v a→S w→
  jS P md ops Q S n L f (listed.setIfInBounds i true) (a.put oi.dst v) w→jS P md ops Q S n L (f+1) listed a w:=by
 intro f
 induction f with
 | zero=>
   intro listed a w inv _ hr hy hS H;have hun:=(mem_ready.1 hr).1
   have below:∀ j ∈ Region.ready md ops listed,j<n:=fun j hj=>
    Nat.lt_of_not_le fun h=>tail_waits hs hc hn inv _ i rfl hin hun j h hj
   refine ⟨fun h=>(by rw [h] at hr;cases hr),fun j hj=>⟨below j hj,?_⟩⟩;by_cases hji:j=i
   · subst hji;exact hy.wpOp hi hS ⟨hS,H⟩
   · have h1:=hdone _ _ _ H j (ready_mono hj hji)
     have h2:=below j hj;omega
 | succ f ih=>
   intro listed a w inv hfree hr hy hS H;have hun:=(mem_ready.1 hr).1
   have below:∀ j ∈ Region.ready md ops listed,j<n:=fun j hj=>
    Nat.lt_of_not_le fun h=>tail_waits hs hc hn inv _ i rfl hin hun j h hj
   refine ⟨fun h=>(by rw [h] at hr;cases hr),fun j hj=>⟨below j hj,?_⟩⟩;by_cases hji:j=i
   · subst hji;exact hy.wpOp hi hS ⟨hS,H⟩
   · have hstep:=(H.2 j (ready_mono hj hji)).2
     obtain ⟨hjun,oj,hoj,hall⟩:=mem_ready.1 hj
     have hnot:∀ e ∈ oj.after,Region.binds md e=true→e.on≠i:=by
      intro e he hb heq;have hl:=hall e he hb;rw [heq,getD_both hun] at hl;cases hl
     have hboth:=wpOp_putIf hoj (hfree j oj hoj hji hjun hnot) (fun cs b=>hsel i oi cs b hi) (fun cs b=>hsel j oj cs b hoj) hQ hy hstep;refine wpOp_mono (fun a' w' h3=>⟨h3.2.1,ih (listed.setIfInBounds j true) a' w' (inv.set hj (below j hj)) ?_ (ready_mono hr (Ne.symm hji)) h3.1 h3.2.1 ?_⟩) hboth
     · intro k ok hk hki hku hno
       have hkk:listed.getD k true=false:=by
        by_cases hjk:j=k
        · rw [←hjk];exact hjun
        · rwa [getD_set_ne true hjk] at hku
       exact hfree k ok hk hki hkk hno
     · have h4:=h3.2.2
       rwa [Array.setIfInBounds_comm _ _ (Ne.symm hji)] at h4
def eG (P:Program) (ops:Array Oper) (S:World→Prop) (K:Act→Prop):List Oper→Act→Prop
 | [],a=>K a
 | o::rest,a=>∃ v,YieldsIf P ops S o v a∧eG P ops S K rest (a.put o.dst v)
theorem bs {K:Act→Prop} {a:Act} (h:K a):eG P ops S K [] a:=h
theorem bg {K:Act→Prop} {a:Act} {o:Oper} {rest:List Oper} {v:Value} (hy:YieldsIf P ops S o v a) (h:eG P ops S K rest (a.put o.dst v)):eG P ops S K (o::rest) a:=⟨v,hy,h⟩
theorem aC {i:Nat} {o:Oper} {a:Act} {w:World} {K:Act→World→Prop} (h0:ops[i]?=some o)
 (h:∀ K':Act→World→Prop,(∀ a w,K a w→K' a w)→if Region.wanted o (yielded ops a.tmps)=true then o.wp P a w K' Q else K' (a.put o.dst undef) w):wpOp P ops Q i K a w:=by
 have h1:=h K (fun _ _ h=>h);unfold wpOp;simp only [h0];split
 · rename_i hw
   rw [if_pos hw] at h1;exact .inl h1
 · rename_i hw
   rw [if_neg hw] at h1;exact h1
theorem ov (hQ:∀ c (a:Act) (t:Nat) (v:Value) w,Q (.panic c) (a.put (some t) v) w→Q (.panic c) a w) (c:List PanicEntry) (a:Act) (d:Option Nat) (v:Value) (w:World) (h:Q (.panic c) (a.put d v) w):Q (.panic c) a w:=by
 cases d with
 | none=>exact h
 | some t=>exact hQ c a t v w h
theorem m6 {n g:Nat} {Lq:Act→World→Prop} (hsel:Region.noSelect ops=true) (hs:Region.sinkB md ops (n+1)=true) (hc:Region.chainB md ops (n+1)=true) (hn:n+1<ops.size)
 (hQ:∀ c (a:Act) (t:Nat) (v:Value) w,Q (.panic c) (a.put (some t) v) w→Q (.panic c) a w) :
 ∀ (l:List Oper) (k:Nat) (listed:Array Bool) (a:Act) (w:World),(∀ j,j<l.length→l[j]?=ops[k+j]?)→k+l.length=n→HeadInv md ops (n+1) listed→
 Region.lexHead md ops (g+1) l.length k listed=true→S w→eG P ops S (fun a'=>wpOp P ops Q n (fun a'' w''=>S w''∧Lq a'' w'') a' w) l a→
 jS P md ops Q S (n+1) (fun listed' a' w'=>Region.seqB md ops g (n+1) listed'=true∧Lq a' w') (l.length+1) listed a w
 | [],k,listed,a,w,_,hk,_,hB,_,h=>by
   have hkn:k=n:=by simpa using hk
   subst hkn;simp only [List.length_nil,Region.lexHead,Region.seqB,zD,decide_eq_true_eq] at hB;refine ⟨by rw [hB.1];exact List.cons_ne_nil _ _,fun i hi=>?_⟩;rw [hB.1] at hi;have hik:i=k:=by simpa using hi
   subst hik;have hw:wpOp P ops Q i (fun a'' w''=>S w''∧Lq a'' w'') a w:=h;exact ⟨by omega,wpOp_mono (fun a' w' h'=>⟨h'.1,hB.2,h'.2⟩) hw⟩
 | o::l,k,listed,a,w,hl,hk,inv,hB,hS,h=>by
   have h0:ops[k]?=some o:=by simpa using (hl 0 (by simp)).symm
   simp only [zg,Region.lexHead,zD] at hB;have hkn:k<n+1:=by simp only [zg] at hk;omega
   have hr:k ∈ Region.ready md ops listed:=by simpa using hB.1.1
   obtain ⟨v,hy,hK⟩:=h;refine kz h0 (Region.noSelect_spec hsel) hs hc hn hkn (fun c a' w' hp=>ov hQ c a' _ _ w' hp) (fun listed' a' w' hL=>seqB_ready hL.1) (l.length+1) listed a w inv (Region.free_spec h0 hB.1.2) hr hy hS ?_;refine m6 hsel hs hc hn hQ l (k+1) _ _ w (fun j hj=>?_) (by simp only [zg] at hk;omega) (inv.set hr hkn) hB.2 hS hK;have h5:=hl (j+1) (by simp only [zg];omega);rw [show k+1+j=k+(j+1) by omega,←h5];rfl
def vQ (ops:Array Oper) (n:Nat):Bool:=
 Region.noSelect ops && decide (n+1<ops.size) && Region.sinkB .any ops (n+1) && Region.chainB .any ops (n+1) && Region.lexHead .any ops (ops.size - (n+1)+1) n 0 (Array.replicate ops.size false)
theorem fa {id:Nat} {a:Act} {w:World} {l:List Oper} (n:Nat) (S:World→Prop) (hm:P.follows .mixedOrders=true) (hB:vQ l.toArray n=true)
 (hQ:∀ c (a:Act) (t:Nat) (v:Value) w,Q (.panic c) (a.put (some t) v) w→Q (.panic c) a w) (hS:S w.drew)
 (h:eG P l.toArray S (fun a'=>wpOp P l.toArray Q n (fun a'' w''=>S w''∧wpList P l.toArray Q (l.drop (n+1)) a'' w'') a' w.drew) (l.take n) a):(Code.region id l.toArray true).wp P Q a w:=by
 simp only [vQ,zD,decide_eq_true_eq] at hB;obtain ⟨⟨⟨⟨hsel,hn⟩,hs⟩,hc⟩,hlex⟩:=hB;have hn':n+1<l.length:=by simpa using hn
 have htl:(l.take n).length=n:=by simp;omega
 have hdl:(l.drop (n+1)).length=l.toArray.size - (n+1):=by simp
 have inv0:HeadInv .any l.toArray (n+1) (Array.replicate l.toArray.size false):=
  ⟨by simp,fun j oj _ hl=>(by rw [getD_replicate_false] at hl;cases hl),fun t _ ht=>getD_in (by simpa using ht) (getD_replicate_false _ _)⟩
 have H:=m6 (md:=.any) (g:=l.toArray.size - (n+1)) hsel hs hc hn hQ (l.take n) 0 _ a w.drew (fun j hj=>by
  rw [htl] at hj;simp [hj]) (by simpa using htl) inv0 (by rw [htl];exact hlex) hS h
 refine wp_region_any hm ?_
 have hA:=fQ (g:=l.toArray.size - (n+1)) (fun listed a' w' hL=>by
  have hT:=wpAny_of_seq (md:=.any) (l.drop (n+1)) (n+1) listed a' w' (fun j=>by simp [List.getElem?_drop]) (by rw [hdl];exact hL.1) hL.2;rwa [hdl] at hT) _ _ _ _ H
 rw [htl,show n+1+(l.toArray.size - (n+1))=l.toArray.size by omega] at hA;exact hA
end
end Go.Proofs.YtcaicgipibcicaaGreat
