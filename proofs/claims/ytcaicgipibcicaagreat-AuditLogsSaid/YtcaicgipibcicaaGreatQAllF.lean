/- Graphs that may be; what a pair is worth. No program in sight. -/
import Derived.Test.YtcaicgipibcicaaGreatQRFit1
open List renaming all_eq_true→zO
namespace Go.Proofs.YtcaicgipibcicaaGreat
open Go.RowKit
def jB (rows cols:Int) (x:ab):Bool:=decide (0≤x.r∧x.r<rows∧0≤x.c∧x.c<cols∧1≤x.w∧x.w≤1099513724929)
def ep (p x:ab):Bool:=decide (p.r<x.r∨(p.r=x.r∧p.c<x.c))
def cv (rows cols:Int) (l:List ab) (i:Nat):Bool:=match l[i]? with
 | none=>true
 | some x=>jB rows cols x && (match i with
   | 0=>true
   | j+1=>match l[j]? with
     | none=>true
     | some p=>ep p x)
def mj (rows cols:Int):Bool:=decide (0≤rows∧rows≤64∧0≤cols∧cols≤64)
def aQ (rows cols:Int) (l:List ab):Bool:=mj rows cols && (List.range l.length).all (cv rows cols l)
def aY (rows cols:Int) (l:List ab):Int:=if aQ rows cols l then 0 else 170
theorem jC {rows cols:Int} {l:List ab} (h:¬ (0≤rows∧rows≤64∧0≤cols∧cols≤64)):aY rows cols l=170:=by
 have:mj rows cols=false:=by unfold mj;exact decide_eq_false h
 simp [aY,aQ,this]
theorem jD {rows cols:Int} {l:List ab} {i:Nat} (hi:i<l.length) (h:cv rows cols l i=false):aY rows cols l=170:=by
 have:(List.range l.length).all (cv rows cols l)=false:=by
  rw [List.all_eq_false];exact ⟨i,List.mem_range.2 hi,by simp [h]⟩
 simp [aY,aQ,this]
theorem im {rows cols:Int} {l:List ab} (h0:0≤rows∧rows≤64∧0≤cols∧cols≤64) (h:∀ j,j<l.length→cv rows cols l j=true):aY rows cols l=0:=by
 have h1:(List.range l.length).all (cv rows cols l)=true:=by
  rw [zO];intro x hx;exact h x (List.mem_range.1 hx)
 have h2:mj rows cols=true:=by unfold mj;exact decide_eq_true h0
 simp [aY,aQ,h1,h2]
theorem jE {rows cols:Int} {l:List ab} {i:Nat} {x:ab} (hx:l[i]?=some x) (h:¬ (0≤x.r∧x.r<rows∧0≤x.c∧x.c<cols∧1≤x.w∧x.w≤1099513724929)):cv rows cols l i=false:=by
 have:jB rows cols x=false:=by unfold jB;exact decide_eq_false h
 unfold cv;simp [hx,this]
theorem oS {rows cols:Int} {l:List ab} {x:ab} (hx:l[0]?=some x) (h:0≤x.r∧x.r<rows∧0≤x.c∧x.c<cols∧1≤x.w∧x.w≤1099513724929):cv rows cols l 0=true:=by
 have:jB rows cols x=true:=by unfold jB;exact decide_eq_true h
 unfold cv;simp [hx,this]
theorem lB {rows cols:Int} {l:List ab} {i:Nat} {p x:ab} (hp:l[i]?=some p) (hx:l[i+1]?=some x) (h:0≤x.r∧x.r<rows∧0≤x.c∧x.c<cols∧1≤x.w∧x.w≤1099513724929):cv rows cols l (i+1)=ep p x:=by
 have:jB rows cols x=true:=by unfold jB;exact decide_eq_true h
 unfold cv;simp only [hx,this,hp,Bool.true_and]
theorem oT {p x:ab} (h:x.r<p.r∨(x.r=p.r∧x.c≤p.c)):ep p x=false:=by unfold ep;exact decide_eq_false (by omega)
theorem eD {p x:ab} (h:¬ (x.r<p.r∨(x.r=p.r∧x.c≤p.c))):ep p x=true:=by unfold ep;exact decide_eq_true (by omega)
def fd (l:List ab) (i:Nat):ab:=match i with
 | 0=>⟨-1,0,0⟩
 | j+1=>l.getD j ⟨-1,0,0⟩
theorem f7 {rows cols:Int} {l:List ab} {i:Nat} {x:ab} (hx:l[i]?=some x) (h:0≤x.r∧x.r<rows∧0≤x.c∧x.c<cols∧1≤x.w∧x.w≤1099513724929):cv rows cols l i=ep (fd l i) x:=by
 cases i with
 | zero=>
   rw [oS hx h]
   symm
   apply eD
   simp only [fd];omega
 | succ j=>
   have hj:j<l.length:=by have:=(List.getElem?_eq_some_iff.1 hx).1;omega
   have hp:l[j]?=some (l.getD j ⟨-1,0,0⟩):=by simp [hj]
   rw [lB hp hx h];rfl
theorem fw {rows cols:Int} {l:List ab} {i:Nat} {x p:ab} (hx:l[i]?=some x) (hp:fd l i=p) (h:¬ (0≤x.r∧x.r<rows∧0≤x.c∧x.c<cols∧1≤x.w∧x.w≤1099513724929)∨x.r<p.r∨(x.r=p.r∧x.c≤p.c)):cv rows cols l i=false:=by
 by_cases hin:0≤x.r∧x.r<rows∧0≤x.c∧x.c<cols∧1≤x.w∧x.w≤1099513724929
 · rw [f7 hx hin,hp]
   exact oT (h.resolve_left (fun k=>k hin))
 · exact jE hx hin
theorem gy {rows cols:Int} {l:List ab} {i:Nat} {x p:ab} (hx:l[i]?=some x) (hp:fd l i=p) (hin:0≤x.r∧x.r<rows∧0≤x.c∧x.c<cols∧1≤x.w∧x.w≤1099513724929) (h:p.r<x.r∨(x.r=p.r∧p.c<x.c)):cv rows cols l i=true:=by
 rw [f7 hx hin,hp];exact eD (by omega)
theorem jF {l:List ab} {i:Nat} {x:ab} (hx:l[i]?=some x):fd l (i+1)=x:=by
 simp [fd,hx]
/-! what a pair is worth -/
def f8 (c:ae) (now:Int) (w:ad) (e:Int):Int × Int:=
 if e≠0 then (0,e) else if ¬ (0≤now∧now≤1099511627776∧0≤w.since∧w.since≤1099511627776∧w.since≤now) then (0,1) else if w.r.ttl<now - w.since then (0,131)
 else ((now - w.since)*(c.b+1)+w.r.base+1,0)
def c6 (n:Nat) (p:Nat→Bool):Bool:=(List.range n).all p
theorem bE {n:Nat} {p:Nat→Bool} {i:Nat} (hi:i<n) (h:p i=false):c6 n p=false:=by
 unfold c6;rw [List.all_eq_false];exact ⟨i,List.mem_range.2 hi,by simp [h]⟩
theorem aU {n:Nat} {p:Nat→Bool} (h:∀ j,j<n→p j=true):c6 n p=true:=by
 unfold c6;rw [zO];intro x hx;exact h x (List.mem_range.1 hx)
theorem dR {n:Nat} {p:Nat→Bool} (h:c6 n p=true) {j:Nat} (hj:j<n):p j=true:=by
 unfold c6 at h;rw [zO] at h;exact h j (List.mem_range.2 hj)
theorem pQ {n:Nat} {p:Nat→Bool}:c6 n p=true↔∀ j,j<n→p j=true:=⟨fun h _ hj=>dR h hj,aU⟩
theorem rA {n:Nat} {p q:Nat→Bool} (h:∀ j,j<n→p j=q j):c6 n p=c6 n q:=by
 rw [Bool.eq_iff_iff,pQ,pQ];exact ⟨fun a j hj=>by rw [←h j hj];exact a j hj,fun a j hj=>by rw [h j hj];exact a j hj⟩
theorem aX {k:Nat} {p:Nat→Bool} (h:∀ j,j<k→p j=true) (hk:p k=true):∀ j,j<k+1→p j=true:=fun j hj=>by
 rcases Nat.lt_succ_iff_lt_or_eq.1 hj with hj | rfl
 · exact h j hj
 · exact hk
theorem bB {p:Nat→Bool}:∀ j,j<0→p j=true:=fun j hj=>absurd hj (Nat.not_lt_zero j)
end Go.Proofs.YtcaicgipibcicaaGreat
