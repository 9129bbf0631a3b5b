/- The cells of an element of a list of structs. Printed by wip/gencells.py. -/
import Derived.Test.YtcaicgipibcicaaGreatQVals
set_option maxRecDepth 100000
set_option linter.unusedVariables false
open Go renaming cell_regrown→xk
open Go.World renaming cell?_alloc_mark→xD
open List renaming getElem?_eq_some_iff→wD,mem_cons→xg,not_mem_nil→xa
open Nat renaming le_trans→xc
open Option.some renaming injEq→xb
namespace Go.Proofs.YtcaicgipibcicaaGreat
open Go.RowKit Go.Sort
theorem bl {α:Type} {f:α→List Value} {k:Nat} (hf:∀ a,(f a).length=k) {w:World} {b o:Nat} {l:List α} (hr:RdC w (some ⟨b,o,none⟩) (cellsOf f l))
 {i:Nat} {x:α} (hx:l[i]?=some x) (j:Nat) (u:Value) (hu:(f x)[j]?=some u):w.cell? ⟨b,o+i*k+j,none⟩=some u:=by
 have hj:j<k:=by rw [←hf x];exact (wD.1 hu).1
 have hl:=cellsOf_length f k hf l;have hi:=(wD.1 hx).1;have hpos:0<(cellsOf f l).length:=by rw [hl];exact Nat.mul_pos (by omega) (by omega)
 obtain ⟨b',o',he,hc⟩:=hr.place hpos;simp only [xb,Addr.mk.injEq,and_true] at he;obtain ⟨rfl,rfl⟩:=he;exact wA hf hc hx j u hu
def bL (n:Int):List Value:=[.int .i64 n]
theorem bC (n:Int):(bL n).length=1:=rfl
theorem gm {w:World} {b o:Nat} {l:List Int} (hr:RdC w (some ⟨b,o,none⟩) (cellsOf bL l)) {i:Nat} {x:Int} (hx:l[i]?=some x):w.cell? ⟨b,o+i,none⟩=some (.int .i64 x):=by
 have:=bl bC hr hx 0 _ rfl
 simpa using this
theorem vu {w:World} {b:Nat} {l:List Int} (hr:RdC w (some ⟨b,0,none⟩) (cellsOf bL l)) {i:Nat} {x:Int} (hx:l[i]?=some x):w.cell? ⟨b,i,none⟩=some (.int .i64 x):=by
 have:=gm hr hx
 simpa using this
theorem vv {w:World} {b o:Nat} {l:List aa} (hr:RdC w (some ⟨b,o,none⟩) (cellsOf aa.cells l)) {i:Nat} {x:aa} (hx:l[i]?=some x) :
 w.cell? ⟨b,o+i*18,none⟩=some (.int .u8 x.r.i0)∧w.cell? ⟨b,o+i*18+1,none⟩=some (.int .u8 x.r.i1)∧w.cell? ⟨b,o+i*18+2,none⟩=some (.int .u8 x.r.i2)∧w.cell? ⟨b,o+i*18+3,none⟩=some (.int .u8 x.r.i3)∧w.cell? ⟨b,o+i*18+4,none⟩=some (.int .u8 x.r.i4)∧w.cell? ⟨b,o+i*18+5,none⟩=some (.int .u8 x.r.i5)∧w.cell? ⟨b,o+i*18+6,none⟩=some (.int .u8 x.r.i6)∧w.cell? ⟨b,o+i*18+7,none⟩=some (.int .u8 x.r.i7)∧w.cell? ⟨b,o+i*18+8,none⟩=some (.int .i16 x.r.fx)∧w.cell? ⟨b,o+i*18+9,none⟩=some (.int .i16 x.r.fy)∧w.cell? ⟨b,o+i*18+10,none⟩=some (.int .i16 x.r.tx)∧w.cell? ⟨b,o+i*18+11,none⟩=some (.int .i16 x.r.ty)∧w.cell? ⟨b,o+i*18+12,none⟩=some (.int .u8 x.r.seats)∧w.cell? ⟨b,o+i*18+13,none⟩=some (.int .u8 x.r.classes)∧w.cell? ⟨b,o+i*18+14,none⟩=some (.int .i64 x.r.base)∧w.cell? ⟨b,o+i*18+15,none⟩=some (.int .i64 x.r.ttl)∧w.cell? ⟨b,o+i*18+16,none⟩=some (.int .i64 x.since)∧w.cell? ⟨b,o+i*18+17,none⟩=some (.int .i64 x.number):=by
 have h:=bl aa.cells_length hr hx;exact ⟨h 0 _ rfl,h 1 _ rfl,h 2 _ rfl,h 3 _ rfl,h 4 _ rfl,h 5 _ rfl,h 6 _ rfl,h 7 _ rfl,h 8 _ rfl,h 9 _ rfl,h 10 _ rfl,h 11 _ rfl,h 12 _ rfl,h 13 _ rfl,h 14 _ rfl,h 15 _ rfl,h 16 _ rfl,h 17 _ rfl⟩
theorem vw {w:World} {b o:Nat} {l:List aa} (hr:RdC w (some ⟨b,o,none⟩) (cellsOf aa.cells l)) {i:Nat} {x:aa} (hx:l[i]?=some x) :
 (∀ (d:Nat) (os:Array Obj),(grow (redrawn w d) os).cell? ⟨b,o+i*18,none⟩=some (.int .u8 x.r.i0))∧(∀ (d:Nat) (os:Array Obj),(grow (redrawn w d) os).cell? ⟨b,o+i*18+1,none⟩=some (.int .u8 x.r.i1))∧(∀ (d:Nat) (os:Array Obj),(grow (redrawn w d) os).cell? ⟨b,o+i*18+2,none⟩=some (.int .u8 x.r.i2))∧(∀ (d:Nat) (os:Array Obj),(grow (redrawn w d) os).cell? ⟨b,o+i*18+3,none⟩=some (.int .u8 x.r.i3))∧(∀ (d:Nat) (os:Array Obj),(grow (redrawn w d) os).cell? ⟨b,o+i*18+4,none⟩=some (.int .u8 x.r.i4))∧(∀ (d:Nat) (os:Array Obj),(grow (redrawn w d) os).cell? ⟨b,o+i*18+5,none⟩=some (.int .u8 x.r.i5))∧(∀ (d:Nat) (os:Array Obj),(grow (redrawn w d) os).cell? ⟨b,o+i*18+6,none⟩=some (.int .u8 x.r.i6))∧(∀ (d:Nat) (os:Array Obj),(grow (redrawn w d) os).cell? ⟨b,o+i*18+7,none⟩=some (.int .u8 x.r.i7))∧(∀ (d:Nat) (os:Array Obj),(grow (redrawn w d) os).cell? ⟨b,o+i*18+8,none⟩=some (.int .i16 x.r.fx))∧(∀ (d:Nat) (os:Array Obj),(grow (redrawn w d) os).cell? ⟨b,o+i*18+9,none⟩=some (.int .i16 x.r.fy))∧(∀ (d:Nat) (os:Array Obj),(grow (redrawn w d) os).cell? ⟨b,o+i*18+10,none⟩=some (.int .i16 x.r.tx))∧(∀ (d:Nat) (os:Array Obj),(grow (redrawn w d) os).cell? ⟨b,o+i*18+11,none⟩=some (.int .i16 x.r.ty))∧(∀ (d:Nat) (os:Array Obj),(grow (redrawn w d) os).cell? ⟨b,o+i*18+12,none⟩=some (.int .u8 x.r.seats))∧(∀ (d:Nat) (os:Array Obj),(grow (redrawn w d) os).cell? ⟨b,o+i*18+13,none⟩=some (.int .u8 x.r.classes))∧(∀ (d:Nat) (os:Array Obj),(grow (redrawn w d) os).cell? ⟨b,o+i*18+14,none⟩=some (.int .i64 x.r.base))∧(∀ (d:Nat) (os:Array Obj),(grow (redrawn w d) os).cell? ⟨b,o+i*18+15,none⟩=some (.int .i64 x.r.ttl))∧(∀ (d:Nat) (os:Array Obj),(grow (redrawn w d) os).cell? ⟨b,o+i*18+16,none⟩=some (.int .i64 x.since))∧(∀ (d:Nat) (os:Array Obj),(grow (redrawn w d) os).cell? ⟨b,o+i*18+17,none⟩=some (.int .i64 x.number)):=by
 obtain ⟨h0,h1,h2,h3,h4,h5,h6,h7,h8,h9,h10,h11,h12,h13,h14,h15,h16,h17⟩:=vv hr hx;exact ⟨xk h0,xk h1,xk h2,xk h3,xk h4,xk h5,xk h6,xk h7,xk h8,xk h9,xk h10,xk h11,xk h12,xk h13,xk h14,xk h15,xk h16,xk h17⟩
theorem vx {w:World} {b o:Nat} {l:List ak} (hr:RdC w (some ⟨b,o,none⟩) (cellsOf ak.cells l)) {i:Nat} {x:ak} (hx:l[i]?=some x) :
 w.cell? ⟨b,o+i*14,none⟩=some (.int .u8 x.d.i0)∧w.cell? ⟨b,o+i*14+1,none⟩=some (.int .u8 x.d.i1)∧w.cell? ⟨b,o+i*14+2,none⟩=some (.int .u8 x.d.i2)∧w.cell? ⟨b,o+i*14+3,none⟩=some (.int .u8 x.d.i3)∧w.cell? ⟨b,o+i*14+4,none⟩=some (.int .u8 x.d.i4)∧w.cell? ⟨b,o+i*14+5,none⟩=some (.int .u8 x.d.i5)∧w.cell? ⟨b,o+i*14+6,none⟩=some (.int .u8 x.d.i6)∧w.cell? ⟨b,o+i*14+7,none⟩=some (.int .u8 x.d.i7)∧w.cell? ⟨b,o+i*14+8,none⟩=some (.int .i16 x.d.ax)∧w.cell? ⟨b,o+i*14+9,none⟩=some (.int .i16 x.d.ay)∧w.cell? ⟨b,o+i*14+10,none⟩=some (.int .u8 x.d.seats)∧w.cell? ⟨b,o+i*14+11,none⟩=some (.int .u8 x.d.cls)∧w.cell? ⟨b,o+i*14+12,none⟩=some (.int .i64 x.d.radius)∧w.cell? ⟨b,o+i*14+13,none⟩=some (.int .i64 x.number):=by
 have h:=bl ak.cells_length hr hx;exact ⟨h 0 _ rfl,h 1 _ rfl,h 2 _ rfl,h 3 _ rfl,h 4 _ rfl,h 5 _ rfl,h 6 _ rfl,h 7 _ rfl,h 8 _ rfl,h 9 _ rfl,h 10 _ rfl,h 11 _ rfl,h 12 _ rfl,h 13 _ rfl⟩
theorem vy {w:World} {b o:Nat} {l:List ak} (hr:RdC w (some ⟨b,o,none⟩) (cellsOf ak.cells l)) {i:Nat} {x:ak} (hx:l[i]?=some x) :
 (∀ (d:Nat) (os:Array Obj),(grow (redrawn w d) os).cell? ⟨b,o+i*14,none⟩=some (.int .u8 x.d.i0))∧(∀ (d:Nat) (os:Array Obj),(grow (redrawn w d) os).cell? ⟨b,o+i*14+1,none⟩=some (.int .u8 x.d.i1))∧(∀ (d:Nat) (os:Array Obj),(grow (redrawn w d) os).cell? ⟨b,o+i*14+2,none⟩=some (.int .u8 x.d.i2))∧(∀ (d:Nat) (os:Array Obj),(grow (redrawn w d) os).cell? ⟨b,o+i*14+3,none⟩=some (.int .u8 x.d.i3))∧(∀ (d:Nat) (os:Array Obj),(grow (redrawn w d) os).cell? ⟨b,o+i*14+4,none⟩=some (.int .u8 x.d.i4))∧(∀ (d:Nat) (os:Array Obj),(grow (redrawn w d) os).cell? ⟨b,o+i*14+5,none⟩=some (.int .u8 x.d.i5))∧(∀ (d:Nat) (os:Array Obj),(grow (redrawn w d) os).cell? ⟨b,o+i*14+6,none⟩=some (.int .u8 x.d.i6))∧(∀ (d:Nat) (os:Array Obj),(grow (redrawn w d) os).cell? ⟨b,o+i*14+7,none⟩=some (.int .u8 x.d.i7))∧(∀ (d:Nat) (os:Array Obj),(grow (redrawn w d) os).cell? ⟨b,o+i*14+8,none⟩=some (.int .i16 x.d.ax))∧(∀ (d:Nat) (os:Array Obj),(grow (redrawn w d) os).cell? ⟨b,o+i*14+9,none⟩=some (.int .i16 x.d.ay))∧(∀ (d:Nat) (os:Array Obj),(grow (redrawn w d) os).cell? ⟨b,o+i*14+10,none⟩=some (.int .u8 x.d.seats))∧(∀ (d:Nat) (os:Array Obj),(grow (redrawn w d) os).cell? ⟨b,o+i*14+11,none⟩=some (.int .u8 x.d.cls))∧(∀ (d:Nat) (os:Array Obj),(grow (redrawn w d) os).cell? ⟨b,o+i*14+12,none⟩=some (.int .i64 x.d.radius))∧(∀ (d:Nat) (os:Array Obj),(grow (redrawn w d) os).cell? ⟨b,o+i*14+13,none⟩=some (.int .i64 x.number)):=by
 obtain ⟨h0,h1,h2,h3,h4,h5,h6,h7,h8,h9,h10,h11,h12,h13⟩:=vx hr hx;exact ⟨xk h0,xk h1,xk h2,xk h3,xk h4,xk h5,xk h6,xk h7,xk h8,xk h9,xk h10,xk h11,xk h12,xk h13⟩
theorem gN {w:World} {b o:Nat} {l:List ab} (hr:RdC w (some ⟨b,o,none⟩) (cellsOf ab.cells l)) {i:Nat} {x:ab} (hx:l[i]?=some x) :
 w.cell? ⟨b,o+i*3,none⟩=some (.int .i64 x.r)∧w.cell? ⟨b,o+i*3+1,none⟩=some (.int .i64 x.c)∧w.cell? ⟨b,o+i*3+2,none⟩=some (.int .i64 x.w):=by
 have h:=bl ab.cells_length hr hx;exact ⟨h 0 _ rfl,h 1 _ rfl,h 2 _ rfl⟩
theorem na {w:World} {b o:Nat} {l:List ai} (hr:RdC w (some ⟨b,o,none⟩) (cellsOf ai.cells l)) {i:Nat} {x:ai} (hx:l[i]?=some x) :
 w.cell? ⟨b,o+i*2,none⟩=some (.int .i64 x.r)∧w.cell? ⟨b,o+i*2+1,none⟩=some (.int .i64 x.c):=by
 have h:=bl ai.cells_length hr hx;exact ⟨h 0 _ rfl,h 1 _ rfl⟩
theorem dF {P:Program} {e:TypeId} {z:Value} {s b:Nat} (h:(P.info? e).map (fun i=>(i.zero,i.size,i.bytes))=some (some z,s,b)):∃ i,P.info? e=some i∧i.zero=some z∧i.size=s∧i.bytes=b:=by
 cases hq:P.info? e with
 | none=>simp [hq] at h
 | some i=>
   simp [hq] at h;exact ⟨i,rfl,h.1,h.2.1,h.2.2⟩
def tz:Value:=.agg #[.int .u8 0,.int .u8 0,.int .u8 0,.int .u8 0,.int .u8 0,.int .u8 0,.int .u8 0,.int .u8 0,.int .i16 0,.int .i16 0,.int .i16 0,.int .i16 0,.int .u8 0,.int .u8 0,.int .i64 0,.int .i64 0,.int .i64 0,.int .i64 0]
def tA:Value:=.agg #[.int .u8 0,.int .u8 0,.int .u8 0,.int .u8 0,.int .u8 0,.int .u8 0,.int .u8 0,.int .u8 0,.int .i16 0,.int .i16 0,.int .u8 0,.int .u8 0,.int .i64 0,.int .i64 0]
def nS:Value:=.agg #[.int .i64 0,.int .i64 0,.int .i64 0]
def nT:Value:=.agg #[.int .i64 0,.int .i64 0]
theorem mt:(Tryz.prog.info? 79).map (fun i=>(i.zero,i.size,i.bytes))=some (some tz,18,56):=by kernel_rfl
theorem mu:(Tryz.prog.info? 83).map (fun i=>(i.zero,i.size,i.bytes))=some (some tA,14,32):=by kernel_rfl
theorem jp:(Tryz.prog.info? 114).map (fun i=>(i.zero,i.size,i.bytes))=some (some nS,3,24):=by kernel_rfl
theorem jq:(Tryz.prog.info? 69).map (fun i=>(i.zero,i.size,i.bytes))=some (some nT,2,16):=by kernel_rfl
theorem nU:(Tryz.prog.info? 3).map (fun i=>(i.zero,i.size,i.bytes))=some (some (.int .i64 0),1,8):=by kernel_rfl
theorem kM:(Tryz.prog.info? 5).map (fun i=>(i.zero,i.size,i.bytes))=some (some (.int .u8 0),1,1):=by kernel_rfl
theorem Src.lit {P:Program} {w:World} {tx e:TypeId} (hk:P.underlying tx=some (.slice e)) (k:Nat) (xs:List Value) (hl:xs.length=k) (h1:∀ u ∈ xs,u.oneCell'=true) (cs:Array Value) (t:TypeId) (h:cs=xs.toArray) :
 Src P k tx (.slice (some ⟨w.heap.size,0,none⟩) 1 1) 1 xs (w.alloc (.cells cs t)):=by
 subst h;refine Src.ofSlice (P:=P) _ hk _ _ 1 xs (by omega) (fun j u hu=>?_) h1;have hadd:(⟨w.heap.size,0,none⟩:Addr).add j=⟨w.heap.size,j,none⟩:=by unfold Addr.add;split <;> simp_all
 rw [hadd,xD]
 simpa using hu
theorem Src.litDrew {P:Program} {w:World} {tx e:TypeId} (hk:P.underlying tx=some (.slice e)) (k:Nat) (xs:List Value) (hl:xs.length=k) (h1:∀ u ∈ xs,u.oneCell'=true) (cs:Array Value) (t:TypeId) (h:cs=xs.toArray) :
 Src P k tx (.slice (some ⟨w.heap.size,0,none⟩) 1 1) 1 xs (w.alloc (.cells cs t)).drew:=by
 subst h;refine Src.ofSlice (P:=P) _ hk _ _ 1 xs (by omega) (fun j u hu=>?_) h1;have hadd:(⟨w.heap.size,0,none⟩:Addr).add j=⟨w.heap.size,j,none⟩:=by unfold Addr.add;split <;> simp_all
 rw [hadd]
 show (w.alloc (.cells xs.toArray t)).cell? ⟨w.heap.size,j,none⟩=_
 rw [xD]
 simpa using hu
theorem aa.cells_one (x:aa):∀ u ∈ x.cells,u.oneCell'=true:=by
 intro u hu;simp only [aa.cells,xg,xa,or_false] at hu;rcases hu with rfl | rfl | rfl | rfl | rfl | rfl | rfl | rfl | rfl | rfl | rfl | rfl | rfl | rfl | rfl | rfl | rfl | rfl <;> rfl
theorem ak.cells_one (x:ak):∀ u ∈ x.cells,u.oneCell'=true:=by
 intro u hu;simp only [ak.cells,xg,xa,or_false] at hu;rcases hu with rfl | rfl | rfl | rfl | rfl | rfl | rfl | rfl | rfl | rfl | rfl | rfl | rfl | rfl <;> rfl
theorem ab.cells_one (x:ab):∀ u ∈ x.cells,u.oneCell'=true:=by
 intro u hu;simp only [ab.cells,xg,xa,or_false] at hu;rcases hu with rfl | rfl | rfl <;> rfl
theorem ai.cells_one (x:ai):∀ u ∈ x.cells,u.oneCell'=true:=by
 intro u hu;simp only [ai.cells,xg,xa,or_false] at hu;rcases hu with rfl | rfl <;> rfl
theorem rN (n:Int):∀ u ∈ bL n,u.oneCell'=true:=by
 intro u hu;simp only [bL,xg,xa,or_false] at hu;subst hu;rfl
theorem di {α:Type} (f:α→List Value) (hf:∀ a,∀ u ∈ f a,u.oneCell'=true) (l:List α):∀ u ∈ cellsOf f l,u.oneCell'=true:=by
 intro u hu;simp only [cellsOf,List.mem_flatMap] at hu;obtain ⟨a,_,h⟩:=hu;exact hf a u h
structure Grown {α:Type} (w1:World) (f:α→List Value) (k:Nat) (l:List α) (v:Value) (wr:World):Prop where
 own:Own wr k v l.length (cellsOf f l)
 below:Below w1.heap.size w1 wr
 new:∀ g,v.ownBlock=some g→w1.heap.size≤g
theorem Grown.begin {α:Type} (w1:World) (f:α→List Value) (k:Nat):Grown w1 f k [] (.slice none 0 0) w1:=
 ⟨Own.nil _ _,Below.refl _ _,fun g h=>by simp [Value.ownBlock] at h⟩
theorem Grown.next {α:Type} {w1:World} {f:α→List Value} {k:Nat} {l:List α} {v:Value} {wr w2:World} (h:Grown w1 f k l v wr) (hb:Below wr.heap.size wr w2):Grown w1 f k l v w2:=
 ⟨h.own.keep (Keep.of_below hb (Nat.le_refl _) (fun _=>False)) (fun _ _=>id),Below.next h.below hb,h.new⟩
theorem Grown.app {α:Type} {w1:World} {f:α→List Value} {k:Nat} {l:List α} {x:α} {v:Value} {wr:World} (h:Grown w1 f k l v wr) {WY:World} (hy:Keep (fun _=>False) wr WY) {g cap M:Nat} {w':World}
 (hown:Own w' k (.slice (some ⟨g,0,none⟩) (l.length+1) cap) (l.length+1) (cellsOf f l++f x))
 (hc:(v.ownBlock=some g∧Keep (fun k=>v.ownBlock=some k) WY w')∨(M≤g∧Keep (fun _=>False) WY w')) (hM:wr.heap.size≤M:=by omega) :
 Grown w1 f k (l++[x]) (.slice (some ⟨g,0,none⟩) (l.length+1) cap) w':=by
 have hs:=xc h.below.size hy.size;refine ⟨?_,?_,?_⟩
 · rw [gc,List.length_append]
   exact hown
 · rcases hc with ⟨_,hk⟩ | ⟨_,hk⟩
   · exact (h.below.trans (hy.below (B:=w1.heap.size) h.below.size (fun _ _=>id))).trans (hk.below (xc h.below.size hy.size) (fun i hi hx=>by have:=h.new i hx;omega))
   · exact (h.below.trans (hy.below (B:=w1.heap.size) h.below.size (fun _ _=>id))).trans (hk.below (xc h.below.size hy.size) (fun _ _=>id))
 · intro g' hg
   simp only [Value.ownBlock,xb] at hg;subst hg;rcases hc with ⟨hv,_⟩ | ⟨hg,_⟩
   · exact h.new _ hv
   · have:=h.below.size;omega
theorem Grown.shape {α:Type} {w1:World} {f:α→List Value} {k:Nat} {l:List α} {v:Value} {wr:World} (h:Grown w1 f k l v wr):∃ ao cap,v = .slice ao l.length cap∧RdC wr ao (cellsOf f l):=by
 rcases h.own.2 with ⟨rfl,h0⟩ | ⟨g,cap,rfl,hn,hm,hr⟩
 · refine ⟨none,0,by rw [h0],.inl ?_⟩
   have:=h.own.1;rw [h0,Nat.zero_mul] at this;exact List.eq_nil_of_length_eq_zero this
 · exact ⟨_,cap,rfl,.inr ⟨g,0,rfl,fun j u hu=>by rw [Nat.zero_add];exact hr.cell j u hu⟩⟩
end Go.Proofs.YtcaicgipibcicaaGreat
