/- What a graph of requests and drivers is: plain facts; its boxes. -/
import Derived.Test.YtcaicgipibcicaaGreatQApp2
import Derived.Test.YtcaicgipibcicaaGreatQWeigh2
import Derived.Test.YtcaicgipibcicaaGreatQHeldTail
set_option maxRecDepth 100000
set_option linter.unusedVariables false
open List renaming getElem?_eq_some_iff→wD,length_map→xu,length_take→wV
open Nat renaming le_refl→wC
open Option.some renaming injEq→xb
namespace Go.Proofs.YtcaicgipibcicaaGreat
open Go.RowKit Go.Sort
theorem gC (c:ag) (now:Int) (x:aa) (l:List aa):fl c now (x::l)=if (wtP c now x).2≠0 then (wtP c now x).2 else fl c now l:=rfl
theorem oC {c:ag} {now:Int} {l:List aa} (h:∀ (j:Nat) (x:aa),l[j]?=some x→(wtP c now x).2=0):fl c now l=0:=by
 induction l with
 | nil=>rfl
 | cons a l ih=>rw [gC,h 0 a (by simp),if_neg (by simp)];exact ih (fun j x hx=>h (j+1) x (by simpa using hx))
theorem mG {c:ag} {now:Int}:∀ {l:List aa} {k:Nat} {x:aa},l[k]?=some x→(wtP c now x).2≠0→(∀ (j:Nat) (y:aa),j<k→l[j]?=some y→(wtP c now y).2=0)→fl c now l=(wtP c now x).2
 | [],k,x,h,_,_=>by simp at h
 | a::l,0,x,h,hne,_=>by
   simp only [List.getElem?_cons_zero,xb] at h;subst h;rw [gC,if_pos hne]
 | a::l,k+1,x,h,hne,hz=>by
   simp only [List.getElem?_cons_succ] at h;rw [gC,hz 0 a (by omega) (by simp),if_neg (by simp)];exact mG h hne (fun j y hj hy=>hz (j+1) y (by omega) (by simpa using hy))
theorem mj {l:List ak} (h:∀ (j:Nat) (x:ak),l[j]?=some x→bc x.d=0):dZ l=0:=by
 induction l with
 | nil=>rfl
 | cons a l ih=>rw [dZ,h 0 a (by simp),if_neg (by simp)];exact ih (fun j x hx=>h (j+1) x (by simpa using hx))
theorem jZ:∀ {l:List ak} {k:Nat} {x:ak},l[k]?=some x→bc x.d≠0→(∀ (j:Nat) (y:ak),j<k→l[j]?=some y→bc y.d=0)→dZ l=bc x.d
 | [],k,x,h,_,_=>by simp at h
 | a::l,0,x,h,hne,_=>by
   simp only [List.getElem?_cons_zero,xb] at h;subst h;rw [dZ,if_pos hne]
 | a::l,k+1,x,h,hne,hz=>by
   simp only [List.getElem?_cons_succ] at h;rw [dZ,hz 0 a (by omega) (by simp),if_neg (by simp)];exact jZ h hne (fun j y hj hy=>hz (j+1) y (by omega) (by simpa using hy))
theorem tZ {c:ag} {now:Int} {ws:List aa} {ds:List ak} (h:aG c=false):bA c now ws ds=160:=by simp [bA,aA,h]
theorem t7 {c:ag} {now:Int} {ws:List aa} {ds:List ak} (h1:aG c=true) (h:eh now=false):bA c now ws ds=1:=by simp [bA,aA,h1,h]
theorem t8 {c:ag} {now:Int} {ws:List aa} {ds:List ak} (h1:aG c=true) (h2:eh now=true) (h:64<ws.length∨64<ds.length):bA c now ws ds=3:=by simp only [bA,aA,h1,h2,if_true,ne_eq,not_true_eq_false,if_false,Bool.not_true,Bool.false_eq_true,if_pos h]
theorem t9 {c:ag} {now:Int} {ws:List aa} {ds:List ak} (h1:aG c=true) (h2:eh now=true) (h3:¬ (64<ws.length∨64<ds.length)) (h:fl c now ws≠0):bA c now ws ds=fl c now ws:=by simp only [bA,aA,h1,h2,if_true,ne_eq,not_true_eq_false,if_false,Bool.not_true,Bool.false_eq_true,if_neg h3,if_pos h]
theorem ua {c:ag} {now:Int} {ws:List aa} {ds:List ak} (h1:aG c=true) (h2:eh now=true) (h3:¬ (64<ws.length∨64<ds.length)) (h:fl c now ws=0):bA c now ws ds=dZ ds:=by simp only [bA,aA,h1,h2,if_true,ne_eq,not_true_eq_false,if_false,Bool.not_true,Bool.false_eq_true,if_neg h3,h]
def iE (c:ag) (now:Int) (ws:List aa) (p:ai):ab:=⟨p.r,p.c,match ws[p.r.toNat]? with | none=>0 | some w=>(wtP c now w).1⟩
theorem sy {c:ag} {now:Int} {ws:List aa} {p:ai} {x:aa} (h:ws[p.r.toNat]?=some x):iE c now ws p=⟨p.r,p.c,(wtP c now x).1⟩:=by simp only [iE,h]
theorem sA {ws:List aa} {ds:List ak} {p:ai} (h:p ∈ cR ws ds):0≤p.r∧p.r<ws.length∧0≤p.c∧p.c<ds.length:=by
 unfold cR pairsRow at h;rw [List.mem_flatMap] at h;obtain ⟨i,hi,h⟩:=h;unfold bM at h;rw [List.mem_map] at h;obtain ⟨k,hk,rfl⟩:=h;rw [List.mem_filter] at hk;have h1:=List.mem_range.1 hi;have h2:=List.mem_range.1 hk.1;exact ⟨by simp,by simpa using h1,by simp,by simpa using h2⟩
theorem ls (ws:List aa) (ds:List ak):(cR ws ds).length≤ws.length*ds.length:=i8 ws ds ws.length
theorem fi {α β:Type} {l:List α} {f:α→β} {j:Nat} {x:α} (hx:l[j]?=some x):(l.take (j+1)).map f=(l.take j).map f++[f x]:=by
 rw [List.take_succ_eq_append_getElem (wD.1 hx).1,(wD.1 hx).2];simp
def GraphPost (w:World) (c:ag) (now:Int) (ws:List aa) (ds:List ak) (e:Ending) (w':World):Prop:=
 (bA c now ws ds≠0∧e = .returned (.tuple #[.agg #[.int .i64 0,.int .i64 0,.slice none 0 0],.int .i64 (bA c now ws ds)])∧Below w.heap.size w w')∨
 (bA c now ws ds=0∧∃ ev,e = .returned (.tuple #[.agg #[.int .i64 ws.length,.int .i64 ds.length,ev],.int .i64 0])∧Grown w ab.cells 3 (bH c now ws ds) ev w')
theorem GraphPost.no {w:World} {c:ag} {now:Int} {ws:List aa} {ds:List ak} {w':World} {E:Int} (h:bA c now ws ds=E) (hE:E≠0) (hb:Below w.heap.size w w'):GraphPost w c now ws ds (.returned (.tuple #[.agg #[.int .i64 0,.int .i64 0,.slice none 0 0],.int .i64 E])) w':=by
 subst h;exact .inl ⟨hE,rfl,hb⟩
theorem GraphPost.yes {w:World} {c:ag} {now:Int} {ws:List aa} {ds:List ak} {w':World} {n m:Nat} {ev:Value} (hE:bA c now ws ds=0) (hn:ws.length=n) (hm:ds.length=m) (hg:Grown w ab.cells 3 (bH c now ws ds) ev w') :
 GraphPost w c now ws ds (.returned (.tuple #[.agg #[.int .i64 n,.int .i64 m,ev],.int .i64 0])) w':=by
 subst hn;subst hm;exact .inr ⟨hE,ev,rfl,hg⟩
structure dG (w:World) (c:ag) (H0 H8:Nat) (wr:World):Prop where
 g:wr.heap[H0]?=some (.cells #[.int .i64 c.q,.int .i64 c.d,.int .i64 c.w,.int .i64 c.ttl,.int .i64 c.b] 23 (0,0))
 r:wr.heap[H8]?=some (.cells #[.int .i64 0,.int .i64 0,.slice none 0 0] 28 (0,0))
 below:Below w.heap.size w wr
theorem dG.keep {w:World} {c:ag} {H0 H8:Nat} {wr w':World} (h:dG w c H0 H8 wr) (hb:Below wr.heap.size wr w'):dG w c H0 H8 w':=
 ⟨(Keep.of_below hb (wC _) (fun _=>False)).old h.g id,(Keep.of_below hb (wC _) (fun _=>False)).old h.r id,Below.next h.below hb⟩
theorem dG.one {w:World} {c:ag} {H0 H8:Nat} {wr:World} (h:dG w c H0 H8 wr) (o:Obj):dG w c H0 H8 (wr.alloc o):=h.keep ((Below.refl _ _).alloc (wC _) _)
theorem dG.begin (w:World) (c:ag):dG w c w.heap.size (w.heap.size+1) ((w.alloc (.cells #[.int .i64 c.q,.int .i64 c.d,.int .i64 c.w,.int .i64 c.ttl,.int .i64 c.b] 23)).alloc (.cells #[.int .i64 0,.int .i64 0,.slice none 0 0] 28)):=by
 refine ⟨(Keep.alloc (fun _=>False) _ _).old (heap_alloc_new w _) id,?_,((Below.refl w.heap.size w).alloc (wC _) _).alloc (by simp) _⟩;have:=heap_alloc_new (w.alloc (.cells #[.int .i64 c.q,.int .i64 c.d,.int .i64 c.w,.int .i64 c.ttl,.int .i64 c.b] 23)) (.cells #[.int .i64 0,.int .i64 0,.slice none 0 0] 28);rw [show (w.alloc (.cells #[.int .i64 c.q,.int .i64 c.d,.int .i64 c.w,.int .i64 c.ttl,.int .i64 c.b] 23)).heap.size=w.heap.size+1 by simp] at this;exact this
theorem dG.write {w:World} {c:ag} {H0 H8:Nat} {wr:World} (h:dG w c H0 H8 wr) (hH:w.heap.size≤H8) (a b d:Value):Below w.heap.size w (((wr.setCell ⟨H8,0,none⟩ a).setCell ⟨H8,1,none⟩ b).setCell ⟨H8,2,none⟩ d):=
 ((h.below.setCell (p:=⟨H8,0,none⟩) hH a).setCell (p:=⟨H8,1,none⟩) hH b).setCell (p:=⟨H8,2,none⟩) hH d
theorem Own.sl {w:World} {size:Nat} {v:Value} {n:Nat} {xs:List Value} (h:Own w size v n xs):∃ ao cap,v = .slice ao n cap:=by
 rcases h.2 with ⟨h,h0⟩ | ⟨g,cap,h,_⟩
 · exact ⟨none,0,by rw [h,h0]⟩
 · exact ⟨_,cap,h⟩
theorem dG.set {w:World} {c:ag} {H0 H8 G:Nat} {wr:World} (h:dG w c H0 H8 wr) (h0:H0<H8) (h8:H8<G) (hw:w.heap.size≤H8) (k:Nat) (v:Value):dG w c H0 H8 (wr.setCell ⟨G,k,none⟩ v):=
 ⟨(Keep.setCell wr G k v).old h.g (by omega),(Keep.setCell wr G k v).old h.r (by omega),h.below.setCell (p:=⟨G,k,none⟩) (by simp;omega) v⟩
theorem Grown.write {α:Type} {w:World} {f:α→List Value} {k:Nat} {l:List α} {v:Value} {wr:World} (h:Grown w f k l v wr) {H:Nat} (hH:w.heap.size≤H) (hne:∀ g,v.ownBlock=some g→g≠H) (a b d:Value):Grown w f k l v (((wr.setCell ⟨H,0,none⟩ a).setCell ⟨H,1,none⟩ b).setCell ⟨H,2,none⟩ d):=by
 have hk:Keep (fun k=>k=H) wr (((wr.setCell ⟨H,0,none⟩ a).setCell ⟨H,1,none⟩ b).setCell ⟨H,2,none⟩ d):=
  ((Keep.setCell wr H 0 a).trans (Keep.setCell _ H 1 b) (fun _ _ h=>h) (fun _ _ h=>h)).trans (Keep.setCell _ H 2 d) (fun _ _ h=>h) (fun _ _ h=>h)
 exact ⟨h.own.keep hk hne,h.below.trans (hk.below h.below.size (fun i hi he=>by omega)),h.new⟩
def kI (c:ag) (now:Int) (ws:List aa) (n k:Nat):List Value:=(ws.take k).map (fun x=>Value.int .i64 (wtP c now x).1)++List.replicate (n - k) (.int .i64 0)
theorem sB (c:ag) (now:Int) (ws:List aa) (n:Nat):kI c now ws n 0=List.replicate n (.int .i64 0):=by simp [kI]
theorem sC {c:ag} {now:Int} {ws:List aa} {n k:Nat} {x:aa} (hn:ws.length=n) (hx:ws[k]?=some x):kI c now ws n (k+1)=(kI c now ws n k).set k (.int .i64 (wtP c now x).1):=by
 have hk:=(wD.1 hx).1;unfold kI;rw [fi hx,List.set_append_right _ _ (by rw [xu,wV];omega),xu,wV,show k - min k ws.length=0 by omega,show n - k=(n - (k+1))+1 by omega,List.replicate_succ,List.append_assoc];rfl
theorem sD {c:ag} {now:Int} {ws:List aa} {n k:Nat} (hn:ws.length=n) (hk:k<n):(kI c now ws n k)[k]?=some (.int .i64 0):=by
 unfold kI;rw [List.getElem?_append_right (by rw [xu,wV];omega),xu,wV,List.getElem?_replicate,if_pos (by omega)]
theorem vJ {c:ag} {now:Int} {ws:List aa} {n i:Nat} {x:aa} (hn:ws.length=n) (hx:ws[i]?=some x):(kI c now ws n n)[i]?=some (.int .i64 (wtP c now x).1):=by
 have hi:=(wD.1 hx).1;unfold kI;rw [List.take_of_length_le (by omega),List.getElem?_append_left (by rw [xu];exact hi)];simp [hx]
theorem dj {wr:World} {H8:Nat} {x y z:Value} (h:wr.heap[H8]?=some (.cells #[x,y,z] 28 (0,0))) (a b d:Value) :
 ((((wr.setCell ⟨H8,0,none⟩ a).setCell ⟨H8,1,none⟩ b).setCell ⟨H8,2,none⟩ d).cell? ⟨H8,0,none⟩=some a)∧((((wr.setCell ⟨H8,0,none⟩ a).setCell ⟨H8,1,none⟩ b).setCell ⟨H8,2,none⟩ d).cell? ⟨H8,1,none⟩=some b)∧((((wr.setCell ⟨H8,0,none⟩ a).setCell ⟨H8,1,none⟩ b).setCell ⟨H8,2,none⟩ d).cell? ⟨H8,2,none⟩=some d):=by
 have hq:(((wr.setCell ⟨H8,0,none⟩ a).setCell ⟨H8,1,none⟩ b).setCell ⟨H8,2,none⟩ d).heap[H8]?=some (.cells #[a,b,d] 28 (0,0)):=ae (ae (ae h 0 a) 1 b) 2 d;obtain ⟨q0,q1,q2,_⟩:=cells3 hq;exact ⟨q0,q1,q2⟩
end Go.Proofs.YtcaicgipibcicaaGreat
