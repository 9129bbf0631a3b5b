/- Lists that grow by one struct: what append makes of them. -/
import Derived.Test.YtcaicgipibcicaaGreatQCells
set_option maxRecDepth 100000
set_option maxHeartbeats 2000000
set_option linter.unusedSimpArgs false
set_option linter.unusedVariables false
open Go.Lib renaming hid→yA
open Go.World renaming cell?_alloc_mark→zN
open List renaming mem_cons→zt,not_mem_nil→zi
open Nat renaming le_trans→yV
namespace Go.Proofs.YtcaicgipibcicaaGreat
open Go.RowKit Go.Sort
theorem cR {P:Program} {e:TypeId} {z:Value} {s b:Nat} (h:(P.info? e).map (fun i=>(i.zero,i.size,i.bytes))=some (some z,s,b)):∃ i,P.info? e=some i∧i.zero=some z∧i.size=s∧i.bytes=b:=by
 cases hq:P.info? e with
 | none=>simp [hq] at h
 | some i=>
   simp [hq] at h;exact ⟨i,rfl,h.1,h.2.1,h.2.2⟩
def ww:Value:=.agg #[.int .u8 0,.int .u8 0,.int .u8 0,.int .u8 0,.int .u8 0,.int .u8 0,.int .u8 0,.int .u8 0,.int .i16 0,.int .i16 0,.int .i16 0,.int .i16 0,.int .u8 0,.int .u8 0,.int .i64 0,.int .i64 0,.int .i64 0,.int .i64 0]
def wz:Value:=.agg #[.int .u8 0,.int .u8 0,.int .u8 0,.int .u8 0,.int .u8 0,.int .u8 0,.int .u8 0,.int .u8 0,.int .i16 0,.int .i16 0,.int .u8 0,.int .u8 0,.int .i64 0,.int .i64 0]
def na:Value:=.agg #[.int .i64 0,.int .i64 0,.int .i64 0]
def nb:Value:=.agg #[.int .i64 0,.int .i64 0]
theorem li:(Tryz.prog.info? 79).map (fun i=>(i.zero,i.size,i.bytes))=some (some ww,18,56):=by kernel_rfl
theorem lk:(Tryz.prog.info? 83).map (fun i=>(i.zero,i.size,i.bytes))=some (some wz,14,32):=by kernel_rfl
theorem gH:(Tryz.prog.info? 114).map (fun i=>(i.zero,i.size,i.bytes))=some (some na,3,24):=by kernel_rfl
theorem gI:(Tryz.prog.info? 69).map (fun i=>(i.zero,i.size,i.bytes))=some (some nb,2,16):=by kernel_rfl
theorem fS:(Tryz.prog.info? 3).map (fun i=>(i.zero,i.size,i.bytes))=some (some (.int .i64 0),1,8):=by kernel_rfl
theorem tl:(Tryz.prog.info? 5).map (fun i=>(i.zero,i.size,i.bytes))=some (some (.int .u8 0),1,1):=by kernel_rfl
theorem Src.lit {P:Program} {w:World} {tx e:TypeId} (hk:P.underlying tx=some (.slice e)) (k:Nat) (xs:List Value) (hl:xs.length=k) (h1:∀ u ∈ xs,u.oneCell'=true) (cs:Array Value) (t:TypeId) (h:cs=xs.toArray) :
 Src P k tx (.slice (some ⟨w.heap.size,0,none⟩) 1 1) 1 xs (w.alloc (.cells cs t)):=by
 subst h;refine Src.ofSlice (P:=P) _ hk _ _ 1 xs (by omega) (fun j u hu=>?_) h1;have hadd:(⟨w.heap.size,0,none⟩:Addr).add j=⟨w.heap.size,j,none⟩:=by unfold Addr.add;split <;> simp_all
 rw [hadd,zN]
 simpa using hu
theorem Src.litDrew {P:Program} {w:World} {tx e:TypeId} (hk:P.underlying tx=some (.slice e)) (k:Nat) (xs:List Value) (hl:xs.length=k) (h1:∀ u ∈ xs,u.oneCell'=true) (cs:Array Value) (t:TypeId) (h:cs=xs.toArray) :
 Src P k tx (.slice (some ⟨w.heap.size,0,none⟩) 1 1) 1 xs (w.alloc (.cells cs t)).drew:=by
 subst h;refine Src.ofSlice (P:=P) _ hk _ _ 1 xs (by omega) (fun j u hu=>?_) h1;have hadd:(⟨w.heap.size,0,none⟩:Addr).add j=⟨w.heap.size,j,none⟩:=by unfold Addr.add;split <;> simp_all
 rw [hadd]
 show (w.alloc (.cells xs.toArray t)).cell? ⟨w.heap.size,j,none⟩=_
 rw [zN]
 simpa using hu
theorem ad.cells_one (x:ad):∀ u ∈ x.cells,u.oneCell'=true:=by
 intro u hu;simp only [ad.cells,zt,zi,or_false] at hu;rcases hu with rfl | rfl | rfl | rfl | rfl | rfl | rfl | rfl | rfl | rfl | rfl | rfl | rfl | rfl | rfl | rfl | rfl | rfl <;> rfl
theorem ak.cells_one (x:ak):∀ u ∈ x.cells,u.oneCell'=true:=by
 intro u hu;simp only [ak.cells,zt,zi,or_false] at hu;rcases hu with rfl | rfl | rfl | rfl | rfl | rfl | rfl | rfl | rfl | rfl | rfl | rfl | rfl | rfl <;> rfl
theorem ab.cells_one (x:ab):∀ u ∈ x.cells,u.oneCell'=true:=by
 intro u hu;simp only [ab.cells,zt,zi,or_false] at hu;rcases hu with rfl | rfl | rfl <;> rfl
theorem ag.cells_one (x:ag):∀ u ∈ x.cells,u.oneCell'=true:=by
 intro u hu;simp only [ag.cells,zt,zi,or_false] at hu;rcases hu with rfl | rfl <;> rfl
theorem ft (n:Int):∀ u ∈ aP n,u.oneCell'=true:=by
 intro u hu;simp only [aP,zt,zi,or_false] at hu;subst hu;rfl
theorem dP {α:Type} (f:α→List Value) (hf:∀ a,∀ u ∈ f a,u.oneCell'=true) (l:List α):∀ u ∈ cellsOf f l,u.oneCell'=true:=by
 intro u hu;simp only [cellsOf,List.mem_flatMap] at hu;obtain ⟨a,_,h⟩:=hu;exact hf a u h
structure Grown {α:Type} (w1:World) (f:α→List Value) (k:Nat) (l:List α) (v:Value) (wr:World):Prop where
 own:Own wr k v l.length (cellsOf f l)
 below:Below w1.heap.size w1 wr
 new:∀ g,v.ownBlock=some g→w1.heap.size≤g
theorem Grown.begin {α:Type} (w1:World) (f:α→List Value) (k:Nat):Grown w1 f k [] (.slice none 0 0) w1:=
 ⟨Own.nil _ _,Below.refl _ _,fun g h=>by simp [Value.ownBlock] at h⟩
theorem Grown.next {α:Type} {w1:World} {f:α→List Value} {k:Nat} {l:List α} {v:Value} {wr w2:World} (h:Grown w1 f k l v wr) (hb:Below wr.heap.size wr w2):Grown w1 f k l v w2:=
 ⟨h.own.keep (Keep.of_below hb (Nat.le_refl _) (fun _=>False)) (fun _ _=>id),Below.next h.below hb,h.new⟩
theorem Grown.app {α:Type} {w1:World} {f:α→List Value} {k:Nat} {l:List α} {x:α} {v:Value} {wr:World} (h:Grown w1 f k l v wr) {WY:World} (hy:Keep (fun _=>False) wr WY) {g cap M:Nat} {w':World}
 (hown:Own w' k (.slice (some ⟨g,0,none⟩) (l.length+1) cap) (l.length+1) (cellsOf f l++f x))
 (hc:(v.ownBlock=some g∧Keep (fun k=>v.ownBlock=some k) WY w')∨(M≤g∧Keep (fun _=>False) WY w')) (hM:wr.heap.size≤M:=by omega) :
 Grown w1 f k (l++[x]) (.slice (some ⟨g,0,none⟩) (l.length+1) cap) w':=by
 have hs:=yV h.below.size hy.size;refine ⟨?_,?_,?_⟩
 · rw [gP,List.length_append]
   exact hown
 · rcases hc with ⟨_,hk⟩ | ⟨_,hk⟩
   · exact (h.below.trans (hy.below (B:=w1.heap.size) h.below.size (fun _ _=>id))).trans (hk.below (yV h.below.size hy.size) (fun i hi hx=>by have:=h.new i hx;omega))
   · exact (h.below.trans (hy.below (B:=w1.heap.size) h.below.size (fun _ _=>id))).trans (hk.below (yV h.below.size hy.size) (fun _ _=>id))
 · intro g' hg
   simp only [Value.ownBlock,Option.some.injEq] at hg;subst hg;rcases hc with ⟨hv,_⟩ | ⟨hg,_⟩
   · exact h.new _ hv
   · have:=h.below.size;omega
theorem Grown.shape {α:Type} {w1:World} {f:α→List Value} {k:Nat} {l:List α} {v:Value} {wr:World} (h:Grown w1 f k l v wr):∃ ao cap,v = .slice ao l.length cap∧RdC wr ao (cellsOf f l):=by
 rcases h.own.2 with ⟨rfl,h0⟩ | ⟨g,cap,rfl,hn,hm,hr⟩
 · refine ⟨none,0,by rw [h0],.inl ?_⟩
   have:=h.own.1;rw [h0,Nat.zero_mul] at this;exact List.eq_nil_of_length_eq_zero this
 · exact ⟨_,cap,rfl,.inr ⟨g,0,rfl,fun j u hu=>by rw [Nat.zero_add];exact hr.cell j u hu⟩⟩
theorem qB (w:World) (n:Int) (h1:-65536≤n) (h2:n≤65536):Calls Tryz.prog 217 #[.int .i64 n] w fun e w'=>e = .returned (.int .i64 (n.natAbs:Int))∧w=w':=by
 by_cases h:n<0
 · go_enter Tryz.func217,Tryz.ntmps217
   go_wp2_with fail
   go_ret
   refine ⟨?_,rfl⟩
   show Ending.returned (Value.int .i64 _)=_
   congr 2
   omega
 · go_enter Tryz.func217,Tryz.ntmps217
   go_wp2_with fail
   go_ret
   refine ⟨?_,rfl⟩
   show Ending.returned (Value.int .i64 _)=_
   congr 2
   omega
theorem ux (w:World) (ax ay bx by_:Int) (h1:bc ax) (h2:bc ay) (h3:bc bx) (h4:bc by_) :
 Calls Tryz.prog 195 #[.agg #[.int .i16 ax,.int .i16 ay],.agg #[.int .i16 bx,.int .i16 by_]] w fun e w'=>e = .returned (.int .i64 (dW ax ay bx by_))∧Below w.heap.size w w':=by
 have HB:=yA (((Below.refl w.heap.size w).alloc (Nat.le_refl _) (.cells #[.int .i16 ax,.int .i16 ay] 75)).alloc (by simp) (.cells #[.int .i16 bx,.int .i16 by_] 75));obtain ⟨a1,a2⟩:=h1;obtain ⟨a3,a4⟩:=h2;obtain ⟨a5,a6⟩:=h3;obtain ⟨a7,a8⟩:=h4;have n1:(((ax - bx).natAbs:Nat):Int)≤65535:=by omega
 have n2:(((ay - by_).natAbs:Nat):Int)≤65535:=by omega
 have n3:(0:Int)≤(((ax - bx).natAbs:Nat):Int):=by omega
 have n4:(0:Int)≤(((ay - by_).natAbs:Nat):Int):=by omega
 have HX:=yA (fun w=>(qB w (ax - bx) (by omega) (by omega)).same);have HY:=yA (fun w=>(qB w (ay - by_) (by omega) (by omega)).same);have HD:=yA (show dW ax ay bx by_=(((ax - bx).natAbs:Nat):Int)+(((ay - by_).natAbs:Nat):Int) from rfl);generalize (((ax - bx).natAbs:Nat):Int)=X at *;generalize (((ay - by_).natAbs:Nat):Int)=Y at *;go_enter Tryz.func195,Tryz.ntmps195
 go_wp2_with fail
 go_quiet (first | (go_at_call_of 217 (ax - bx);exact Calls.quiet_of_same (HX.out _)) | (go_at_call_of 217 (ay - by_);exact Calls.quiet_of_same (HY.out _)))
 go_wp2_with fail
 go_ret
 exact ⟨by rw [HD.out];rfl,below_drewN HB.out _⟩
theorem lV (w:World) (d:gQ) (hd:d.Ok):Calls Tryz.prog 97 #[.agg #[.int .u8 d.i0,.int .u8 d.i1,.int .u8 d.i2,.int .u8 d.i3,.int .u8 d.i4,.int .u8 d.i5,.int .u8 d.i6,.int .u8 d.i7,.int .i16 d.ax,.int .i16 d.ay,.int .u8 d.seats,.int .u8 d.cls,.int .i64 d.radius]] w fun e w'=>e = .returned (.int .i64 (aR d))∧Below w.heap.size w w':=by
 have HB:=yA ((Below.refl w.heap.size w).alloc (Nat.le_refl _) (.cells #[.int .u8 d.i0,.int .u8 d.i1,.int .u8 d.i2,.int .u8 d.i3,.int .u8 d.i4,.int .u8 d.i5,.int .u8 d.i6,.int .u8 d.i7,.int .i16 d.ax,.int .i16 d.ay,.int .u8 d.seats,.int .u8 d.cls,.int .i64 d.radius] 81));obtain ⟨s1,s2⟩:=hd.seats;obtain ⟨s3,s4⟩:=hd.cls;clear hd;by_cases a1:d.seats≤0
 · have HM:=yA (show aR d=1 by
    have:d.seats=0:=by omega
    simp [aR,eE,this])
   go_enter Tryz.func97,Tryz.ntmps97
   go_wp2_with fail
   go_ret
   exact ⟨by rw [HM.out];rfl,HB.out⟩
 have a1':0<d.seats:=by omega
 have h3:decide (d.seats≠0)=true:=by simp;omega
 have H3:=yA h3;clear a1 h3;by_cases a2:7<d.cls
 · have HM:=yA (show aR d=1 by
    have:decide (d.cls≤7)=false:=by simp;omega
    simp [aR,eE,this])
   go_enter Tryz.func97,Tryz.ntmps97
   go_wp2_with fail
   go_ret
   exact ⟨by rw [HM.out];rfl,HB.out⟩
 have a2':d.cls≤7:=by omega
 have H2:=yA (show decide (d.cls≤7)=true by simp;omega);clear a2;go_enter Tryz.func97,Tryz.ntmps97
 go_wp2_with fail
 refine (dk _ _ _ _).mono ?_;rintro e w1 ⟨rfl,rfl⟩;cases h1:decide (0≤d.radius∧d.radius≤131070) with
 | true=>
   have HM:=yA (show aR d=0 by simp only [aR,eE,h1,H2.out,H3.out];rfl);clear h1;go_wp2_with fail
   go_ret
   exact ⟨by rw [HM.out];rfl,HB.out⟩
 | false=>
   have HM:=yA (show aR d=1 by simp only [aR,eE,h1,H2.out,H3.out];rfl);clear h1;go_wp2_with fail
   go_ret
   exact ⟨by rw [HM.out];rfl,HB.out⟩
end Go.Proofs.YtcaicgipibcicaaGreat
