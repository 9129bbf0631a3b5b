/- Numbers and things read from bytes, as plain functions. No program in sight. -/
import Derived.Test.YtcaicgipibcicaaGreatQHeldTail
import Derived.StillTailTactics
import Derived.Test.YtcaicgipibcicaaGreatQRFit1
import Derived.WalkMore
import Derived.Deep.RegionHeld3
import Derived.BigQuiet
import Derived.Deep.MidRow
import Derived.Test.YtcaicgipibcicaaGreatQMem
import Derived.Test.YtcaicgipibcicaaGreatProg
import Derived.Lib.Hide
import Derived.Deep.LoopGhost
import Derived.Laws.MakeOwn
import Derived.WideShapes
import Derived.OpenShut
set_option maxRecDepth 100000
set_option maxHeartbeats 16000000
set_option linter.unusedSimpArgs false
set_option linter.unusedVariables false
open Bool renaming and_eq_true→zD
open Go renaming bodyPost_end→z9,bodyPost_ret→yS,cell_of_row→yI,heap_alloc_new→yE,lt_of_block→yK
open Go.Lib renaming hid→yA
open Go.RowKit.Below renaming refl→yH
open Go.World renaming block_lt_of_cell?→yL
open Int renaming toNat_natCast→zU
open List renaming append_assoc→zq,getElem?_append_right→zx,getElem?_eq_getElem→yC,getElem?_eq_some_iff→yD,getElem?_map→zW,length_append→yN,length_cons→zg,length_nil→zu,length_take→yY,mem_of_getElem?→yP,setIfInBounds_toArray→yM,take_of_length_le→zh,take_succ_eq_append_getElem→zk
open Nat renaming le_refl→yB,le_trans→yV,lt_succ_iff_lt_or_eq→yW,zero_add→yO,zero_le→yQ
open Option renaming bind_some→yT,map_some→zF
open Option.some renaming injEq→zL
namespace Go.Proofs.YtcaicgipibcicaaGreat
open Go.RowKit
def Byt (l:List Int):Prop:=∀ x ∈ l,0≤x∧x≤255
theorem Byt.tail {b:Int} {l:List Int} (h:Byt (b::l)):Byt l:=fun x hx=>h x (List.mem_cons_of_mem _ hx)
theorem Byt.head {b:Int} {l:List Int} (h:Byt (b::l)):0≤b∧b≤255:=h b List.mem_cons_self
theorem Byt.drop {l:List Int} (h:Byt l) (n:Nat):Byt (l.drop n):=fun x hx=>h x (List.mem_of_mem_drop hx)
theorem Byt.take {l:List Int} (h:Byt l) (n:Nat):Byt (l.take n):=fun x hx=>h x (List.mem_of_mem_take hx)
abbrev bl (α:Type):=List Int→Option (α × List Int)
def bM (k:Nat):bl (List Int):=fun l=>if l.length<k then none else some (l.take k,l.drop k)
def ej:bl Int
 | []=>none
 | b::r=>some (b,r)
def dD:Nat→Nat→List Int→Option (Nat × List Int)
 | _,_,[]=>none
 | i,n,b::r=>if (i=9∧1<b)∨(0<i∧b=0) then none else if b<128 then some (n+128 ^ i*(b.toNat % 128),r) else dD (i+1) (n+128 ^ i*(b.toNat % 128)) r
def dh:bl Nat:=dD 0 0
def ce (most:Nat):bl Int:=fun l=>match dh l with
 | none=>none
 | some (n,r)=>if n≤most then some ((n:Int),r) else none
def fg (n:Nat):Int:=if n % 2=0 then ((n / 2:Nat):Int) else -((n / 2:Nat):Int) - 1
def dc:bl Int:=fun l=>(dh l).map fun x=>(fg x.1,x.2)
def bW (a b:Int):Int:=if a*256+b<32768 then a*256+b else a*256+b - 65536
def cG:bl (Int × Int)
 | a::b::c::d::r=>some ((bW a b,bW c d),r)
 | _=>none
def iN {α β γ:Type} (f:α→β→γ) (p:bl α) (q:bl β):bl γ:=fun l=>(p l).bind fun x=>(q x.2).map fun y=>(f x.1 y.1,y.2)
def d9 {α:Type} (p:bl α):Nat→bl (List α)
 | 0=>fun l=>some ([],l)
 | k+1=>fun l=>(d9 p k l).bind fun x=>(p x.2).map fun y=>(x.1++[y.1],y.2)
def fh {α:Type} (most:Nat) (p:bl α):bl (List α):=fun l=>(ce most l).bind fun x=>d9 p x.1.toNat x.2
theorem uV:∀ (l:List Int) (i n m:Nat) (r:List Int),Byt l→dD i n l=some (m,r)→Byt r∧r.length<l.length:=by
 intro l
 induction l with
 | nil=>intro i n m r _ h;simp [dD] at h
 | cons b l ih=>
   intro i n m r hb h;unfold dD at h;split at h
   · cases h
   · split at h
     · simp only [zL,Prod.mk.injEq] at h
       obtain ⟨_,rfl⟩:=h;exact ⟨hb.tail,by simp⟩
     · obtain ⟨h1,h2⟩:=ih _ _ _ _ hb.tail h
       exact ⟨h1,by simp only [zg];omega⟩
theorem xg:∀ (l:List Int) (i n m:Nat) (r:List Int),Byt l→i≤9→n<128 ^ i→dD i n l=some (m,r)→m<18446744073709551616:=by
 intro l
 induction l with
 | nil=>intro i n m r _ _ _ h;simp [dD] at h
 | cons b l ih=>
   intro i n m r hb hi hn h;obtain ⟨b1,b2⟩:=hb.head;unfold dD at h;split at h
   · cases h
   · rename_i hno
     have hpow:128 ^ (i+1)=128 ^ i*128:=Nat.pow_succ 128 i;have hle:128 ^ i*(b.toNat % 128)≤128 ^ i*127:=Nat.mul_le_mul_left _ (by omega)
     have hlt:n+128 ^ i*(b.toNat % 128)<128 ^ (i+1):=by
      rw [hpow];have:128 ^ i*128=128 ^ i*127+128 ^ i:=by rw [←Nat.mul_succ]
      omega
     split at h
     · simp only [zL,Prod.mk.injEq] at h
       obtain ⟨rfl,_⟩:=h;by_cases h9:i=9
       · subst h9
         have:b.toNat % 128≤1:=by
          have:¬ 1<b:=fun hx=>hno (.inl ⟨rfl,hx⟩)
          omega
         have hp:(128:Nat) ^ 9=9223372036854775808:=by decide
         rw [hp] at hn ⊢;have:9223372036854775808*(b.toNat % 128)≤9223372036854775808*1:=Nat.mul_le_mul_left _ this;omega
       · have:128 ^ (i+1)≤128 ^ 9:=Nat.pow_le_pow_right (by omega) (by omega)
         have hp:(128:Nat) ^ 9=9223372036854775808:=by decide
         omega
     · rename_i hb128
       by_cases h9:i=9
       · exact absurd (.inl ⟨h9,by omega⟩) hno
       · exact ih _ _ _ _ hb.tail (by omega) hlt h
theorem mA {l r:List Int} {m:Nat} (hb:Byt l) (h:dh l=some (m,r)):m<18446744073709551616:=xg l 0 0 m r hb (by omega) (by decide) h
theorem xh {l r:List Int} {m:Nat} (hb:Byt l) (h:dh l=some (m,r)):Byt r∧r.length<l.length:=uV l 0 0 m r hb h
theorem yq {most:Nat} {l r:List Int} {x:Int} (hb:Byt l) (hm:most≤9223372036854775807) (h:ce most l=some (x,r)):0≤x∧x≤most∧Byt r∧r.length<l.length:=by
 unfold ce at h;split at h
 · cases h
 · rename_i n r' hv
   split at h
   · rename_i hle
     simp only [zL,Prod.mk.injEq] at h;obtain ⟨rfl,rfl⟩:=h;have:=xh hb hv;exact ⟨by omega,by omega,this⟩
   · cases h
theorem rj {n:Nat} (h:n<18446744073709551616):ar (fg n):=by
 unfold fg ar;split <;> omega
def Step {α:Type} (p:bl α) (s s':Option (List Int)) (v:α):Prop:=s'=(s.bind p).map (·.2)∧∀ x l,s.bind p=some (x,l)→v=x
theorem Step.seq {α β γ:Type} {f:α→β→γ} {p:bl α} {q:bl β} {s s1 s2:Option (List Int)} {a:α} {b:β} (h1:Step p s s1 a) (h2:Step q s1 s2 b):Step (iN f p q) s s2 (f a b):=by
 obtain ⟨e1,v1⟩:=h1;obtain ⟨e2,v2⟩:=h2;cases s with
 | none=>subst e1;subst e2;exact ⟨rfl,fun x l h=>by simp at h⟩
 | some l=>
   simp only [yT] at e1 v1;cases hp:p l with
   | none=>
     rw [hp] at e1;subst e1;subst e2;refine ⟨?_,fun x l' h=>?_⟩
     · simp [iN,hp]
     · simp [iN,hp] at h
   | some y=>
     obtain ⟨x,l1⟩:=y;rw [hp] at e1;have ha:a=x:=v1 x l1 hp;subst e1;simp only [zF,yT] at e2 v2;cases hq:q l1 with
     | none=>
       rw [hq] at e2;subst e2;refine ⟨?_,fun x l' h=>?_⟩
       · simp [iN,hp,hq]
       · simp [iN,hp,hq] at h
     | some z=>
       obtain ⟨y,l2⟩:=z;rw [hq] at e2;have hb:b=y:=v2 y l2 hq;subst e2 ha hb;refine ⟨?_,fun x l' h=>?_⟩
       · simp [iN,hp,hq]
       · simp [iN,hp,hq] at h
         exact h.1
theorem Step.none {α:Type} (p:bl α) (v:α):Step p none none v:=⟨rfl,fun x l h=>by cases h⟩
theorem Step.fail {α:Type} {p:bl α} {l:List Int} (h:p l=Option.none) (v:α):Step p (some l) Option.none v:=⟨by simp [h],fun x l' hx=>by simp [h] at hx⟩
theorem Step.some {α:Type} {p:bl α} {l l':List Int} {x:α} (h:p l=Option.some (x,l')):Step p (Option.some l) (Option.some l') x:=⟨by simp [h],fun y l2 hy=>by simp [h] at hy;exact hy.1⟩
theorem Step.map {α β:Type} {p:bl α} {s s':Option (List Int)} {v:α} (h:Step p s s' v) (g:α→β) (q:bl β) (hq:∀ l,q l=(p l).map fun x=>(g x.1,x.2)):Step q s s' (g v):=by
 obtain ⟨h1,h2⟩:=h;cases s with
 | none=>subst h1;exact Step.none _ _
 | some l=>
   simp only [yT] at h1 h2;cases hp:p l with
   | none=>rw [hp] at h1;subst h1;exact Step.fail (by rw [hq,hp];rfl) _
   | some y=>
     obtain ⟨x,l1⟩:=y;rw [hp] at h1;have:=h2 x l1 hp;subst h1 this;exact Step.some (by rw [hq,hp];rfl)
theorem Step.rep0 {α:Type} (p:bl α) (s:Option (List Int)):Step (d9 p 0) s s []:=by
 cases s with
 | none=>exact Step.none _ _
 | some l=>exact Step.some rfl
theorem Step.rep1 {α:Type} {p:bl α} {k:Nat} {s s1 s2:Option (List Int)} {xs:List α} {x:α} (h1:Step (d9 p k) s s1 xs) (h2:Step p s1 s2 x):Step (d9 p (k+1)) s s2 (xs++[x]):=
 Step.seq (f:=fun xs x=>xs++[x]) h1 h2
theorem xi {α:Type} {p:bl α} {l:List Int} {k:Nat} (h:d9 p k l=Option.none):∀ d,d9 p (k+d) l=Option.none:=by
 intro d
 induction d with
 | zero=>exact h
 | succ d ih=>rw [show k+(d+1)=(k+d)+1 by omega];simp [d9,ih]
theorem Step.repFail {α:Type} {p:bl α} {k n:Nat} {s:Option (List Int)} {xs:List α} (h:Step (d9 p k) s Option.none xs) (hk:k≤n) (ys:List α):Step (d9 p n) s Option.none ys:=by
 cases s with
 | none=>exact Step.none _ _
 | some l=>
   have h1:=h.1;simp only [yT] at h1;refine Step.fail ?_ _
   have:d9 p k l=Option.none:=by
    cases hr:d9 p k l with
    | none=>rfl
    | some y=>rw [hr] at h1;cases h1
   have:=xi this (n - k);rwa [show k+(n - k)=n by omega] at this
end Go.Proofs.YtcaicgipibcicaaGreat
namespace Go.Proofs.YtcaicgipibcicaaGreat
open Go.RowKit Go.Sort
def ai (n:Int):List Value:=[.int .u8 n]
theorem cE (n:Int):(ai n).length=1:=rfl
theorem fv (n:Int):∀ u ∈ ai n,u.oneCell'=true:=by
 intro u hu;simp only [ai,List.mem_cons,List.not_mem_nil,or_false] at hu;subst hu;rfl
theorem aG (l:List Int):(cellsOf ai l).length=l.length:=by rw [cellsOf_length _ 1 cE];omega
structure W1 (w:World) (WB:Nat) (sv:Value) (l:List Int):Prop where
 box:w.heap[WB]?=some (.cells #[sv,.bool true] 193 (0,0))
 own:Own w 1 sv l.length (cellsOf ai l)
 ne:sv.ownBlock≠some WB
def Wrote (w:World) (WB:Nat) (sv:Value) (l:List Int) (w':World):Prop:=
 ∃ sv',W1 w' WB sv' l∧Keep (fun k=>k=WB∨sv.ownBlock=some k) w w'∧∀ g,sv'.ownBlock=some g→sv.ownBlock=some g∨w.heap.size≤g
theorem W1.keep {w w':World} {WB:Nat} {sv:Value} {l:List Int} (h:W1 w WB sv l) {X:Nat→Prop} (hk:Keep X w w') (h1:¬ X WB) (h2:∀ g,sv.ownBlock=some g→¬ X g):W1 w' WB sv l:=
 ⟨hk.old h.box h1,h.own.keep hk h2,h.ne⟩
theorem W1.alloc {w:World} {WB:Nat} {sv:Value} {l:List Int} (h:W1 w WB sv l) (o:Obj):W1 (w.alloc o) WB sv l:=h.keep (Keep.alloc (fun _=>False) w o) id (fun _ _=>id)
theorem W1.cells {w:World} {WB:Nat} {sv:Value} {l:List Int} (h:W1 w WB sv l):w.cell? ⟨WB,0,none⟩=some sv∧w.cell? ⟨WB,1,none⟩=some (.bool true):=by
 refine ⟨?_,?_⟩ <;> rw [yI w WB _ _ _ (0,0) h.box] <;> rfl
theorem Wrote.after {w wa w':World} {WB:Nat} {sv:Value} {l:List Int} (hk:Keep (fun _=>False) w wa) (h:Wrote wa WB sv l w'):Wrote w WB sv l w':=by
 obtain ⟨sv',h1,h2,h3⟩:=h;exact ⟨sv',h1,hk.trans h2 (fun _ _ h=>h.elim) (fun _ _ h=>h),fun g hg=>(h3 g hg).imp id (fun h=>yV hk.size h)⟩
theorem Wrote.then {w w1 w2:World} {WB:Nat} {sv:Value} {l1 l2:List Int} (h:Wrote w WB sv l1 w1) (h2:∀ sv',W1 w1 WB sv' l1→Wrote w1 WB sv' l2 w2):Wrote w WB sv l2 w2:=by
 obtain ⟨sv1,a1,a2,a3⟩:=h;obtain ⟨sv2,b1,b2,b3⟩:=h2 sv1 a1;refine ⟨sv2,b1,a2.trans b2 (fun _ _ h=>h) (fun k hk h=>?_),fun g hg=>?_⟩
 · rcases h with h | h
   · exact .inl h
   · rcases a3 k h with h | h
     · exact .inr h
     · omega
 · rcases b3 g hg with h | h
   · exact a3 g h
   · exact .inr (yV a2.size h)
theorem Wrote.step {w w1 w2:World} {WB:Nat} {sv sv1:Value} {l2:List Int} (a2:Keep (fun k=>k=WB∨sv.ownBlock=some k) w w1) (a3:∀ g,sv1.ownBlock=some g→sv.ownBlock=some g∨w.heap.size≤g) (h:Wrote w1 WB sv1 l2 w2):Wrote w WB sv l2 w2:=by
 obtain ⟨sv2,b1,b2,b3⟩:=h;refine ⟨sv2,b1,a2.trans b2 (fun _ _ h=>h) (fun k hk h=>?_),fun g hg=>?_⟩
 · rcases h with h | h
   · exact .inl h
   · rcases a3 k h with h | h
     · exact .inr h
     · omega
 · rcases b3 g hg with h | h
   · exact a3 g h
   · exact .inr (yV a2.size h)
theorem Wrote.nil {w:World} {WB:Nat} {sv:Value} {l:List Int} (h:W1 w WB sv l):Wrote w WB sv l w:=⟨sv,h,Keep.refl _ _,fun g hg=>.inl hg⟩
theorem put_any (w:World) (WB:Nat) (sv:Value) (l m:List Int) (h:W1 w WB sv l) (b o c n:Nat) (hn:m.length=n) (h0:0<n) (hr:∀ j u,(cellsOf ai m)[j]?=some u→w.cell? ⟨b,o+j,none⟩=some u) (hl:l.length+n≤1073741824) :
 Calls Tryz.prog 160 #[.pointer (some ⟨WB,0,none⟩),.slice (some ⟨b,o,none⟩) n c] w fun e w'=>e = .returned (.tuple #[])∧Wrote w WB sv (l++m) w':=by
 have H:=yA h;have HM:=yA hr;have HN:=yA hn;obtain ⟨s0,s1⟩:=h.cells;clear h hr hn;obtain ⟨i5,hi,hz0,hz1,hz2⟩:=cR (show (Tryz.prog.info? 5).map (fun i=>(i.zero,i.size,i.bytes))=some (some (.int .u8 0),1,1) by kernel_rfl);go_enter Tryz.func160,Tryz.ntmps160
 go_wp2_with (at_builtin;refine kA rfl (.tmp 16) (.tmp 17) 59 59 rfl 5 i5 (.int .u8 0) 1 1 Tryz.underlying59 hi hz0 hz1 hz2 rfl sv l.length (cellsOf ai l) rfl H.out.own (.slice (some ⟨b,o,none⟩) n c) n (cellsOf ai m) rfl (Src.ofSlice (P:=Tryz.prog) w Tryz.underlying59 _ _ c (cellsOf ai m) (by rw [aG,HN.out];omega) (fun j u hu=>by have hadd:(⟨b,o,none⟩:Addr).add j=⟨b,o+j,none⟩:=by { unfold Addr.add;split <;> simp_all };rw [hadd];exact HM.out j u hu) (dP ai fv m)) (.inl (by omega)) (by unfold maxLen;omega) (by omega) ?_)
 intro g cap w1 hown hk hb;have HO:=yA hown;have HK:=yA hk;have HB:=yA hb;have hbox:=hk.old H.out.box (fun he=>H.out.ne he);have HBX:=yA hbox;have q0:w1.cell? ⟨WB,0,none⟩=some sv:=by rw [yI w1 WB _ _ _ (0,0) hbox];rfl
 have qf:=frozen_of_row w1 WB 0 _ _ hbox;clear hown hk hb hbox
 have HE:=yA (show Wrote w WB sv (l++m) (w1.setCell ⟨WB,0,none⟩ (.slice (some ⟨g,0,none⟩) (l.length+n) cap)) from by
  have hWB:WB<w.heap.size:=yK H.out.box
  have hne:g≠WB:=by
   intro he;subst he;rcases HB.out with h | h
   · exact H.out.ne h
   · omega
  refine ⟨.slice (some ⟨g,0,none⟩) (l.length+n) cap,⟨aj HBX.out 0 _,?_,?_⟩,?_,?_⟩
  · have:=HO.out.keep (Keep.setCell w1 WB 0 (.slice (some ⟨g,0,none⟩) (l.length+n) cap)) (fun g' hg' he=>by simp [Value.ownBlock] at hg';omega)
    rw [yN,HN.out]
    simpa [cellsOf] using this
  · simp [Value.ownBlock];exact hne
  · exact HK.out.trans (Keep.setCell w1 WB 0 _) (fun _ _ h=>.inr h) (fun _ _ h=>.inl h)
  · intro g' hg'
    simp [Value.ownBlock] at hg';subst hg';exact HB.out)
 go_wp2_with fail
 exact z9 (v:=.tuple #[]) (by simp [results,Tryz.results160,go_sem]) rfl ⟨rfl,HE.out⟩
def ca (n:Nat):List Int:=if h:n≤127 then [(n:Int)] else bits .or .u8 ((n:Int) % 256) 128::ca (n / 128)
termination_by n
decreasing_by omega
theorem f6 {n:Nat} (h:n≤127):ca n=[(n:Int)]:=by rw [ca,dif_pos h]
theorem kO {n:Nat} (h:¬ n≤127):ca n=bits .or .u8 ((n:Int) % 256) 128::ca (n / 128):=by rw [ca,dif_neg h]
theorem rk:∀ (j n:Nat),n<128 ^ (j+1)→(ca n).length≤j+1
 | 0,n,h=>by rw [f6 (by simpa using Nat.le_of_lt_succ h)];simp
 | j+1,n,h=>by
   by_cases h1:n≤127
   · rw [f6 h1];simp
   · rw [kO h1]
     have:=rk j (n / 128) (by rw [Nat.div_lt_iff_lt_mul (by omega)];rw [Nat.pow_succ] at h;exact h);simp;omega
theorem eW {n:Nat} (h:n<18446744073709551616):(ca n).length≤10:=rk 9 n (by omega)
theorem byte_at (w:World) (x:Int):∀ j u,(cellsOf ai [x])[j]?=some u→(w.alloc (.cells #[.int .u8 x] 5)).cell? ⟨w.heap.size,0+j,none⟩=some u:=by
 intro j u hu;rw [yO,yI _ _ _ _ _ (0,0) (yE w (.cells #[.int .u8 x] 5))];cases j with
 | zero=>simpa [cellsOf,ai] using hu
 | succ j=>simp [cellsOf,ai] at hu
theorem tH (w:World) (WB:Nat) (sv:Value) (l:List Int) (h:W1 w WB sv l) (n:Nat) (hn:n<18446744073709551616) (hl:l.length≤1000000000) :
 Calls Tryz.prog 158 #[.pointer (some ⟨WB,0,none⟩),.int .u64 n] w fun e w'=>e = .returned (.tuple #[])∧Wrote w WB sv (l++ca n) w':=by
 have H:=yA h;clear h;go_enter Tryz.func158,Tryz.ntmps158
 go_wp2_with fail
 go_loopw [1] (fun a wr=>Hid (∃ (k:Nat) (d:List Int),a = .int .u64 k∧d++ca k=ca n∧k<18446744073709551616∧Wrote w WB sv (l++d) wr)) (fun a _=>(intOf a).toNat)
 case atStart=>exact yA ⟨n,[],rfl,rfl,hn,by rw [List.append_nil];exact Wrote.nil H.out⟩
 case round=>
  obtain ⟨k,d,rfl,hd,hk,hw⟩:=hrel.out;clear hrel;have HW:=yA hw;have HD:=yA hd;clear hw hd
  have HL:=yA (show (l++d).length+1≤1000000011 by
   have h1:=eW hn;rw [←HD.out,yN] at h1;have h2:0<(ca k).length:=by by_cases hk:k≤127 <;> simp [f6,kO,hk]
   rw [yN];omega)
  obtain ⟨sv1,hw1,hk1,hn1⟩:=HW.out;have H1:=yA hw1
  have HWN:=yA (fun (x:Int) (w2:World) (h2:Wrote (wr.alloc (.cells #[.int .u8 x] 5)) WB sv1 (l++d++[x]) w2)=>show Wrote w WB sv (l++(d++[x])) w2 from by
   rw [←zq];exact Wrote.step hk1 hn1 (Wrote.after (Keep.alloc _ _ _) h2))
  clear hw1 hk1 hn1;by_cases h1:k≤127
  · go_wp2_with fail
    refine (put_any (wr.alloc (.cells #[.int .u8 k] 5)) WB sv1 (l++d) [(k:Int)] (H1.out.alloc _) wr.heap.size 0 1 1 rfl (by omega) (byte_at wr k) (by have:=HL.out;omega)).mono ?_;rintro e w2 ⟨rfl,hb2⟩
    have HE:=yA (show Wrote w WB sv (l++ca n) w2 from by
     have h3:=HWN.out _ _ hb2;rw [←HD.out,f6 h1];exact h3)
    go_wp2_with fail
    exact z9 (v:=.tuple #[]) (by simp [results,Tryz.results158,go_sem]) rfl ⟨rfl,HE.out⟩
  · go_wp2_with fail
    have HV:=yA (kO h1);generalize bits .or .u8 ((k:Int) % 256) 128=x at *;refine (put_any (wr.alloc (.cells #[.int .u8 x] 5)) WB sv1 (l++d) [x] (H1.out.alloc _) wr.heap.size 0 1 1 rfl (by omega) (byte_at wr x) (by have:=HL.out;omega)).mono ?_;rintro e w2 ⟨rfl,hb2⟩;have HE:=yA (HWN.out _ _ hb2);go_wp2_with fail
    go_roundw
    case rel=>exact yA ⟨k / 128,d++[x],by go_num,by rw [zq,←HD.out,HV.out];rfl,by omega,HE.out⟩
    case measure=>simp [intOf];omega
theorem xj (w:World) (l:List Int) (cs:Array Value) (t:TypeId) (h:cs=(cellsOf ai l).toArray):∀ j u,(cellsOf ai l)[j]?=some u→(w.alloc (.cells cs t)).cell? ⟨w.heap.size,0+j,none⟩=some u:=by
 intro j u hu;rw [yO,yI _ _ _ _ _ (0,0) (yE w (.cells cs t)),h]
 simpa using hu
def zzN (n:Int):Nat:=(IntKind.u64.wrap (IntKind.u64.wrap n*2)).toNat ^^^ (IntKind.u64.wrap (n / 9223372036854775808)).toNat
theorem ji (n:Int):0≤IntKind.u64.wrap n∧IntKind.u64.wrap n<18446744073709551616:=by rw [IntKind.wrap_u64];omega
theorem zzN_eq (n:Int):bits .xor .u64 (IntKind.u64.wrap (IntKind.u64.wrap n*2)) (IntKind.u64.wrap (n / 9223372036854775808))=(zzN n:Int):=
 u64_xor _ _ (ji _).1 (ji _).2 (ji _).1 (ji _).2
theorem xk (n:Int):zzN n<18446744073709551616:=by
 have h1:=ji (IntKind.u64.wrap n*2);have h2:=ji (n / 9223372036854775808);exact Nat.xor_lt_two_pow (n:=64) (by omega) (by omega)
def eC (n:Int):List Int:=ca (zzN n)
theorem eX (n:Int):(eC n).length≤10:=eW (xk n)
def cb (x y:Int):List Int:=[IntKind.u16.wrap x / 256 % 256,IntKind.u16.wrap x % 256,IntKind.u16.wrap y / 256 % 256,IntKind.u16.wrap y % 256]
theorem yt (w:World) (WB:Nat) (sv:Value) (l:List Int) (h:W1 w WB sv l) (n:Int) (hn:ar n) (hl:l.length≤1000000000) :
 Calls Tryz.prog 215 #[.pointer (some ⟨WB,0,none⟩),.int .i64 n] w fun e w'=>e = .returned (.tuple #[])∧Wrote w WB sv (l++eC n) w':=by
 have H:=yA h;obtain ⟨n1,n2⟩:=hn;clear h;go_enter Tryz.func215,Tryz.ntmps215
 go_wp2_with fail
 rw [zzN_eq];refine (tH w WB sv l H.out (zzN n) (xk n) hl).mono ?_;rintro e w2 ⟨rfl,hb2⟩;have HE:=yA hb2;clear hb2;go_wp2_with fail
 exact z9 (v:=.tuple #[]) (by simp [results,Tryz.results215,go_sem]) rfl ⟨rfl,HE.out⟩
theorem uW (w:World) (WB:Nat) (sv:Value) (l:List Int) (h:W1 w WB sv l) (x y:Int) (hx:bc x) (hy:bc y) (hl:l.length≤1000000000) :
 Calls Tryz.prog 211 #[.pointer (some ⟨WB,0,none⟩),.agg #[.int .i16 x,.int .i16 y]] w fun e w'=>e = .returned (.tuple #[])∧Wrote w WB sv (l++cb x y) w':=by
 have H:=yA h;obtain ⟨n1,n2⟩:=hx;obtain ⟨n3,n4⟩:=hy;clear h;go_enter Tryz.func211,Tryz.ntmps211
 go_wp2_with fail
 go_quiet (fail)
 go_wp2_with fail
 have HS:=yA (show ((w.alloc (.cells #[.int .i16 x,.int .i16 y] 75)).drewN nq).heap.size=w.heap.size+1 from (show (w.alloc (.cells #[.int .i16 x,.int .i16 y] 75)).heap.size=w.heap.size+1 by simp));have HK:=yA (show Keep (fun _=>False) w ((w.alloc (.cells #[.int .i16 x,.int .i16 y] 75)).drewN nq) from (Keep.alloc (fun _=>False) w (.cells #[.int .i16 x,.int .i16 y] 75)).trans (Y:=fun _=>False) ⟨rfl,rfl,rfl,yB _,fun _ _ _=>rfl⟩ (fun _ _ h=>h) (fun _ _ h=>h));rw [←HS.out];generalize (w.alloc (.cells #[.int .i16 x,.int .i16 y] 75)).drewN nq=wa at *;refine (put_any (wa.alloc (.cells #[.int .u8 (IntKind.u16.wrap x / 256 % 256),.int .u8 (IntKind.u16.wrap x % 256),.int .u8 (IntKind.u16.wrap y / 256 % 256),.int .u8 (IntKind.u16.wrap y % 256)] 5)) WB sv l (cb x y) ((H.out.keep HK.out id (fun _ _=>id)).alloc _) wa.heap.size 0 4 4 rfl (by omega) (xj wa (cb x y) _ _ rfl) (by omega)).mono ?_;rintro e w2 ⟨rfl,hb2⟩;have HE:=yA (Wrote.after HK.out (Wrote.after (Keep.alloc _ _ _) hb2));clear hb2;go_wp2_with fail
 exact z9 (v:=.tuple #[]) (by simp [results,Tryz.results211,go_sem]) rfl ⟨rfl,HE.out⟩
theorem yu (w:World) (WB:Nat) (sv:Value) (l:List Int) (h:W1 w WB sv l) (x0 x1 x2 x3 x4 x5 x6 x7:Int) (hl:l.length≤1000000000) :
 Calls Tryz.prog 209 #[.pointer (some ⟨WB,0,none⟩),.agg #[.int .u8 x0,.int .u8 x1,.int .u8 x2,.int .u8 x3,.int .u8 x4,.int .u8 x5,.int .u8 x6,.int .u8 x7]] w fun e w'=>e = .returned (.tuple #[])∧Wrote w WB sv (l++[x0,x1,x2,x3,x4,x5,x6,x7]) w':=by
 have H:=yA h;clear h;go_enter Tryz.func209,Tryz.ntmps209
 go_wp2_with fail
 refine (put_any (w.alloc (.cells #[.int .u8 x0,.int .u8 x1,.int .u8 x2,.int .u8 x3,.int .u8 x4,.int .u8 x5,.int .u8 x6,.int .u8 x7] 72)) WB sv l [x0,x1,x2,x3,x4,x5,x6,x7] (H.out.alloc _) w.heap.size 0 8 8 rfl (by omega) (xj w [x0,x1,x2,x3,x4,x5,x6,x7] _ _ rfl) (by omega)).mono ?_;rintro e w2 ⟨rfl,hb2⟩;have HE:=yA (Wrote.after (Keep.alloc _ _ _) hb2);clear hb2;go_wp2_with fail
 exact z9 (v:=.tuple #[]) (by simp [results,Tryz.results209,go_sem]) rfl ⟨rfl,HE.out⟩
theorem xl (w:World) (WB:Nat) (sv:Value) (l:List Int) (h:W1 w WB sv l) (x:Int) (hl:l.length≤1000000000) :
 Calls Tryz.prog 213 #[.pointer (some ⟨WB,0,none⟩),.int .u8 x] w fun e w'=>e = .returned (.tuple #[])∧Wrote w WB sv (l++[x]) w':=by
 have H:=yA h;clear h;go_enter Tryz.func213,Tryz.ntmps213
 go_wp2_with fail
 refine (put_any (w.alloc (.cells #[.int .u8 x] 5)) WB sv l [x] (H.out.alloc _) w.heap.size 0 1 1 rfl (by omega) (byte_at w x) (by omega)).mono ?_;rintro e w2 ⟨rfl,hb2⟩;have HE:=yA (Wrote.after (Keep.alloc _ _ _) hb2);go_wp2_with fail
 exact z9 (v:=.tuple #[]) (by simp [results,Tryz.results213,go_sem]) rfl ⟨rfl,HE.out⟩
structure Gt (wS:World) (GB WB:Nat) (sv:Value) (l:List Int) (w:World):Prop where
 gate:w.heap[GB]?=some (.cells #[.pointer (some ⟨WB,0,none⟩),.pointer none,.int .i64 0] 147 (0,0))
 w1:W1 w WB sv l
 gw:GB≠WB
 gs:sv.ownBlock≠some GB
 below:Below wS.heap.size wS w
 wb:wS.heap.size≤WB
 sb:∀ g,sv.ownBlock=some g→wS.heap.size≤g
def aA (wS:World) (GB WB:Nat) (sv:Value) (l:List Int) (w w':World):Prop:=
 ∃ sv',Gt wS GB WB sv' l w'∧Keep (fun k=>k=WB∨sv.ownBlock=some k) w w'∧∀ g,sv'.ownBlock=some g→sv.ownBlock=some g∨w.heap.size≤g
theorem Gt.cells {wS:World} {GB WB:Nat} {sv:Value} {l:List Int} {w:World} (h:Gt wS GB WB sv l w):w.cell? ⟨GB,0,none⟩=some (.pointer (some ⟨WB,0,none⟩)):=by
 rw [yI w GB _ _ _ (0,0) h.gate];rfl
theorem Gt.keep {wS:World} {GB WB:Nat} {sv:Value} {l:List Int} {w w':World} (h:Gt wS GB WB sv l w) (hk:Keep (fun _=>False) w w'):Gt wS GB WB sv l w':=
 ⟨hk.old h.gate id,h.w1.keep hk id (fun _ _=>id),h.gw,h.gs,h.below.trans (hk.below h.below.size (fun _ _=>id)),h.wb,h.sb⟩
theorem Gt.alloc {wS:World} {GB WB:Nat} {sv:Value} {l:List Int} {w:World} (h:Gt wS GB WB sv l w) (o:Obj):Gt wS GB WB sv l (w.alloc o):=h.keep (Keep.alloc _ _ _)
theorem Gt.drew {wS:World} {GB WB:Nat} {sv:Value} {l:List Int} {w:World} (h:Gt wS GB WB sv l w):Gt wS GB WB sv l w.drew:=h.keep (Keep.drew _ _)
theorem Gt.write {wS:World} {GB WB:Nat} {sv:Value} {l l':List Int} {w w':World} (h:Gt wS GB WB sv l w) (hw:Wrote w WB sv l' w'):aA wS GB WB sv l' w w':=by
 obtain ⟨sv',a1,a2,a3⟩:=hw;have hs:=h.below.size;refine ⟨sv',⟨a2.old h.gate (fun hx=>hx.elim h.gw h.gs),a1,h.gw,?_,h.below.trans (a2.below hs ?_),h.wb,?_⟩,a2,a3⟩
 · intro he
   rcases a3 _ he with h1 | h1
   · exact h.gs h1
   · have:=yK h.gate;omega
 · rintro i hi (h1 | h1)
   · have:=h.wb;omega
   · have:=h.sb _ h1;omega
 · intro g hg
   rcases a3 _ hg with h1 | h1
   · exact h.sb _ h1
   · omega
theorem aA.step {wS:World} {GB WB:Nat} {sv sv1:Value} {l2:List Int} {w w1 w2:World} (a2:Keep (fun k=>k=WB∨sv.ownBlock=some k) w w1) (a3:∀ g,sv1.ownBlock=some g→sv.ownBlock=some g∨w.heap.size≤g) (h:aA wS GB WB sv1 l2 w1 w2):aA wS GB WB sv l2 w w2:=by
 obtain ⟨sv2,b1,b2,b3⟩:=h;refine ⟨sv2,b1,a2.trans b2 (fun _ _ h=>h) (fun k hk h=>?_),fun g hg=>?_⟩
 · rcases h with h | h
   · exact .inl h
   · rcases a3 k h with h | h
     · exact .inr h
     · omega
 · rcases b3 g hg with h | h
   · exact a3 g h
   · exact .inr (yV a2.size h)
theorem aA.after {wS:World} {GB WB:Nat} {sv:Value} {l2:List Int} {w w1 w2:World} (hk:Keep (fun _=>False) w w1) (h:aA wS GB WB sv l2 w1 w2):aA wS GB WB sv l2 w w2:=
 h.step (hk.mono (fun _ _ h=>h.elim)) (fun g hg=>.inl hg)
theorem aA.nil {wS:World} {GB WB:Nat} {sv:Value} {l:List Int} {w:World} (h:Gt wS GB WB sv l w):aA wS GB WB sv l w w:=⟨sv,h,Keep.refl _ _,fun g hg=>.inl hg⟩
def Free (sv:Value) (WB b:Nat):Prop:=b≠WB∧sv.ownBlock≠some b
theorem Free.next {sv sv':Value} {WB b:Nat} {w:World} (h:Free sv WB b) (hb:b<w.heap.size) (h3:∀ g,sv'.ownBlock=some g→sv.ownBlock=some g∨w.heap.size≤g):Free sv' WB b:=by
 refine ⟨h.1,fun he=>?_⟩;rcases h3 _ he with h1 | h1
 · exact h.2 h1
 · omega
theorem Free.new {wS:World} {GB WB:Nat} {sv:Value} {l:List Int} {w:World} (h:Gt wS GB WB sv l w) {b:Nat} (hb:w.heap.size≤b):Free sv WB b:=by
 refine ⟨fun he=>?_,fun he=>?_⟩
 · have:=yK h.w1.box;omega
 · have:=h.w1.own.lt _ he;omega
theorem Free.not {sv:Value} {WB b:Nat} (h:Free sv WB b):¬ (b=WB∨sv.ownBlock=some b):=fun hx=>hx.elim h.1 h.2
theorem Free.old {wS:World} {GB WB:Nat} {sv:Value} {l:List Int} {w:World} (h:Gt wS GB WB sv l w) {b:Nat} (hb:b<wS.heap.size):Free sv WB b:=
 ⟨fun he=>by have:=h.wb;omega,fun he=>by have:=h.sb _ he;omega⟩
theorem du (wS w:World) (GB WB:Nat) (sv:Value) (l:List Int) (h:Gt wS GB WB sv l w) (b o:Nat) (n mx:Int) (hp:w.cell? ⟨b,o,none⟩=some (.int .i64 n)) (h0:0≤n) (hn:ar n) (hl:l.length≤1000000000) :
 Calls Tryz.prog 122 #[.pointer (some ⟨GB,0,none⟩),.pointer (some ⟨b,o,none⟩),.int .i64 mx] w fun e w'=>e = .returned (.tuple #[])∧aA wS GB WB sv (l++ca n.toNat) w w':=by
 have H:=yA h;have g0:=h.cells;obtain ⟨n1,n2⟩:=hn;obtain ⟨k,rfl⟩:∃ k:Nat,n=k:=⟨n.toNat,by omega⟩;clear h;go_enter Tryz.func122,Tryz.ntmps122
 go_wp2_with fail
 go_still_tail 8,(by kernel_rfl)
 change wpList _ _ _ _ _ w.drew
 have HD:=yA H.out.drew;go_wp2_with fail
 refine (tH w.drew WB sv l HD.out.w1 k (by omega) hl).mono ?_;rintro e w2 ⟨rfl,hb2⟩;have HE:=yA ((HD.out.write hb2).after (Keep.drew _ _));clear hb2;go_wp2_with fail
 exact yS (v:=.tuple #[]) (by simp [results,Tryz.results122,go_sem]) rfl ⟨rfl,HE.out⟩
theorem jj (wS w:World) (GB WB:Nat) (sv:Value) (l:List Int) (h:Gt wS GB WB sv l w) (b o:Nat) (n:Int) (hp:w.cell? ⟨b,o,none⟩=some (.int .i64 n)) (hn:ar n) (hl:l.length≤1000000000) :
 Calls Tryz.prog 189 #[.pointer (some ⟨GB,0,none⟩),.pointer (some ⟨b,o,none⟩)] w fun e w'=>e = .returned (.tuple #[])∧aA wS GB WB sv (l++eC n) w w':=by
 have H:=yA h;have g0:=h.cells
 skip
 clear h;go_enter Tryz.func189,Tryz.ntmps189
 go_wp2_with fail
 go_still_tail 7,(by kernel_rfl)
 change wpList _ _ _ _ _ w.drew
 have HD:=yA H.out.drew;go_wp2_with fail
 refine (yt w.drew WB sv l HD.out.w1 n hn hl).mono ?_;rintro e w2 ⟨rfl,hb2⟩;have HE:=yA ((HD.out.write hb2).after (Keep.drew _ _));clear hb2;go_wp2_with fail
 exact z9 (v:=.tuple #[]) (by simp [results,Tryz.results189,go_sem]) rfl ⟨rfl,HE.out⟩
theorem jk (wS w:World) (GB WB:Nat) (sv:Value) (l:List Int) (h:Gt wS GB WB sv l w) (b o:Nat) (n:Int) (hp:w.cell? ⟨b,o,none⟩=some (.int .u8 n)) (hl:l.length≤1000000000) :
 Calls Tryz.prog 188 #[.pointer (some ⟨GB,0,none⟩),.pointer (some ⟨b,o,none⟩)] w fun e w'=>e = .returned (.tuple #[])∧aA wS GB WB sv (l++[n]) w w':=by
 have H:=yA h;have g0:=h.cells
 skip
 clear h;go_enter Tryz.func188,Tryz.ntmps188
 go_wp2_with fail
 go_still_tail 7,(by kernel_rfl)
 change wpList _ _ _ _ _ w.drew
 have HD:=yA H.out.drew;go_wp2_with fail
 refine (xl w.drew WB sv l HD.out.w1 n hl).mono ?_;rintro e w2 ⟨rfl,hb2⟩;have HE:=yA ((HD.out.write hb2).after (Keep.drew _ _));clear hb2;go_wp2_with fail
 exact z9 (v:=.tuple #[]) (by simp [results,Tryz.results188,go_sem]) rfl ⟨rfl,HE.out⟩
theorem jZ (wS w:World) (GB WB:Nat) (sv:Value) (l:List Int) (h:Gt wS GB WB sv l w) (b o:Nat) (x y:Int) (hp:w.cell? ⟨b,o,none⟩=some (.int .i16 x)∧w.cell? ⟨b,o+1,none⟩=some (.int .i16 y)) (hx:bc x) (hy:bc y) (hl:l.length≤1000000000) :
 Calls Tryz.prog 187 #[.pointer (some ⟨GB,0,none⟩),.pointer (some ⟨b,o,none⟩)] w fun e w'=>e = .returned (.tuple #[])∧aA wS GB WB sv (l++cb x y) w w':=by
 have H:=yA h;have g0:=h.cells;obtain ⟨p0,p1⟩:=hp;clear h;go_enter Tryz.func187,Tryz.ntmps187
 go_wp2_with fail
 go_still_tail 7,(by kernel_rfl)
 change wpList _ _ _ _ _ w.drew
 have HD:=yA H.out.drew;go_wp2_with fail
 refine (uW w.drew WB sv l HD.out.w1 x y hx hy hl).mono ?_;rintro e w2 ⟨rfl,hb2⟩;have HE:=yA ((HD.out.write hb2).after (Keep.drew _ _));clear hb2;go_wp2_with fail
 exact z9 (v:=.tuple #[]) (by simp [results,Tryz.results187,go_sem]) rfl ⟨rfl,HE.out⟩
theorem tI (wS w:World) (GB WB:Nat) (sv:Value) (l:List Int) (h:Gt wS GB WB sv l w) (b o:Nat) (x0 x1 x2 x3 x4 x5 x6 x7:Int) (hp:w.cell? ⟨b,o,none⟩=some (.int .u8 x0)∧w.cell? ⟨b,o+1,none⟩=some (.int .u8 x1)∧w.cell? ⟨b,o+2,none⟩=some (.int .u8 x2)∧w.cell? ⟨b,o+3,none⟩=some (.int .u8 x3)∧w.cell? ⟨b,o+4,none⟩=some (.int .u8 x4)∧w.cell? ⟨b,o+5,none⟩=some (.int .u8 x5)∧w.cell? ⟨b,o+6,none⟩=some (.int .u8 x6)∧w.cell? ⟨b,o+7,none⟩=some (.int .u8 x7)) (hl:l.length≤1000000000) :
 Calls Tryz.prog 186 #[.pointer (some ⟨GB,0,none⟩),.pointer (some ⟨b,o,none⟩)] w fun e w'=>e = .returned (.tuple #[])∧aA wS GB WB sv (l++[x0,x1,x2,x3,x4,x5,x6,x7]) w w':=by
 have H:=yA h;have g0:=h.cells;obtain ⟨p0,p1,p2,p3,p4,p5,p6,p7⟩:=hp;clear h;go_enter Tryz.func186,Tryz.ntmps186
 go_wp2_with fail
 go_still_tail 7,(by kernel_rfl)
 change wpList _ _ _ _ _ w.drew
 have HD:=yA H.out.drew;go_wp2_with fail
 refine (yu w.drew WB sv l HD.out.w1 x0 x1 x2 x3 x4 x5 x6 x7 hl).mono ?_;rintro e w2 ⟨rfl,hb2⟩;have HE:=yA ((HD.out.write hb2).after (Keep.drew _ _));clear hb2;go_wp2_with fail
 exact z9 (v:=.tuple #[]) (by simp [results,Tryz.results186,go_sem]) rfl ⟨rfl,HE.out⟩
theorem am {w:World} {H:Nat} {v:Value} {t:TypeId} (h:w.heap[H]?=some (.cells #[v] t (0,0))):w.cell? ⟨H,0,none⟩=some v:=by
 rw [yI w H _ _ t (0,0) h];rfl
theorem nF (w:World) (p q:Value) (hp:∃ a,p = .pointer a) (hq:∃ a,q = .pointer a) :
 Calls Tryz.prog 185 #[p,q] w fun e w'=>e = .returned (.slice (some ⟨w.heap.size+1+1,0,none⟩) 7 7)∧w'=((w.alloc (.cells #[p] 142)).alloc (.cells #[q] 261)).alloc (.cells #[.func (.func 202) #[] #[.pointer (some ⟨w.heap.size,0,none⟩),.pointer (some ⟨w.heap.size+1,0,none⟩)],.func (.func 203) #[] #[.pointer (some ⟨w.heap.size,0,none⟩),.pointer (some ⟨w.heap.size+1,0,none⟩)],.func (.func 204) #[] #[.pointer (some ⟨w.heap.size,0,none⟩),.pointer (some ⟨w.heap.size+1,0,none⟩)],.func (.func 205) #[] #[.pointer (some ⟨w.heap.size,0,none⟩),.pointer (some ⟨w.heap.size+1,0,none⟩)],.func (.func 206) #[] #[.pointer (some ⟨w.heap.size,0,none⟩),.pointer (some ⟨w.heap.size+1,0,none⟩)],.func (.func 207) #[] #[.pointer (some ⟨w.heap.size,0,none⟩),.pointer (some ⟨w.heap.size+1,0,none⟩)],.func (.func 208) #[] #[.pointer (some ⟨w.heap.size,0,none⟩),.pointer (some ⟨w.heap.size+1,0,none⟩)]] 1):=by
 have hmf:∀ (fn:Fn) (first cap:Array Value) (w:World),(Instr.makeFunc fn first cap).run Tryz.prog w = .ok (.func fn first cap) w:=fun _ _ _ _=>rfl
 obtain ⟨p,rfl⟩:=hp;obtain ⟨q,rfl⟩:=hq;go_enter Tryz.func185,Tryz.ntmps185
 go_wp2_with fail
 go_ret
 exact ⟨rfl,rfl⟩
theorem sR (wS w:World) (GB WB:Nat) (sv:Value) (l:List Int) (h:Gt wS GB WB sv l w) (B0 B1 b o:Nat) (h0:w.heap[B0]?=some (.cells #[.pointer (some ⟨GB,0,none⟩)] 142 (0,0))) (h1:w.heap[B1]?=some (.cells #[.pointer (some ⟨b,o,none⟩)] 261 (0,0)))
 (x:az) (hx:x.Ok) (hp:∀ j u,x.cells[j]?=some u→w.cell? ⟨b,o+j,none⟩=some u) (hl:l.length≤1000000000) :
 Calls Tryz.prog 202 #[.pointer (some ⟨B0,0,none⟩),.pointer (some ⟨B1,0,none⟩)] w fun e w'=>e = .returned (.tuple #[])∧aA wS GB WB sv (l++[x.i0,x.i1,x.i2,x.i3,x.i4,x.i5,x.i6,x.i7]) w w':=by
 have H:=yA h;have HP:=yA hp;have HX:=yA hx;have p0:=am h0;have p1:=am h1;clear h h0 h1 hp hx;go_enter Tryz.func202,Tryz.ntmps202
 go_still_tail 4,(by kernel_rfl)
 change wpList _ _ _ _ _ w.drew
 have HD:=yA H.out.drew;go_wp2_with fail
 refine (tI wS w.drew GB WB sv l HD.out b o x.i0 x.i1 x.i2 x.i3 x.i4 x.i5 x.i6 x.i7 ⟨(HP.out 0 _ rfl),(HP.out 1 _ rfl),(HP.out 2 _ rfl),(HP.out 3 _ rfl),(HP.out 4 _ rfl),(HP.out 5 _ rfl),(HP.out 6 _ rfl),(HP.out 7 _ rfl)⟩ hl).mono ?_;rintro e w2 ⟨rfl,hb2⟩;have HE:=yA (hb2.after (Keep.drew _ _));clear hb2;go_wp2_with fail
 exact z9 (v:=.tuple #[]) (by simp [results,Tryz.results202,go_sem]) rfl ⟨rfl,HE.out⟩
theorem sS (wS w:World) (GB WB:Nat) (sv:Value) (l:List Int) (h:Gt wS GB WB sv l w) (B0 B1 b o:Nat) (h0:w.heap[B0]?=some (.cells #[.pointer (some ⟨GB,0,none⟩)] 142 (0,0))) (h1:w.heap[B1]?=some (.cells #[.pointer (some ⟨b,o,none⟩)] 261 (0,0)))
 (x:az) (hx:x.Ok) (hp:∀ j u,x.cells[j]?=some u→w.cell? ⟨b,o+j,none⟩=some u) (hl:l.length≤1000000000) :
 Calls Tryz.prog 203 #[.pointer (some ⟨B0,0,none⟩),.pointer (some ⟨B1,0,none⟩)] w fun e w'=>e = .returned (.tuple #[])∧aA wS GB WB sv (l++cb x.fx x.fy) w w':=by
 have H:=yA h;have HP:=yA hp;have HX:=yA hx;have p0:=am h0;have p1:=am h1;clear h h0 h1 hp hx;go_enter Tryz.func203,Tryz.ntmps203
 go_still_tail 4,(by kernel_rfl)
 change wpList _ _ _ _ _ w.drew
 have HD:=yA H.out.drew;go_wp2_with fail
 refine (jZ wS w.drew GB WB sv l HD.out b (o+8) x.fx x.fy ⟨(HP.out 8 _ rfl),(HP.out 9 _ rfl)⟩ HX.out.from_.1 HX.out.from_.2 hl).mono ?_;rintro e w2 ⟨rfl,hb2⟩;have HE:=yA (hb2.after (Keep.drew _ _));clear hb2;go_wp2_with fail
 exact z9 (v:=.tuple #[]) (by simp [results,Tryz.results203,go_sem]) rfl ⟨rfl,HE.out⟩
theorem sT (wS w:World) (GB WB:Nat) (sv:Value) (l:List Int) (h:Gt wS GB WB sv l w) (B0 B1 b o:Nat) (h0:w.heap[B0]?=some (.cells #[.pointer (some ⟨GB,0,none⟩)] 142 (0,0))) (h1:w.heap[B1]?=some (.cells #[.pointer (some ⟨b,o,none⟩)] 261 (0,0)))
 (x:az) (hx:x.Ok) (hp:∀ j u,x.cells[j]?=some u→w.cell? ⟨b,o+j,none⟩=some u) (hl:l.length≤1000000000) :
 Calls Tryz.prog 204 #[.pointer (some ⟨B0,0,none⟩),.pointer (some ⟨B1,0,none⟩)] w fun e w'=>e = .returned (.tuple #[])∧aA wS GB WB sv (l++cb x.tx x.ty) w w':=by
 have H:=yA h;have HP:=yA hp;have HX:=yA hx;have p0:=am h0;have p1:=am h1;clear h h0 h1 hp hx;go_enter Tryz.func204,Tryz.ntmps204
 go_still_tail 4,(by kernel_rfl)
 change wpList _ _ _ _ _ w.drew
 have HD:=yA H.out.drew;go_wp2_with fail
 refine (jZ wS w.drew GB WB sv l HD.out b (o+10) x.tx x.ty ⟨(HP.out 10 _ rfl),(HP.out 11 _ rfl)⟩ HX.out.to_.1 HX.out.to_.2 hl).mono ?_;rintro e w2 ⟨rfl,hb2⟩;have HE:=yA (hb2.after (Keep.drew _ _));clear hb2;go_wp2_with fail
 exact z9 (v:=.tuple #[]) (by simp [results,Tryz.results204,go_sem]) rfl ⟨rfl,HE.out⟩
theorem sU (wS w:World) (GB WB:Nat) (sv:Value) (l:List Int) (h:Gt wS GB WB sv l w) (B0 B1 b o:Nat) (h0:w.heap[B0]?=some (.cells #[.pointer (some ⟨GB,0,none⟩)] 142 (0,0))) (h1:w.heap[B1]?=some (.cells #[.pointer (some ⟨b,o,none⟩)] 261 (0,0)))
 (x:az) (hx:x.Ok) (hp:∀ j u,x.cells[j]?=some u→w.cell? ⟨b,o+j,none⟩=some u) (hl:l.length≤1000000000) :
 Calls Tryz.prog 205 #[.pointer (some ⟨B0,0,none⟩),.pointer (some ⟨B1,0,none⟩)] w fun e w'=>e = .returned (.tuple #[])∧aA wS GB WB sv (l++[x.seats]) w w':=by
 have H:=yA h;have HP:=yA hp;have HX:=yA hx;have p0:=am h0;have p1:=am h1;clear h h0 h1 hp hx;go_enter Tryz.func205,Tryz.ntmps205
 go_still_tail 4,(by kernel_rfl)
 change wpList _ _ _ _ _ w.drew
 have HD:=yA H.out.drew;go_wp2_with fail
 refine (jk wS w.drew GB WB sv l HD.out b (o+12) x.seats (HP.out 12 _ rfl) hl).mono ?_;rintro e w2 ⟨rfl,hb2⟩;have HE:=yA (hb2.after (Keep.drew _ _));clear hb2;go_wp2_with fail
 exact z9 (v:=.tuple #[]) (by simp [results,Tryz.results205,go_sem]) rfl ⟨rfl,HE.out⟩
theorem sV (wS w:World) (GB WB:Nat) (sv:Value) (l:List Int) (h:Gt wS GB WB sv l w) (B0 B1 b o:Nat) (h0:w.heap[B0]?=some (.cells #[.pointer (some ⟨GB,0,none⟩)] 142 (0,0))) (h1:w.heap[B1]?=some (.cells #[.pointer (some ⟨b,o,none⟩)] 261 (0,0)))
 (x:az) (hx:x.Ok) (hp:∀ j u,x.cells[j]?=some u→w.cell? ⟨b,o+j,none⟩=some u) (hl:l.length≤1000000000) :
 Calls Tryz.prog 206 #[.pointer (some ⟨B0,0,none⟩),.pointer (some ⟨B1,0,none⟩)] w fun e w'=>e = .returned (.tuple #[])∧aA wS GB WB sv (l++[x.classes]) w w':=by
 have H:=yA h;have HP:=yA hp;have HX:=yA hx;have p0:=am h0;have p1:=am h1;clear h h0 h1 hp hx;go_enter Tryz.func206,Tryz.ntmps206
 go_still_tail 4,(by kernel_rfl)
 change wpList _ _ _ _ _ w.drew
 have HD:=yA H.out.drew;go_wp2_with fail
 refine (jk wS w.drew GB WB sv l HD.out b (o+13) x.classes (HP.out 13 _ rfl) hl).mono ?_;rintro e w2 ⟨rfl,hb2⟩;have HE:=yA (hb2.after (Keep.drew _ _));clear hb2;go_wp2_with fail
 exact z9 (v:=.tuple #[]) (by simp [results,Tryz.results206,go_sem]) rfl ⟨rfl,HE.out⟩
theorem sW (wS w:World) (GB WB:Nat) (sv:Value) (l:List Int) (h:Gt wS GB WB sv l w) (B0 B1 b o:Nat) (h0:w.heap[B0]?=some (.cells #[.pointer (some ⟨GB,0,none⟩)] 142 (0,0))) (h1:w.heap[B1]?=some (.cells #[.pointer (some ⟨b,o,none⟩)] 261 (0,0)))
 (x:az) (hx:x.Ok) (hp:∀ j u,x.cells[j]?=some u→w.cell? ⟨b,o+j,none⟩=some u) (hl:l.length≤1000000000) :
 Calls Tryz.prog 207 #[.pointer (some ⟨B0,0,none⟩),.pointer (some ⟨B1,0,none⟩)] w fun e w'=>e = .returned (.tuple #[])∧aA wS GB WB sv (l++eC x.base) w w':=by
 have H:=yA h;have HP:=yA hp;have HX:=yA hx;have p0:=am h0;have p1:=am h1;clear h h0 h1 hp hx;go_enter Tryz.func207,Tryz.ntmps207
 go_still_tail 4,(by kernel_rfl)
 change wpList _ _ _ _ _ w.drew
 have HD:=yA H.out.drew;go_wp2_with fail
 refine (jj wS w.drew GB WB sv l HD.out b (o+14) x.base (HP.out 14 _ rfl) HX.out.base hl).mono ?_;rintro e w2 ⟨rfl,hb2⟩;have HE:=yA (hb2.after (Keep.drew _ _));clear hb2;go_wp2_with fail
 exact z9 (v:=.tuple #[]) (by simp [results,Tryz.results207,go_sem]) rfl ⟨rfl,HE.out⟩
theorem sX (wS w:World) (GB WB:Nat) (sv:Value) (l:List Int) (h:Gt wS GB WB sv l w) (B0 B1 b o:Nat) (h0:w.heap[B0]?=some (.cells #[.pointer (some ⟨GB,0,none⟩)] 142 (0,0))) (h1:w.heap[B1]?=some (.cells #[.pointer (some ⟨b,o,none⟩)] 261 (0,0)))
 (x:az) (hx:x.Ok) (hp:∀ j u,x.cells[j]?=some u→w.cell? ⟨b,o+j,none⟩=some u) (hl:l.length≤1000000000) :
 Calls Tryz.prog 208 #[.pointer (some ⟨B0,0,none⟩),.pointer (some ⟨B1,0,none⟩)] w fun e w'=>e = .returned (.tuple #[])∧aA wS GB WB sv (l++eC x.ttl) w w':=by
 have H:=yA h;have HP:=yA hp;have HX:=yA hx;have p0:=am h0;have p1:=am h1;clear h h0 h1 hp hx;go_enter Tryz.func208,Tryz.ntmps208
 go_still_tail 4,(by kernel_rfl)
 change wpList _ _ _ _ _ w.drew
 have HD:=yA H.out.drew;go_wp2_with fail
 refine (jj wS w.drew GB WB sv l HD.out b (o+15) x.ttl (HP.out 15 _ rfl) HX.out.ttl hl).mono ?_;rintro e w2 ⟨rfl,hb2⟩;have HE:=yA (hb2.after (Keep.drew _ _));clear hb2;go_wp2_with fail
 exact z9 (v:=.tuple #[]) (by simp [results,Tryz.results208,go_sem]) rfl ⟨rfl,HE.out⟩
def ed (x:az):List (List Int):=[[x.i0,x.i1,x.i2,x.i3,x.i4,x.i5,x.i6,x.i7],cb x.fx x.fy,cb x.tx x.ty,[x.seats],[x.classes],eC x.base,eC x.ttl]
def dE (x:ad):List Int:=(ed x.r).flatten++ca x.since.toNat++ca x.number.toNat
def idleB (x:ak):List Int:=[x.d.i0,x.d.i1,x.d.i2,x.d.i3,x.d.i4,x.d.i5,x.d.i6,x.d.i7]++cb x.d.ax x.d.ay++[x.d.seats]++[x.d.cls]++eC x.d.radius++ca x.number.toNat
def ek (x:ab):List Int:=ca x.r.toNat++ca x.c.toNat++ca x.w.toNat
def eY (x:ag):List Int:=ca x.r.toNat++ca x.c.toNat
theorem cg {n:Int} (h:ar n):(ca n.toNat).length≤10:=eW (by have:=h.2;omega)
theorem rl (x:az):∀ k,((ed x).take k).flatten.length≤70:=by
 intro k;have h1:=eX x.base;have h2:=eX x.ttl
 match k with
 | 0=>simp [ed]
 | 1=>simp [ed]
 | 2=>simp [ed,cb]
 | 3=>simp [ed,cb]
 | 4=>simp [ed,cb]
 | 5=>simp [ed,cb]
 | 6=>simp [ed,cb];omega
 | k+7=>simp [ed,cb];omega
theorem rm (x:az):(ed x).flatten.length≤70:=rl x 7
theorem lv {x:ad} (h:x.Ok):(dE x).length≤100:=by
 have h1:=rm x.r;have h2:=cg h.since;have h3:=cg h.number;simp only [dE,yN];omega
theorem lx {x:ak} (h:x.Ok):(idleB x).length≤100:=by
 have h1:=eX x.d.radius;have h2:=cg h.number;simp only [idleB,cb,yN,zg,zu];omega
theorem ly {x:ab} (h:x.Ok):(ek x).length≤100:=by
 have h1:=cg h.r;have h2:=cg h.c;have h3:=cg h.w;simp only [ek,yN];omega
theorem lz {x:ag} (h:x.Ok):(eY x).length≤100:=by
 have h1:=cg h.r;have h2:=cg h.c;simp only [eY,yN];omega
theorem uX {L:List (List Int)} {k:Nat} {p:List Int} (h:L[k]?=some p):(L.take (k+1)).flatten=(L.take k).flatten++p:=by
 rw [zk (yD.1 h).1,(yD.1 h).2];simp
theorem iO {α:Type} {L:List α} {k:Nat} {x:α} (f:α→List Int) (h:L[k]?=some x):(L.take (k+1)).flatMap f=(L.take k).flatMap f++f x:=by
 rw [zk (yD.1 h).1,(yD.1 h).2];simp
theorem eJ {α:Type} {f:α→List Int} {m:Nat}:∀ {L:List α},(∀ x ∈ L,(f x).length≤m)→(L.flatMap f).length≤L.length*m
 | [],_=>by simp
 | a::L,h=>by
   have h1:=h a (by simp);have h2:=eJ (fun x hx=>h x (by simp [hx])) (L:=L);simp only [List.flatMap_cons,yN,zg,Nat.add_mul];omega
theorem kP (w:World) (p q:Value):(((w.alloc (.cells #[p] 142)).alloc (.cells #[q] 261)).alloc (.cells #[.func (.func 202) #[] #[.pointer (some ⟨w.heap.size,0,none⟩),.pointer (some ⟨w.heap.size+1,0,none⟩)],.func (.func 203) #[] #[.pointer (some ⟨w.heap.size,0,none⟩),.pointer (some ⟨w.heap.size+1,0,none⟩)],.func (.func 204) #[] #[.pointer (some ⟨w.heap.size,0,none⟩),.pointer (some ⟨w.heap.size+1,0,none⟩)],.func (.func 205) #[] #[.pointer (some ⟨w.heap.size,0,none⟩),.pointer (some ⟨w.heap.size+1,0,none⟩)],.func (.func 206) #[] #[.pointer (some ⟨w.heap.size,0,none⟩),.pointer (some ⟨w.heap.size+1,0,none⟩)],.func (.func 207) #[] #[.pointer (some ⟨w.heap.size,0,none⟩),.pointer (some ⟨w.heap.size+1,0,none⟩)],.func (.func 208) #[] #[.pointer (some ⟨w.heap.size,0,none⟩),.pointer (some ⟨w.heap.size+1,0,none⟩)]] 1)).heap[w.heap.size]?=some (.cells #[p] 142 (0,0))∧
 (((w.alloc (.cells #[p] 142)).alloc (.cells #[q] 261)).alloc (.cells #[.func (.func 202) #[] #[.pointer (some ⟨w.heap.size,0,none⟩),.pointer (some ⟨w.heap.size+1,0,none⟩)],.func (.func 203) #[] #[.pointer (some ⟨w.heap.size,0,none⟩),.pointer (some ⟨w.heap.size+1,0,none⟩)],.func (.func 204) #[] #[.pointer (some ⟨w.heap.size,0,none⟩),.pointer (some ⟨w.heap.size+1,0,none⟩)],.func (.func 205) #[] #[.pointer (some ⟨w.heap.size,0,none⟩),.pointer (some ⟨w.heap.size+1,0,none⟩)],.func (.func 206) #[] #[.pointer (some ⟨w.heap.size,0,none⟩),.pointer (some ⟨w.heap.size+1,0,none⟩)],.func (.func 207) #[] #[.pointer (some ⟨w.heap.size,0,none⟩),.pointer (some ⟨w.heap.size+1,0,none⟩)],.func (.func 208) #[] #[.pointer (some ⟨w.heap.size,0,none⟩),.pointer (some ⟨w.heap.size+1,0,none⟩)]] 1)).heap[w.heap.size+1]?=some (.cells #[q] 261 (0,0))∧
 ∀ (k g:Nat),[202,203,204,205,206,207,208][k]?=some g→(((w.alloc (.cells #[p] 142)).alloc (.cells #[q] 261)).alloc (.cells #[.func (.func 202) #[] #[.pointer (some ⟨w.heap.size,0,none⟩),.pointer (some ⟨w.heap.size+1,0,none⟩)],.func (.func 203) #[] #[.pointer (some ⟨w.heap.size,0,none⟩),.pointer (some ⟨w.heap.size+1,0,none⟩)],.func (.func 204) #[] #[.pointer (some ⟨w.heap.size,0,none⟩),.pointer (some ⟨w.heap.size+1,0,none⟩)],.func (.func 205) #[] #[.pointer (some ⟨w.heap.size,0,none⟩),.pointer (some ⟨w.heap.size+1,0,none⟩)],.func (.func 206) #[] #[.pointer (some ⟨w.heap.size,0,none⟩),.pointer (some ⟨w.heap.size+1,0,none⟩)],.func (.func 207) #[] #[.pointer (some ⟨w.heap.size,0,none⟩),.pointer (some ⟨w.heap.size+1,0,none⟩)],.func (.func 208) #[] #[.pointer (some ⟨w.heap.size,0,none⟩),.pointer (some ⟨w.heap.size+1,0,none⟩)]] 1)).cell? ⟨w.heap.size+1+1,k,none⟩=some (.func (.func g) #[] #[.pointer (some ⟨w.heap.size,0,none⟩),.pointer (some ⟨w.heap.size+1,0,none⟩)]):=by
 have h1:=yE (w.alloc (.cells #[p] 142)) (.cells #[q] 261);rw [show (w.alloc (.cells #[p] 142)).heap.size=w.heap.size+1 by simp] at h1;have h2:=yE ((w.alloc (.cells #[p] 142)).alloc (.cells #[q] 261)) (.cells #[.func (.func 202) #[] #[.pointer (some ⟨w.heap.size,0,none⟩),.pointer (some ⟨w.heap.size+1,0,none⟩)],.func (.func 203) #[] #[.pointer (some ⟨w.heap.size,0,none⟩),.pointer (some ⟨w.heap.size+1,0,none⟩)],.func (.func 204) #[] #[.pointer (some ⟨w.heap.size,0,none⟩),.pointer (some ⟨w.heap.size+1,0,none⟩)],.func (.func 205) #[] #[.pointer (some ⟨w.heap.size,0,none⟩),.pointer (some ⟨w.heap.size+1,0,none⟩)],.func (.func 206) #[] #[.pointer (some ⟨w.heap.size,0,none⟩),.pointer (some ⟨w.heap.size+1,0,none⟩)],.func (.func 207) #[] #[.pointer (some ⟨w.heap.size,0,none⟩),.pointer (some ⟨w.heap.size+1,0,none⟩)],.func (.func 208) #[] #[.pointer (some ⟨w.heap.size,0,none⟩),.pointer (some ⟨w.heap.size+1,0,none⟩)]] 1);rw [show ((w.alloc (.cells #[p] 142)).alloc (.cells #[q] 261)).heap.size=w.heap.size+1+1 by simp] at h2;refine ⟨(Keep.alloc (fun _=>False) _ _).old ((Keep.alloc (fun _=>False) _ _).old (yE w _) id) id,(Keep.alloc (fun _=>False) _ _).old h1 id,fun k g hg=>?_⟩;rw [yI _ _ _ _ _ (0,0) h2]
 match k,hg with
 | 0,hg=>simp at hg;subst hg;rfl
 | 1,hg=>simp at hg;subst hg;rfl
 | 2,hg=>simp at hg;subst hg;rfl
 | 3,hg=>simp at hg;subst hg;rfl
 | 4,hg=>simp at hg;subst hg;rfl
 | 5,hg=>simp at hg;subst hg;rfl
 | 6,hg=>simp at hg;subst hg;rfl
theorem pI (args:Array Value) (w:World):(callFunc 202 args).run Tryz.prog w = .ok (.enter 202 args) w:=by kernel_rfl
theorem pJ (args:Array Value) (w:World):(callFunc 203 args).run Tryz.prog w = .ok (.enter 203 args) w:=by kernel_rfl
theorem pK (args:Array Value) (w:World):(callFunc 204 args).run Tryz.prog w = .ok (.enter 204 args) w:=by kernel_rfl
theorem pL (args:Array Value) (w:World):(callFunc 205 args).run Tryz.prog w = .ok (.enter 205 args) w:=by kernel_rfl
theorem pM (args:Array Value) (w:World):(callFunc 206 args).run Tryz.prog w = .ok (.enter 206 args) w:=by kernel_rfl
theorem pN (args:Array Value) (w:World):(callFunc 207 args).run Tryz.prog w = .ok (.enter 207 args) w:=by kernel_rfl
theorem pO (args:Array Value) (w:World):(callFunc 208 args).run Tryz.prog w = .ok (.enter 208 args) w:=by kernel_rfl
theorem oM:∀ g ∈ [202,203,204,205,206,207,208],∀ args w,(callFunc g args).run Tryz.prog w = .ok (.enter g args) w:=by
 intro g hg args w;simp only [List.mem_cons,List.not_mem_nil,or_false] at hg;rcases hg with rfl | rfl | rfl | rfl | rfl | rfl | rfl
 · exact pI args w
 · exact pJ args w
 · exact pK args w
 · exact pL args w
 · exact pM args w
 · exact pN args w
 · exact pO args w
theorem rn {x:ad} {j:Nat} {u:Value} (h:x.r.cells[j]?=some u):x.cells[j]?=some u:=by
 have he:x.r.cells=x.cells.take 16:=rfl;rw [he,List.getElem?_take] at h;split at h
 · exact h
 · cases h
theorem uY (wS w:World) (GB WB:Nat) (sv:Value) (l:List Int) (h:Gt wS GB WB sv l w) (B0 B1 b o:Nat) (h0:w.heap[B0]?=some (.cells #[.pointer (some ⟨GB,0,none⟩)] 142 (0,0))) (h1:w.heap[B1]?=some (.cells #[.pointer (some ⟨b,o,none⟩)] 261 (0,0)))
 (x:az) (hx:x.Ok) (hp:∀ j u,x.cells[j]?=some u→w.cell? ⟨b,o+j,none⟩=some u) (hl:l.length≤1000000000) (k g:Nat) (p:List Int) (hg:[202,203,204,205,206,207,208][k]?=some g) (hpc:(ed x)[k]?=some p) :
 Calls Tryz.prog g #[.pointer (some ⟨B0,0,none⟩),.pointer (some ⟨B1,0,none⟩)] w fun e w'=>e = .returned (.tuple #[])∧aA wS GB WB sv (l++p) w w':=by
 match k,hg,hpc with
 | 0,hg,hpc=>simp [ed] at hg hpc;subst hg;subst hpc;exact sR wS w GB WB sv l h B0 B1 b o h0 h1 x hx hp hl
 | 1,hg,hpc=>simp [ed] at hg hpc;subst hg;subst hpc;exact sS wS w GB WB sv l h B0 B1 b o h0 h1 x hx hp hl
 | 2,hg,hpc=>simp [ed] at hg hpc;subst hg;subst hpc;exact sT wS w GB WB sv l h B0 B1 b o h0 h1 x hx hp hl
 | 3,hg,hpc=>simp [ed] at hg hpc;subst hg;subst hpc;exact sU wS w GB WB sv l h B0 B1 b o h0 h1 x hx hp hl
 | 4,hg,hpc=>simp [ed] at hg hpc;subst hg;subst hpc;exact sV wS w GB WB sv l h B0 B1 b o h0 h1 x hx hp hl
 | 5,hg,hpc=>simp [ed] at hg hpc;subst hg;subst hpc;exact sW wS w GB WB sv l h B0 B1 b o h0 h1 x hx hp hl
 | 6,hg,hpc=>simp [ed] at hg hpc;subst hg;subst hpc;exact sX wS w GB WB sv l h B0 B1 b o h0 h1 x hx hp hl
theorem iP (wS w:World) (GB WB:Nat) (sv:Value) (l:List Int) (h:Gt wS GB WB sv l w):Calls Tryz.prog 157 #[.pointer (some ⟨GB,0,none⟩)] w fun e w'=>e = .returned (.bool false)∧w'=w:=by
 have g0:=h.cells;clear h;go_enter Tryz.func157,Tryz.ntmps157
 go_wp2_with fail
 go_ret
 exact ⟨rfl,rfl⟩
theorem xm (wS w:World) (GB WB:Nat) (sv:Value) (l:List Int) (h:Gt wS GB WB sv l w) (b o:Nat) (x:ak) (hx:x.Ok) (hp:∀ j u,x.cells[j]?=some u→w.cell? ⟨b,o+j,none⟩=some u) (hfr:Free sv WB b) (hnn:0≤x.number) (hl:l.length≤900000000) :
 Calls Tryz.prog 166 #[.pointer (some ⟨GB,0,none⟩),.pointer (some ⟨b,o,none⟩)] w fun e w'=>e = .returned (.tuple #[])∧aA wS GB WB sv (l++idleB x) w w':=by
 have H:=yA h;have HP0:=yA hp;have HX:=yA hx;have HFR:=yA hfr;have hr:=eX x.d.radius;clear h hp hx hfr;go_enter Tryz.func166,Tryz.ntmps166
 go_wp2_with fail
 refine (tI wS w GB WB sv l H.out b o x.d.i0 x.d.i1 x.d.i2 x.d.i3 x.d.i4 x.d.i5 x.d.i6 x.d.i7 ⟨(HP0.out 0 _ rfl),(HP0.out 1 _ rfl),(HP0.out 2 _ rfl),(HP0.out 3 _ rfl),(HP0.out 4 _ rfl),(HP0.out 5 _ rfl),(HP0.out 6 _ rfl),(HP0.out 7 _ rfl)⟩ (by omega)).mono ?_;rintro e w1 ⟨rfl,hb0⟩;have HE0:=yA hb0;clear hb0;obtain ⟨sv1,hg1,hk1,hn1⟩:=HE0.out;have HG1:=yA hg1;clear hg1;have HP1:=yA (fun (j:Nat) (u:Value) (hu:x.cells[j]?=some u)=>hk1.cell (HP0.out j u hu) HFR.out.not);go_wp2_with fail
 refine (jZ wS w1 GB WB sv1 (l++[x.d.i0,x.d.i1,x.d.i2,x.d.i3,x.d.i4,x.d.i5,x.d.i6,x.d.i7]) HG1.out b (o+8) x.d.ax x.d.ay ⟨(HP1.out 8 _ rfl),(HP1.out 9 _ rfl)⟩ HX.out.d.at_.1 HX.out.d.at_.2 (by simp only [cb,yN,zg,zu];omega)).mono ?_;rintro e w2 ⟨rfl,hb1⟩;have HE1:=yA (aA.step hk1 hn1 hb1);clear hb1;obtain ⟨sv2,hg2,hk2,hn2⟩:=HE1.out;have HG2:=yA hg2;clear hg2;have HP2:=yA (fun (j:Nat) (u:Value) (hu:x.cells[j]?=some u)=>hk2.cell (HP0.out j u hu) HFR.out.not);go_wp2_with fail
 refine (jk wS w2 GB WB sv2 (l++[x.d.i0,x.d.i1,x.d.i2,x.d.i3,x.d.i4,x.d.i5,x.d.i6,x.d.i7]++cb x.d.ax x.d.ay) HG2.out b (o+10) x.d.seats (HP2.out 10 _ rfl) (by simp only [cb,yN,zg,zu];omega)).mono ?_;rintro e w3 ⟨rfl,hb2⟩;have HE2:=yA (aA.step hk2 hn2 hb2);clear hb2;obtain ⟨sv3,hg3,hk3,hn3⟩:=HE2.out;have HG3:=yA hg3;clear hg3;have HP3:=yA (fun (j:Nat) (u:Value) (hu:x.cells[j]?=some u)=>hk3.cell (HP0.out j u hu) HFR.out.not);go_wp2_with fail
 refine (jk wS w3 GB WB sv3 (l++[x.d.i0,x.d.i1,x.d.i2,x.d.i3,x.d.i4,x.d.i5,x.d.i6,x.d.i7]++cb x.d.ax x.d.ay++[x.d.seats]) HG3.out b (o+11) x.d.cls (HP3.out 11 _ rfl) (by simp only [cb,yN,zg,zu];omega)).mono ?_;rintro e w4 ⟨rfl,hb3⟩;have HE3:=yA (aA.step hk3 hn3 hb3);clear hb3;obtain ⟨sv4,hg4,hk4,hn4⟩:=HE3.out;have HG4:=yA hg4;clear hg4;have HP4:=yA (fun (j:Nat) (u:Value) (hu:x.cells[j]?=some u)=>hk4.cell (HP0.out j u hu) HFR.out.not);go_wp2_with fail
 refine (jj wS w4 GB WB sv4 (l++[x.d.i0,x.d.i1,x.d.i2,x.d.i3,x.d.i4,x.d.i5,x.d.i6,x.d.i7]++cb x.d.ax x.d.ay++[x.d.seats]++[x.d.cls]) HG4.out b (o+12) x.d.radius (HP4.out 12 _ rfl) HX.out.d.radius (by simp only [cb,yN,zg,zu];omega)).mono ?_;rintro e w5 ⟨rfl,hb4⟩;have HE4:=yA (aA.step hk4 hn4 hb4);clear hb4;obtain ⟨sv5,hg5,hk5,hn5⟩:=HE4.out;have HG5:=yA hg5;clear hg5;have HP5:=yA (fun (j:Nat) (u:Value) (hu:x.cells[j]?=some u)=>hk5.cell (HP0.out j u hu) HFR.out.not);go_wp2_with fail
 refine (du wS w5 GB WB sv5 (l++[x.d.i0,x.d.i1,x.d.i2,x.d.i3,x.d.i4,x.d.i5,x.d.i6,x.d.i7]++cb x.d.ax x.d.ay++[x.d.seats]++[x.d.cls]++eC x.d.radius) HG5.out b (o+13) x.number 9223372036854775807 (HP5.out 13 _ rfl) hnn HX.out.number (by simp only [cb,yN,zg,zu];omega)).mono ?_;rintro e w6 ⟨rfl,hb5⟩;have HE5:=yA (aA.step hk5 hn5 hb5);clear hb5;go_wp2_with fail
 exact z9 (v:=.tuple #[]) (by simp [results,Tryz.results166,go_sem]) rfl ⟨rfl,by first | exact HE5.out | (simpa only [idleB,zq] using HE5.out)⟩
theorem xn (wS w:World) (GB WB:Nat) (sv:Value) (l:List Int) (h:Gt wS GB WB sv l w) (b o:Nat) (x:ab) (hx:x.Ok) (hp:∀ j u,x.cells[j]?=some u→w.cell? ⟨b,o+j,none⟩=some u) (hfr:Free sv WB b) (BX:Nat) (hbx:w.heap[BX]?=some (.cells #[.pointer (some ⟨GB,0,none⟩)] 142 (0,0))) (hfb:Free sv WB BX) (hnr:0≤x.r) (hnc:0≤x.c) (hnw:0≤x.w) (hl:l.length≤900000000) :
 Calls Tryz.prog 168 #[.pointer (some ⟨b,o,none⟩),.pointer (some ⟨BX,0,none⟩)] w fun e w'=>e = .returned (.tuple #[])∧aA wS GB WB sv (l++ek x) w w':=by
 have H:=yA h;have HP0:=yA hp;have HX:=yA hx;have HFR:=yA hfr;have hrr:=cg hx.r;have hrc:=cg hx.c;have hrw:=cg hx.w;have pB:=am hbx;have HFB:=yA hfb;clear h hp hx hfr hbx hfb;go_enter Tryz.func168,Tryz.ntmps168
 go_wp2_with fail
 go_still_tail 4,(by kernel_rfl)
 change wpList _ _ _ _ _ w.drew
 have HD0:=yA H.out.drew;go_wp2_with fail
 refine (du wS w.drew GB WB sv l HD0.out b o x.r 9223372036854775807 (HP0.out 0 _ rfl) hnr HX.out.r (by first | omega | (simp only [yN];omega))).mono ?_;rintro e w1 ⟨rfl,hb0⟩;replace hb0:=hb0.after (Keep.drew _ _);have HE0:=yA hb0;clear hb0;obtain ⟨sv1,hg1,hk1,hn1⟩:=HE0.out;have HG1:=yA hg1;clear hg1;have HP1:=yA (fun (j:Nat) (u:Value) (hu:x.cells[j]?=some u)=>hk1.cell (HP0.out j u hu) HFR.out.not);have pB1:=hk1.cell pB HFB.out.not;go_wp2_with fail
 go_still_tail 4,(by kernel_rfl)
 change wpList _ _ _ _ _ w1.drew
 have HD1:=yA HG1.out.drew;go_wp2_with fail
 refine (du wS w1.drew GB WB sv1 (l++ca x.r.toNat) HD1.out b (o+1) x.c 9223372036854775807 (HP1.out 1 _ rfl) hnc HX.out.c (by first | omega | (simp only [yN];omega))).mono ?_;rintro e w2 ⟨rfl,hb1⟩;replace hb1:=hb1.after (Keep.drew _ _);have HE1:=yA (aA.step hk1 hn1 hb1);clear hb1;obtain ⟨sv2,hg2,hk2,hn2⟩:=HE1.out;have HG2:=yA hg2;clear hg2;have HP2:=yA (fun (j:Nat) (u:Value) (hu:x.cells[j]?=some u)=>hk2.cell (HP0.out j u hu) HFR.out.not);have pB2:=hk2.cell pB HFB.out.not;go_wp2_with fail
 go_still_tail 4,(by kernel_rfl)
 change wpList _ _ _ _ _ w2.drew
 have HD2:=yA HG2.out.drew;go_wp2_with fail
 refine (du wS w2.drew GB WB sv2 (l++ca x.r.toNat++ca x.c.toNat) HD2.out b (o+2) x.w 9223372036854775807 (HP2.out 2 _ rfl) hnw HX.out.w (by first | omega | (simp only [yN];omega))).mono ?_;rintro e w3 ⟨rfl,hb2⟩;replace hb2:=hb2.after (Keep.drew _ _);have HE2:=yA (aA.step hk2 hn2 hb2);clear hb2;go_wp2_with fail
 exact z9 (v:=.tuple #[]) (by simp [results,Tryz.results168,go_sem]) rfl ⟨rfl,by first | exact HE2.out | (simpa only [ek,zq] using HE2.out)⟩
theorem xo (wS w:World) (GB WB:Nat) (sv:Value) (l:List Int) (h:Gt wS GB WB sv l w) (b o:Nat) (x:ag) (hx:x.Ok) (hp:∀ j u,x.cells[j]?=some u→w.cell? ⟨b,o+j,none⟩=some u) (hfr:Free sv WB b) (BX:Nat) (hbx:w.heap[BX]?=some (.cells #[.pointer (some ⟨GB,0,none⟩)] 142 (0,0))) (hfb:Free sv WB BX) (hnr:0≤x.r) (hnc:0≤x.c) (hl:l.length≤900000000) :
 Calls Tryz.prog 170 #[.pointer (some ⟨b,o,none⟩),.pointer (some ⟨BX,0,none⟩)] w fun e w'=>e = .returned (.tuple #[])∧aA wS GB WB sv (l++eY x) w w':=by
 have H:=yA h;have HP0:=yA hp;have HX:=yA hx;have HFR:=yA hfr;have hrr:=cg hx.r;have hrc:=cg hx.c;have pB:=am hbx;have HFB:=yA hfb;clear h hp hx hfr hbx hfb;go_enter Tryz.func170,Tryz.ntmps170
 go_wp2_with fail
 go_still_tail 4,(by kernel_rfl)
 change wpList _ _ _ _ _ w.drew
 have HD0:=yA H.out.drew;go_wp2_with fail
 refine (du wS w.drew GB WB sv l HD0.out b o x.r 9223372036854775807 (HP0.out 0 _ rfl) hnr HX.out.r (by first | omega | (simp only [yN];omega))).mono ?_;rintro e w1 ⟨rfl,hb0⟩;replace hb0:=hb0.after (Keep.drew _ _);have HE0:=yA hb0;clear hb0;obtain ⟨sv1,hg1,hk1,hn1⟩:=HE0.out;have HG1:=yA hg1;clear hg1;have HP1:=yA (fun (j:Nat) (u:Value) (hu:x.cells[j]?=some u)=>hk1.cell (HP0.out j u hu) HFR.out.not);have pB1:=hk1.cell pB HFB.out.not;go_wp2_with fail
 go_still_tail 4,(by kernel_rfl)
 change wpList _ _ _ _ _ w1.drew
 have HD1:=yA HG1.out.drew;go_wp2_with fail
 refine (du wS w1.drew GB WB sv1 (l++ca x.r.toNat) HD1.out b (o+1) x.c 9223372036854775807 (HP1.out 1 _ rfl) hnc HX.out.c (by first | omega | (simp only [yN];omega))).mono ?_;rintro e w2 ⟨rfl,hb1⟩;replace hb1:=hb1.after (Keep.drew _ _);have HE1:=yA (aA.step hk1 hn1 hb1);clear hb1;go_wp2_with fail
 exact z9 (v:=.tuple #[]) (by simp [results,Tryz.results170,go_sem]) rfl ⟨rfl,by first | exact HE1.out | (simpa only [eY,zq] using HE1.out)⟩
theorem ro (wS w:World) (GB WB:Nat) (sv:Value) (l:List Int) (h:Gt wS GB WB sv l w) (b o:Nat) (x:ad) (hx:x.Ok) (hp:∀ j u,x.cells[j]?=some u→w.cell? ⟨b,o+j,none⟩=some u) (hfr:Free sv WB b) (hs0:0≤x.since) (hn0:0≤x.number) (hl:l.length≤900000000) :
 Calls Tryz.prog 164 #[.pointer (some ⟨GB,0,none⟩),.pointer (some ⟨b,o,none⟩)] w fun e w'=>e = .returned (.tuple #[])∧aA wS GB WB sv (l++dE x) w w':=by
 have H:=yA h;have HP0:=yA hp;have HX:=yA hx;have HFR:=yA hfr;have hr:=rm x.r;have hrs:=cg hx.since;have hb:b<w.heap.size:=yL w ⟨b,o,none⟩ (hp 0 _ rfl);clear h hp hx hfr;go_enter Tryz.func164,Tryz.ntmps164
 go_wp2_with fail
 refine (nF w (.pointer (some ⟨GB,0,none⟩)) (.pointer (some ⟨b,o,none⟩)) ⟨_,rfl⟩ ⟨_,rfl⟩).mono ?_;rintro e w1 ⟨rfl,hw1⟩;have HB:=yA (kP w (.pointer (some ⟨GB,0,none⟩)) (.pointer (some ⟨b,o,none⟩)));rw [←hw1] at HB;have HK:=yA (show Keep (fun _=>False) w w1 from by rw [hw1];exact ((Keep.alloc (fun _=>False) _ _).trans (Keep.alloc (fun _=>False) _ _) (fun _ _ h=>h) (fun _ _ h=>h)).trans (Keep.alloc (fun _=>False) _ _) (fun _ _ h=>h) (fun _ _ h=>h));have hs1:w1.heap.size=w.heap.size+3:=by rw [hw1];simp
 have HG1:=yA (H.out.keep HK.out);clear hw1;have HF0:=yA (Free.new H.out (b:=w.heap.size) (by omega));have HF1:=yA (Free.new H.out (b:=w.heap.size+1) (by omega));have HF2:=yA (Free.new H.out (b:=w.heap.size+1+1) (by omega));generalize w.heap.size+1+1=B2 at *;generalize w.heap.size+1=B1 at *;have HWE:=yA (show ∃ B0,w.heap.size=B0 from ⟨_,rfl⟩);obtain ⟨B0,hB0⟩:=HWE.out;rw [hB0] at HB HF0;clear HWE hB0 hs1;go_wp2_with fail
 go_loopw [12] (fun i wr=>Hid (∃ k:Nat,i = .int .i64 k∧k≤7∧aA wS GB WB sv (l++((ed x.r).take k).flatten) w1 wr)) (fun i _=>7 - (intOf i).toNat)
 case atStart=>exact yA ⟨0,rfl,yQ _,by simpa using aA.nil HG1.out⟩
 case round=>
  obtain ⟨k,rfl,hk,hw⟩:=hrel.out;clear hrel;obtain ⟨sv1,hg,hkp,hn⟩:=hw;have HG:=yA hg;have HKP:=yA hkp;have HN:=yA hn;clear hg hkp hn;have HP:=yA (fun (j:Nat) (u:Value) (hu:x.cells[j]?=some u)=>HKP.out.cell (HK.out.cell (HP0.out j u hu) id) HFR.out.not);have hlen:=rl x.r k;by_cases hlt:k<7
  · obtain ⟨g,hgk⟩:∃ g,[202,203,204,205,206,207,208][k]?=some g:=⟨[202,203,204,205,206,207,208][k]'(by simpa using hlt),yC _⟩
    obtain ⟨p,hpk⟩:∃ p,(ed x.r)[k]?=some p:=⟨(ed x.r)[k]'(by simpa [ed] using hlt),yC _⟩;have hcell:=HKP.out.cell (HB.out.2.2 k g hgk) HF2.out.not;have HCALL:=yA (uY wS wr GB WB sv1 (l++((ed x.r).take k).flatten) HG.out B0 B1 b o (HKP.out.old HB.out.1 HF0.out.not) (HKP.out.old HB.out.2.1 HF1.out.not) x.r HX.out.r (fun j u hu=>HP.out j u (rn hu)) (by rw [yN];omega) k g p hgk hpk);have hrun:=oM g (yP hgk);have HT:=yA (uX hpk);clear hgk hpk;go_wp2_with fail
    refine HCALL.out.mono ?_;rintro r w2 ⟨rfl,hb2⟩;have HE:=yA (show aA wS GB WB sv (l++((ed x.r).take (k+1)).flatten) w1 w2 from by rw [HT.out,←zq];exact aA.step HKP.out HN.out hb2);clear hb2 hcell hrun HCALL;go_wp2_with fail
    go_roundw
    case rel=>exact yA ⟨k+1,by go_num,by omega,HE.out⟩
    case measure=>simp [intOf];omega
  · obtain rfl:7=k:=by omega
    rw [show (ed x.r).take 7=ed x.r from rfl] at HG;clear hlt hlen
    as_aux_lemma=>
     go_wp2_with fail
     refine (du wS wr GB WB sv1 (l++(ed x.r).flatten) HG.out b (o+16) x.since 9223372036854775807 (HP.out 16 _ rfl) hs0 HX.out.since (by simp only [yN];omega)).mono ?_;rintro e w2 ⟨rfl,hb2⟩;obtain ⟨sv2,hg2,hk2,hn2⟩:=aA.step HKP.out HN.out hb2;have HG2:=yA hg2;have HK2:=yA hk2;have HN2:=yA hn2;have HQ:=yA (HK2.out.cell (HK.out.cell (HP0.out 17 _ rfl) id) HFR.out.not);clear hg2 hk2 hn2 hb2;go_wp2_with fail
     refine (du wS w2 GB WB sv2 (l++(ed x.r).flatten++ca x.since.toNat) HG2.out b (o+17) x.number 9223372036854775807 HQ.out hn0 HX.out.number (by simp only [yN];omega)).mono ?_;rintro e w3 ⟨rfl,hb3⟩;have HE:=yA ((aA.step HK2.out HN2.out hb3).after HK.out);clear hb3;go_wp2_with fail
     exact z9 (v:=.tuple #[]) (by simp [results,Tryz.results164,go_sem]) rfl ⟨rfl,by simpa only [dE,zq] using HE.out⟩
def bX {α:Type} (f:α→List Int) (xs:List α):List Int:=ca xs.length++xs.flatMap f
theorem dQ {α:Type} {f:α→List Int} {xs:List α} {n:Nat} (h:∀ x ∈ xs,(f x).length≤100) (hn:xs.length=n) (h2:n≤1048576):(bX f xs).length≤104857700:=by
 have h1:=eJ h;have h3:=eW (n:=xs.length) (by omega);rw [bX,yN];omega
theorem RdC.old {w:World} {b o:Nat} {l:List Value} (h:RdC w (some ⟨b,o,none⟩) l) (h0:l≠[]):b<w.heap.size:=by
 rcases h with h | ⟨b',o',he,hc⟩
 · exact absurd h h0
 · cases he
   cases l with
   | nil=>exact absurd rfl h0
   | cons a l=>exact yL w ⟨b,o+0,none⟩ (hc 0 a rfl)
theorem rp (args:Array Value) (w:World):(callFunc 164 args).run Tryz.prog w = .ok (.enter 164 args) w:=by kernel_rfl
theorem uZ (wS w:World) (GB WB:Nat) (sv:Value) (l:List Int) (h:Gt wS GB WB sv l w) (RB off:Nat) (ao:Option Addr) (n c:Nat) (hs:w.cell? ⟨RB,off,none⟩=some (.slice ao n c)) (hfr:Free sv WB RB) (xs:List ad) (hx:xs.length=n) (hr:RdC wS ao (cellsOf ad.cells xs))
 (hok:∀ x ∈ xs,x.Ok) (hnn:∀ x ∈ xs,0≤x.since∧0≤x.number) (hn:n≤1048576) (mx:Int) (hl:l.length≤700000000) :
 Calls Tryz.prog 163 #[.pointer (some ⟨GB,0,none⟩),.pointer (some ⟨RB,off,none⟩),.int .i64 mx,.func (.func 164) #[.pointer (some ⟨GB,0,none⟩)] #[]] w fun e w'=>e = .returned (.tuple #[])∧aA wS GB WB sv (l++bX dE xs) w w':=by
 have H:=yA h;have HFR:=yA hfr;have HX:=yA hx;have HR:=yA hr;have HOK:=yA hok;have HNO:=yA hnn;have HS:=yA hs;have hRB:RB<w.heap.size:=yL w _ hs;have hrun:=rp;clear h hfr hx hr hok hnn;go_enter Tryz.func163,Tryz.ntmps163
 go_wp2_with fail
 have HG0:=yA (H.out.alloc (.cells #[.int .i64 n] 3));have HBX0:=yA (am (yE w (.cells #[.int .i64 n] 3)));have HFL:=yA (Free.new H.out (b:=w.heap.size) (by omega));refine (du wS (w.alloc (.cells #[.int .i64 n] 3)) GB WB sv l HG0.out w.heap.size 0 n mx HBX0.out (by omega) ⟨by omega,by omega⟩ (by omega)).mono ?_;rintro e w1 ⟨rfl,hb1⟩;rw [zU] at hb1;have HE0:=yA hb1;obtain ⟨svx,hgx,hkx,hnx⟩:=hb1;have gx:=hgx.cells;have HSA:=yA ((Keep.alloc (fun _=>False) w (.cells #[.int .i64 n] 3)).cell HS.out id);clear hgx hkx hnx hs;go_wp2_with fail
 clear gx;go_loopw [9] (fun i wr=>Hid (∃ k:Nat,i = .int .i64 k∧k≤n∧aA wS GB WB sv (l++ca n++(xs.take k).flatMap dE) (w.alloc (.cells #[.int .i64 n] 3)) wr)) (fun i _=>n - (intOf i).toNat)
 case atStart=>exact yA ⟨0,rfl,yQ _,by simpa using HE0.out⟩
 case round=>
  clear HE0;obtain ⟨k,rfl,hk,hw⟩:=hrel.out;clear hrel;have HW:=yA hw;obtain ⟨sv1,hg,hkp,hn1⟩:=hw;have HG:=yA hg;have HKP:=yA hkp;have HN:=yA hn1;clear hg hkp hn1;have g0:=HG.out.cells;have c0:=HKP.out.cell HBX0.out HFL.out.not;have c1:=HKP.out.cell HSA.out HFR.out.not;by_cases hlt:k<n
  · obtain ⟨x,hx⟩:∃ x,xs[k]?=some x:=⟨xs[k]'(by rw [HX.out];exact hlt),yC _⟩
    obtain ⟨b,o,rfl,_⟩:=HR.out.place (by rw [cellsOf_length _ 18 ad.cells_length,HX.out];omega);have hbS:b<wS.heap.size:=HR.out.old (fun he=>by have:=congrArg List.length he;rw [cellsOf_length _ 18 ad.cells_length,HX.out] at this;simp at this;omega);have HFE:=yA (Free.old HG.out hbS);have HCE:=yA (fun (j:Nat) (u:Value) (hu:x.cells[j]?=some u)=>show wr.cell? ⟨b,o+k*18+j,none⟩=some u from bf ad.cells_length (HR.out.below HG.out.below) hx j u hu);have HXO:=yA (HOK.out x (yP hx));have HNN:=yA (HNO.out x (yP hx));have HT:=yA (iO dE hx)
    have hlen:((xs.take k).flatMap dE).length≤104857600:=by
     have h1:=eJ (f:=dE) (L:=xs.take k) (fun y hy=>lv (HOK.out y (List.mem_of_mem_take hy)));rw [yY] at h1;omega
    have hvn:=eW (n:=n) (by omega);clear hx hbS;go_wp2_with fail
    refine (iP wS wr GB WB sv1 _ HG.out).mono ?_;rintro e w2 ⟨rfl,he2⟩;replace he2:=he2.symm;subst he2;go_wp2_with fail
    refine (ro wS wr GB WB sv1 (l++ca n++(xs.take k).flatMap dE) HG.out b (o+k*18) x HXO.out HCE.out HFE.out HNN.out.1 HNN.out.2 (by rw [yN,yN];omega)).mono ?_;rintro r w2 ⟨rfl,hb2⟩;have HE:=yA (show aA wS GB WB sv (l++ca n++(xs.take (k+1)).flatMap dE) (w.alloc (.cells #[.int .i64 n] 3)) w2 from by rw [HT.out,←zq];exact aA.step HKP.out HN.out hb2);clear hb2 c0 c1 g0;go_wp2_with fail
    go_roundw
    case rel=>exact yA ⟨k+1,by go_num,by omega,HE.out⟩
    case measure=>simp [intOf];omega
  · obtain rfl:n=k:=by omega
    have HE:=yA (show aA wS GB WB sv (l++bX dE xs) w wr from by
     have h1:=HW.out.after (Keep.alloc _ _ _);rw [zh (by rw [HX.out];exact yB _),zq] at h1;rw [bX,HX.out];exact h1)
    go_wp2_with fail
    exact z9 (v:=.tuple #[]) (by simp [results,Tryz.results163,go_sem]) rfl ⟨rfl,HE.out⟩
theorem rq (args:Array Value) (w:World):(callFunc 166 args).run Tryz.prog w = .ok (.enter 166 args) w:=by kernel_rfl
theorem u6 (wS w:World) (GB WB:Nat) (sv:Value) (l:List Int) (h:Gt wS GB WB sv l w) (RB off:Nat) (ao:Option Addr) (n c:Nat) (hs:w.cell? ⟨RB,off,none⟩=some (.slice ao n c)) (hfr:Free sv WB RB) (xs:List ak) (hx:xs.length=n) (hr:RdC wS ao (cellsOf ak.cells xs))
 (hok:∀ x ∈ xs,x.Ok) (hnn:∀ x ∈ xs,0≤x.number) (hn:n≤1048576) (mx:Int) (hl:l.length≤700000000) :
 Calls Tryz.prog 165 #[.pointer (some ⟨GB,0,none⟩),.pointer (some ⟨RB,off,none⟩),.int .i64 mx,.func (.func 166) #[.pointer (some ⟨GB,0,none⟩)] #[]] w fun e w'=>e = .returned (.tuple #[])∧aA wS GB WB sv (l++bX idleB xs) w w':=by
 have H:=yA h;have HFR:=yA hfr;have HX:=yA hx;have HR:=yA hr;have HOK:=yA hok;have HNO:=yA hnn;have HS:=yA hs;have hRB:RB<w.heap.size:=yL w _ hs;have hrun:=rq;clear h hfr hx hr hok hnn;go_enter Tryz.func165,Tryz.ntmps165
 go_wp2_with fail
 have HG0:=yA (H.out.alloc (.cells #[.int .i64 n] 3));have HBX0:=yA (am (yE w (.cells #[.int .i64 n] 3)));have HFL:=yA (Free.new H.out (b:=w.heap.size) (by omega));refine (du wS (w.alloc (.cells #[.int .i64 n] 3)) GB WB sv l HG0.out w.heap.size 0 n mx HBX0.out (by omega) ⟨by omega,by omega⟩ (by omega)).mono ?_;rintro e w1 ⟨rfl,hb1⟩;rw [zU] at hb1;have HE0:=yA hb1;obtain ⟨svx,hgx,hkx,hnx⟩:=hb1;have gx:=hgx.cells;have HSA:=yA ((Keep.alloc (fun _=>False) w (.cells #[.int .i64 n] 3)).cell HS.out id);clear hgx hkx hnx hs;go_wp2_with fail
 clear gx;go_loopw [9] (fun i wr=>Hid (∃ k:Nat,i = .int .i64 k∧k≤n∧aA wS GB WB sv (l++ca n++(xs.take k).flatMap idleB) (w.alloc (.cells #[.int .i64 n] 3)) wr)) (fun i _=>n - (intOf i).toNat)
 case atStart=>exact yA ⟨0,rfl,yQ _,by simpa using HE0.out⟩
 case round=>
  clear HE0;obtain ⟨k,rfl,hk,hw⟩:=hrel.out;clear hrel;have HW:=yA hw;obtain ⟨sv1,hg,hkp,hn1⟩:=hw;have HG:=yA hg;have HKP:=yA hkp;have HN:=yA hn1;clear hg hkp hn1;have g0:=HG.out.cells;have c0:=HKP.out.cell HBX0.out HFL.out.not;have c1:=HKP.out.cell HSA.out HFR.out.not;by_cases hlt:k<n
  · obtain ⟨x,hx⟩:∃ x,xs[k]?=some x:=⟨xs[k]'(by rw [HX.out];exact hlt),yC _⟩
    obtain ⟨b,o,rfl,_⟩:=HR.out.place (by rw [cellsOf_length _ 14 ak.cells_length,HX.out];omega);have hbS:b<wS.heap.size:=HR.out.old (fun he=>by have:=congrArg List.length he;rw [cellsOf_length _ 14 ak.cells_length,HX.out] at this;simp at this;omega);have HFE:=yA (Free.old HG.out hbS);have HCE:=yA (fun (j:Nat) (u:Value) (hu:x.cells[j]?=some u)=>show wr.cell? ⟨b,o+k*14+j,none⟩=some u from bf ak.cells_length (HR.out.below HG.out.below) hx j u hu);have HXO:=yA (HOK.out x (yP hx));have HNN:=yA (HNO.out x (yP hx));have HT:=yA (iO idleB hx)
    have hlen:((xs.take k).flatMap idleB).length≤104857600:=by
     have h1:=eJ (f:=idleB) (L:=xs.take k) (fun y hy=>lx (HOK.out y (List.mem_of_mem_take hy)));rw [yY] at h1;omega
    have hvn:=eW (n:=n) (by omega);clear hx hbS;go_wp2_with fail
    refine (iP wS wr GB WB sv1 _ HG.out).mono ?_;rintro e w2 ⟨rfl,he2⟩;replace he2:=he2.symm;subst he2;go_wp2_with fail
    refine (xm wS wr GB WB sv1 (l++ca n++(xs.take k).flatMap idleB) HG.out b (o+k*14) x HXO.out HCE.out HFE.out HNN.out (by rw [yN,yN];omega)).mono ?_;rintro r w2 ⟨rfl,hb2⟩;have HE:=yA (show aA wS GB WB sv (l++ca n++(xs.take (k+1)).flatMap idleB) (w.alloc (.cells #[.int .i64 n] 3)) w2 from by rw [HT.out,←zq];exact aA.step HKP.out HN.out hb2);clear hb2 c0 c1 g0;go_wp2_with fail
    go_roundw
    case rel=>exact yA ⟨k+1,by go_num,by omega,HE.out⟩
    case measure=>simp [intOf];omega
  · obtain rfl:n=k:=by omega
    have HE:=yA (show aA wS GB WB sv (l++bX idleB xs) w wr from by
     have h1:=HW.out.after (Keep.alloc _ _ _);rw [zh (by rw [HX.out];exact yB _),zq] at h1;rw [bX,HX.out];exact h1)
    go_wp2_with fail
    exact z9 (v:=.tuple #[]) (by simp [results,Tryz.results165,go_sem]) rfl ⟨rfl,HE.out⟩
theorem rr (args:Array Value) (w:World):(callFunc 168 args).run Tryz.prog w = .ok (.enter 168 args) w:=by kernel_rfl
theorem u7 (wS w:World) (GB WB:Nat) (sv:Value) (l:List Int) (h:Gt wS GB WB sv l w) (RB off:Nat) (ao:Option Addr) (n c:Nat) (hs:w.cell? ⟨RB,off,none⟩=some (.slice ao n c)) (hfr:Free sv WB RB) (xs:List ab) (hx:xs.length=n) (hr:RdC wS ao (cellsOf ab.cells xs))
 (hok:∀ x ∈ xs,x.Ok) (hnn:∀ x ∈ xs,0≤x.r∧0≤x.c∧0≤x.w) (hn:n≤1048576) (mx:Int) (hl:l.length≤700000000) (BX:Nat) (hbx:w.heap[BX]?=some (.cells #[.pointer (some ⟨GB,0,none⟩)] 142 (0,0))) (hfb:Free sv WB BX) :
 Calls Tryz.prog 167 #[.pointer (some ⟨GB,0,none⟩),.pointer (some ⟨RB,off,none⟩),.int .i64 mx,.func (.func 168) #[] #[.pointer (some ⟨BX,0,none⟩)]] w fun e w'=>e = .returned (.tuple #[])∧aA wS GB WB sv (l++bX ek xs) w w':=by
 have H:=yA h;have HFR:=yA hfr;have HX:=yA hx;have HR:=yA hr;have HOK:=yA hok;have HNO:=yA hnn;have HS:=yA hs;have hRB:RB<w.heap.size:=yL w _ hs;have hrun:=rr;have HBX:=yA hbx;have HFB:=yA hfb;have HBL:=yA (yK hbx);clear hbx hfb;clear h hfr hx hr hok hnn;go_enter Tryz.func167,Tryz.ntmps167
 go_wp2_with fail
 have HG0:=yA (H.out.alloc (.cells #[.int .i64 n] 3));have HBX0:=yA (am (yE w (.cells #[.int .i64 n] 3)));have HFL:=yA (Free.new H.out (b:=w.heap.size) (by omega));refine (du wS (w.alloc (.cells #[.int .i64 n] 3)) GB WB sv l HG0.out w.heap.size 0 n mx HBX0.out (by omega) ⟨by omega,by omega⟩ (by omega)).mono ?_;rintro e w1 ⟨rfl,hb1⟩;rw [zU] at hb1;have HE0:=yA hb1;obtain ⟨svx,hgx,hkx,hnx⟩:=hb1;have gx:=hgx.cells;have HSA:=yA ((Keep.alloc (fun _=>False) w (.cells #[.int .i64 n] 3)).cell HS.out id);clear hgx hkx hnx hs;go_wp2_with fail
 clear gx;go_loopw [9] (fun i wr=>Hid (∃ k:Nat,i = .int .i64 k∧k≤n∧aA wS GB WB sv (l++ca n++(xs.take k).flatMap ek) (w.alloc (.cells #[.int .i64 n] 3)) wr)) (fun i _=>n - (intOf i).toNat)
 case atStart=>exact yA ⟨0,rfl,yQ _,by simpa using HE0.out⟩
 case round=>
  clear HE0;obtain ⟨k,rfl,hk,hw⟩:=hrel.out;clear hrel;have HW:=yA hw;obtain ⟨sv1,hg,hkp,hn1⟩:=hw;have HG:=yA hg;have HKP:=yA hkp;have HN:=yA hn1;clear hg hkp hn1;have g0:=HG.out.cells;have c0:=HKP.out.cell HBX0.out HFL.out.not;have c1:=HKP.out.cell HSA.out HFR.out.not;by_cases hlt:k<n
  · obtain ⟨x,hx⟩:∃ x,xs[k]?=some x:=⟨xs[k]'(by rw [HX.out];exact hlt),yC _⟩
    obtain ⟨b,o,rfl,_⟩:=HR.out.place (by rw [cellsOf_length _ 3 ab.cells_length,HX.out];omega);have hbS:b<wS.heap.size:=HR.out.old (fun he=>by have:=congrArg List.length he;rw [cellsOf_length _ 3 ab.cells_length,HX.out] at this;simp at this;omega);have HFE:=yA (Free.old HG.out hbS);have HFB2:=yA (Free.next (w:=w.alloc (.cells #[.int .i64 n] 3)) HFB.out (by have:=HBL.out;simp;omega) HN.out);have HCE:=yA (fun (j:Nat) (u:Value) (hu:x.cells[j]?=some u)=>show wr.cell? ⟨b,o+k*3+j,none⟩=some u from bf ab.cells_length (HR.out.below HG.out.below) hx j u hu);have HXO:=yA (HOK.out x (yP hx));have HNN:=yA (HNO.out x (yP hx));have HT:=yA (iO ek hx)
    have hlen:((xs.take k).flatMap ek).length≤104857600:=by
     have h1:=eJ (f:=ek) (L:=xs.take k) (fun y hy=>ly (HOK.out y (List.mem_of_mem_take hy)));rw [yY] at h1;omega
    have hvn:=eW (n:=n) (by omega);clear hx hbS;go_wp2_with fail
    refine (iP wS wr GB WB sv1 _ HG.out).mono ?_;rintro e w2 ⟨rfl,he2⟩;replace he2:=he2.symm;subst he2;go_wp2_with fail
    refine (xn wS wr GB WB sv1 (l++ca n++(xs.take k).flatMap ek) HG.out b (o+k*3) x HXO.out HCE.out HFE.out BX (HKP.out.old ((Keep.alloc (fun _=>False) _ _).old HBX.out id) HFB.out.not) (HFB2.out) HNN.out.1 HNN.out.2.1 HNN.out.2.2 (by rw [yN,yN];omega)).mono ?_;rintro r w2 ⟨rfl,hb2⟩;have HE:=yA (show aA wS GB WB sv (l++ca n++(xs.take (k+1)).flatMap ek) (w.alloc (.cells #[.int .i64 n] 3)) w2 from by rw [HT.out,←zq];exact aA.step HKP.out HN.out hb2);clear hb2 c0 c1 g0;go_wp2_with fail
    go_roundw
    case rel=>exact yA ⟨k+1,by go_num,by omega,HE.out⟩
    case measure=>simp [intOf];omega
  · obtain rfl:n=k:=by omega
    have HE:=yA (show aA wS GB WB sv (l++bX ek xs) w wr from by
     have h1:=HW.out.after (Keep.alloc _ _ _);rw [zh (by rw [HX.out];exact yB _),zq] at h1;rw [bX,HX.out];exact h1)
    go_wp2_with fail
    exact z9 (v:=.tuple #[]) (by simp [results,Tryz.results167,go_sem]) rfl ⟨rfl,HE.out⟩
theorem rt (args:Array Value) (w:World):(callFunc 170 args).run Tryz.prog w = .ok (.enter 170 args) w:=by kernel_rfl
theorem u9 (wS w:World) (GB WB:Nat) (sv:Value) (l:List Int) (h:Gt wS GB WB sv l w) (RB off:Nat) (ao:Option Addr) (n c:Nat) (hs:w.cell? ⟨RB,off,none⟩=some (.slice ao n c)) (hfr:Free sv WB RB) (xs:List ag) (hx:xs.length=n) (hr:RdC wS ao (cellsOf ag.cells xs))
 (hok:∀ x ∈ xs,x.Ok) (hnn:∀ x ∈ xs,0≤x.r∧0≤x.c) (hn:n≤1048576) (mx:Int) (hl:l.length≤700000000) (BX:Nat) (hbx:w.heap[BX]?=some (.cells #[.pointer (some ⟨GB,0,none⟩)] 142 (0,0))) (hfb:Free sv WB BX) :
 Calls Tryz.prog 169 #[.pointer (some ⟨GB,0,none⟩),.pointer (some ⟨RB,off,none⟩),.int .i64 mx,.func (.func 170) #[] #[.pointer (some ⟨BX,0,none⟩)]] w fun e w'=>e = .returned (.tuple #[])∧aA wS GB WB sv (l++bX eY xs) w w':=by
 have H:=yA h;have HFR:=yA hfr;have HX:=yA hx;have HR:=yA hr;have HOK:=yA hok;have HNO:=yA hnn;have HS:=yA hs;have hRB:RB<w.heap.size:=yL w _ hs;have hrun:=rt;have HBX:=yA hbx;have HFB:=yA hfb;have HBL:=yA (yK hbx);clear hbx hfb;clear h hfr hx hr hok hnn;go_enter Tryz.func169,Tryz.ntmps169
 go_wp2_with fail
 have HG0:=yA (H.out.alloc (.cells #[.int .i64 n] 3));have HBX0:=yA (am (yE w (.cells #[.int .i64 n] 3)));have HFL:=yA (Free.new H.out (b:=w.heap.size) (by omega));refine (du wS (w.alloc (.cells #[.int .i64 n] 3)) GB WB sv l HG0.out w.heap.size 0 n mx HBX0.out (by omega) ⟨by omega,by omega⟩ (by omega)).mono ?_;rintro e w1 ⟨rfl,hb1⟩;rw [zU] at hb1;have HE0:=yA hb1;obtain ⟨svx,hgx,hkx,hnx⟩:=hb1;have gx:=hgx.cells;have HSA:=yA ((Keep.alloc (fun _=>False) w (.cells #[.int .i64 n] 3)).cell HS.out id);clear hgx hkx hnx hs;go_wp2_with fail
 clear gx;go_loopw [9] (fun i wr=>Hid (∃ k:Nat,i = .int .i64 k∧k≤n∧aA wS GB WB sv (l++ca n++(xs.take k).flatMap eY) (w.alloc (.cells #[.int .i64 n] 3)) wr)) (fun i _=>n - (intOf i).toNat)
 case atStart=>exact yA ⟨0,rfl,yQ _,by simpa using HE0.out⟩
 case round=>
  clear HE0;obtain ⟨k,rfl,hk,hw⟩:=hrel.out;clear hrel;have HW:=yA hw;obtain ⟨sv1,hg,hkp,hn1⟩:=hw;have HG:=yA hg;have HKP:=yA hkp;have HN:=yA hn1;clear hg hkp hn1;have g0:=HG.out.cells;have c0:=HKP.out.cell HBX0.out HFL.out.not;have c1:=HKP.out.cell HSA.out HFR.out.not;by_cases hlt:k<n
  · obtain ⟨x,hx⟩:∃ x,xs[k]?=some x:=⟨xs[k]'(by rw [HX.out];exact hlt),yC _⟩
    obtain ⟨b,o,rfl,_⟩:=HR.out.place (by rw [cellsOf_length _ 2 ag.cells_length,HX.out];omega);have hbS:b<wS.heap.size:=HR.out.old (fun he=>by have:=congrArg List.length he;rw [cellsOf_length _ 2 ag.cells_length,HX.out] at this;simp at this;omega);have HFE:=yA (Free.old HG.out hbS);have HFB2:=yA (Free.next (w:=w.alloc (.cells #[.int .i64 n] 3)) HFB.out (by have:=HBL.out;simp;omega) HN.out);have HCE:=yA (fun (j:Nat) (u:Value) (hu:x.cells[j]?=some u)=>show wr.cell? ⟨b,o+k*2+j,none⟩=some u from bf ag.cells_length (HR.out.below HG.out.below) hx j u hu);have HXO:=yA (HOK.out x (yP hx));have HNN:=yA (HNO.out x (yP hx));have HT:=yA (iO eY hx)
    have hlen:((xs.take k).flatMap eY).length≤104857600:=by
     have h1:=eJ (f:=eY) (L:=xs.take k) (fun y hy=>lz (HOK.out y (List.mem_of_mem_take hy)));rw [yY] at h1;omega
    have hvn:=eW (n:=n) (by omega);clear hx hbS;go_wp2_with fail
    refine (iP wS wr GB WB sv1 _ HG.out).mono ?_;rintro e w2 ⟨rfl,he2⟩;replace he2:=he2.symm;subst he2;go_wp2_with fail
    refine (xo wS wr GB WB sv1 (l++ca n++(xs.take k).flatMap eY) HG.out b (o+k*2) x HXO.out HCE.out HFE.out BX (HKP.out.old ((Keep.alloc (fun _=>False) _ _).old HBX.out id) HFB.out.not) (HFB2.out) HNN.out.1 HNN.out.2 (by rw [yN,yN];omega)).mono ?_;rintro r w2 ⟨rfl,hb2⟩;have HE:=yA (show aA wS GB WB sv (l++ca n++(xs.take (k+1)).flatMap eY) (w.alloc (.cells #[.int .i64 n] 3)) w2 from by rw [HT.out,←zq];exact aA.step HKP.out HN.out hb2);clear hb2 c0 c1 g0;go_wp2_with fail
    go_roundw
    case rel=>exact yA ⟨k+1,by go_num,by omega,HE.out⟩
    case measure=>simp [intOf];omega
  · obtain rfl:n=k:=by omega
    have HE:=yA (show aA wS GB WB sv (l++bX eY xs) w wr from by
     have h1:=HW.out.after (Keep.alloc _ _ _);rw [zh (by rw [HX.out];exact yB _),zq] at h1;rw [bX,HX.out];exact h1)
    go_wp2_with fail
    exact z9 (v:=.tuple #[]) (by simp [results,Tryz.results169,go_sem]) rfl ⟨rfl,HE.out⟩
theorem xp (wS w:World) (GB WB:Nat) (sv:Value) (l:List Int) (h:Gt wS GB WB sv l w) (RB off:Nat) (ao:Option Addr) (n c:Nat) (hs:w.cell? ⟨RB,off,none⟩=some (.slice ao n c)) (hfr:Free sv WB RB) (xs:List Int) (hx:xs.length=n) (hr:RdC wS ao (cellsOf aP xs))
 (hok:∀ x ∈ xs,ar x) (hn:n≤1048576) (hl:l.length≤700000000) :
 Calls Tryz.prog 171 #[.pointer (some ⟨GB,0,none⟩),.pointer (some ⟨RB,off,none⟩),.int .i64 n] w fun e w'=>e = .returned (.tuple #[])∧aA wS GB WB sv (l++xs.flatMap eC) w w':=by
 have H:=yA h;have HFR:=yA hfr;have HX:=yA hx;have HR:=yA hr;have HOK:=yA hok;have HS:=yA hs;clear h hfr hx hr hok hs;go_enter Tryz.func171,Tryz.ntmps171
 go_wp2_with fail
 go_loopw [6] (fun i wr=>Hid (∃ k:Nat,i = .int .i64 k∧k≤n∧aA wS GB WB sv (l++(xs.take k).flatMap eC) w wr)) (fun i _=>n - (intOf i).toNat)
 case atStart=>exact yA ⟨0,rfl,yQ _,by simpa using aA.nil H.out⟩
 case round=>
  obtain ⟨k,rfl,hk,hw⟩:=hrel.out;clear hrel;have HW:=yA hw;obtain ⟨sv1,hg,hkp,hn1⟩:=hw;have HG:=yA hg;have HKP:=yA hkp;have HN:=yA hn1;clear hg hkp hn1;have g0:=HG.out.cells;have c1:=HKP.out.cell HS.out HFR.out.not;by_cases hlt:k<n
  · obtain ⟨x,hx⟩:∃ x,xs[k]?=some x:=⟨xs[k]'(by rw [HX.out];exact hlt),yC _⟩
    obtain ⟨b,o,rfl,_⟩:=HR.out.place (by rw [cellsOf_length _ 1 aT,HX.out];omega);have HCE:=yA (dV (HR.out.below HG.out.below) hx);have HXO:=yA (HOK.out x (yP hx));have HT:=yA (iO eC hx)
    have hlen:((xs.take k).flatMap eC).length≤104857600:=by
     have h1:=eJ (f:=eC) (m:=10) (L:=xs.take k) (fun y hy=>eX y);rw [yY] at h1;omega
    clear hx;go_wp2_with fail
    refine (iP wS wr GB WB sv1 _ HG.out).mono ?_;rintro e w2 ⟨rfl,he2⟩;replace he2:=he2.symm;subst he2;go_wp2_with fail
    refine (jj wS wr GB WB sv1 (l++(xs.take k).flatMap eC) HG.out b (o+k) x HCE.out HXO.out (by rw [yN];omega)).mono ?_;rintro r w2 ⟨rfl,hb2⟩;have HE:=yA (show aA wS GB WB sv (l++(xs.take (k+1)).flatMap eC) w w2 from by rw [HT.out,←zq];exact aA.step HKP.out HN.out hb2);clear hb2 c1 g0;go_wp2_with fail
    go_roundw
    case rel=>exact yA ⟨k+1,by go_num,by omega,HE.out⟩
    case measure=>simp [intOf];omega
  · obtain rfl:n=k:=by omega
    have HE:=yA (show aA wS GB WB sv (l++xs.flatMap eC) w wr from by
     have h1:=HW.out;rw [zh (by rw [HX.out];exact yB _)] at h1;exact h1)
    go_wp2_with fail
    exact z9 (v:=.tuple #[]) (by simp [results,Tryz.results171,go_sem]) rfl ⟨rfl,HE.out⟩
theorem va (w:World) (ao bo:Option Addr) (n m c c':Nat) (ws:List ad) (ds:List ak) (hn:ws.length=n) (hm:ds.length=m) (hw:RdC w ao (cellsOf ad.cells ws)) (hd:RdC w bo (cellsOf ak.cells ds))
 (how:∀ x ∈ ws,x.Ok) (hod:∀ x ∈ ds,x.Ok) (hn':n≤1048576) (hm':m≤1048576) :
 Calls Tryz.prog 130 #[.slice ao n c,.slice bo m c'] w fun e w'=>∃ v,e = .returned v∧Grown w ag.cells 2 (bN ws ds) v w':=by
 have HN:=yA hn;have HM:=yA hm;have HW:=yA hw;have HD:=yA hd;have HOW:=yA how;have HOD:=yA hod;clear hn hm hw hd how hod;go_enter Tryz.func130,Tryz.ntmps130
 go_wp2_with fail
 have hst:=yA (show Grown w ag.cells 2 (aV ws ds 0 0) (.slice none 0 0) w from Grown.begin _ _ _);obtain ⟨i5,hi,hz0,hz1,hz2⟩:=cR gI;go_loopw [5,10] (fun a i wr=>Hid (∃ p:Nat,i = .int .i64 p∧p≤n∧Grown w ag.cells 2 (aV ws ds p 0) a wr)) (fun _ i _=>n - (intOf i).toNat)
 case atStart=>exact yA ⟨0,rfl,yQ _,hst.out⟩
 case round=>
  obtain ⟨p,rfl,hp,hrel1⟩:=hrel.out;clear hrel;have HR:=yA hrel1;clear hrel1;by_cases hlt:p<n
  · obtain ⟨x,hx⟩:∃ x,ws[p]?=some x:=⟨ws[p]'(by rw [HN.out];exact hlt),yC _⟩
    obtain ⟨b,o,rfl,_⟩:=HW.out.place (by rw [cellsOf_length _ 18 ad.cells_length,HN.out];omega);have HX:=yA hx;have HXO:=yA (HOW.out x (yP hx));clear hx;go_wp2_with fail
    go_loopw [5,15] (fun a i wr=>Hid (∃ q:Nat,i = .int .i64 q∧q≤m∧Grown w ag.cells 2 (aV ws ds p q) a wr)) (fun _ i _=>m - (intOf i).toNat)
    case atStart=>exact yA ⟨0,rfl,yQ _,HR.out⟩
    case round=>
     obtain ⟨q,rfl,hq,hrel1⟩:=hrel.out;clear hrel;have HR1:=yA hrel1;clear hrel1;by_cases hqm:q<m
     · obtain ⟨y,hy⟩:∃ y,ds[q]?=some y:=⟨ds[q]'(by rw [HM.out];exact hqm),yC _⟩
       obtain ⟨b',o',rfl,_⟩:=HD.out.place (by rw [cellsOf_length _ 14 ak.cells_length,HM.out];omega);have HY:=yA hy;have HYO:=yA (HOD.out y (yP hy));clear hy;go_wp2_with fail
       have cQ:∀ dd os,Calls Tryz.prog 28 #[.agg #[.int .u8 x.r.i0,.int .u8 x.r.i1,.int .u8 x.r.i2,.int .u8 x.r.i3,.int .u8 x.r.i4,.int .u8 x.r.i5,.int .u8 x.r.i6,.int .u8 x.r.i7,.int .i16 x.r.fx,.int .i16 x.r.fy,.int .i16 x.r.tx,.int .i16 x.r.ty,.int .u8 x.r.seats,.int .u8 x.r.classes,.int .i64 x.r.base,.int .i64 x.r.ttl],.agg #[.int .u8 y.d.i0,.int .u8 y.d.i1,.int .u8 y.d.i2,.int .u8 y.d.i3,.int .u8 y.d.i4,.int .u8 y.d.i5,.int .u8 y.d.i6,.int .u8 y.d.i7,.int .i16 y.d.ax,.int .i16 y.d.ay,.int .u8 y.d.seats,.int .u8 y.d.cls,.int .i64 y.d.radius]] (grow (redrawn wr dd) os) fun e w''=>e = .returned (.bool (jr x.r y.d))∧∃ p:Regrown,w''=grow (redrawn wr p.d) p.os:=fun dd os=>Calls.regrown_of (fits_any _ _ _ HXO.out.r HYO.out.d)
       obtain ⟨k0,k1,k2,k3,k4,k5,k6,k7,k8,k9,k10,k11,k12,k13,k14,k15,k16,k17⟩:=oX (HW.out.below HR1.out.below) HX.out;obtain ⟨j0,j1,j2,j3,j4,j5,j6,j7,j8,j9,j10,j11,j12,j13⟩:=tj (HD.out.below HR1.out.below) HY.out;have HF:=yA (qc HX.out HY.out);refine wp_region_quiet_below (by kernel_rfl) (by kernel_rfl) ?_
       repeat (go_big_quiet_step (exact cQ _ _))
       refine wpQuiet_nil ?_;intro _ hw';obtain ⟨⟨dq,osq⟩,hw''⟩:=hw';subst hw'';clear cQ k0 k1 k2 k3 k4 k5 k6 k7 k8 k9 k10 k11 k12 k13 k14 k15 k16 k17 j0 j1 j2 j3 j4 j5 j6 j7 j8 j9 j10 j11 j12 j13;have HBX:=yA (below_regrown wr dq osq);generalize grow (redrawn wr dq) osq=WX at *;cases hfit:jr x.r y.d with
       | true=>
         rw [hfit] at HF;have hlen:=lJ ws ds p q
         have hsmall:(aV ws ds p q).length+1≤1099512676353:=by
          have h1:p*ds.length≤1048576*1048576:=Nat.mul_le_mul (by omega) (by rw [HM.out];exact hm');omega
         clear hlen;have HG:=yA (HR1.out.next HBX.out);go_wp2_with (at_builtin;refine br rfl (.tmp 29) (.tmp 33) 29 29 rfl 69 i5 nb 2 16 Tryz.underlying29 hi hz0 hz1 hz2 rfl u5 (aV ws ds p q).length _ rfl (HG.out.own.keep (Keep.alloc (fun _=>False) _ _) (fun _ _=>id)) (.slice (some ⟨WX.heap.size,0,none⟩) 1 1) 1 (ag.cells ⟨p,q⟩) rfl (Src.lit Tryz.underlying29 2 _ rfl (ag.cells_one _) _ _ rfl) (by omega) (by unfold maxLen;omega) (by omega) ?_)
         intro g cap w2 ho2 hc2
         have hrel2:=yA (show Grown w ag.cells 2 (aV ws ds p (q+1)) (.slice (some ⟨g,0,none⟩) ((aV ws ds p q).length+1) cap) w2 from by
          rw [lK HF.out];exact HG.out.app (Keep.alloc (fun _=>False) _ _) ho2 hc2)
         clear ho2 hc2;generalize (aV ws ds p q).length=N at *;go_wp2_with fail
         go_roundw
         case rel=>exact yA ⟨q+1,by go_num,by omega,hrel2.out⟩
         case measure=>simp [intOf];omega
       | false=>
         rw [hfit] at HF
         have hrel2:=yA (show Grown w ag.cells 2 (aV ws ds p (q+1)) u5 WX from by
          rw [mT HF.out];exact HR1.out.next HBX.out)
         go_wp2_with fail
         go_roundw
         case rel=>exact yA ⟨q+1,by go_num,by omega,hrel2.out⟩
         case measure=>simp [intOf];omega
     · obtain rfl:m=q:=by omega
       go_wp2_with fail
       go_roundw
       case rel=>exact yA ⟨p+1,by go_num,by omega,by rw [kt,HM.out];exact HR1.out⟩
       case measure=>simp [intOf];omega
  · obtain rfl:n=p:=by omega
    go_wp2_with fail
    go_ret
    refine ⟨_,rfl,?_⟩;rw [←lL,HN.out];exact HR.out
theorem sY (w:World) (c:ae) (now:Int) (ao bo:Option Addr) (n m c' c'':Nat) (ws:List ad) (ds:List ak) (hnow:ar now) (hn:ws.length=n) (hm:ds.length=m) (hw:RdC w ao (cellsOf ad.cells ws)) (hd:RdC w bo (cellsOf ak.cells ds))
 (how:∀ x ∈ ws,x.Ok) (hod:∀ x ∈ ds,x.Ok) (hn':n≤1048576) (hm':m≤1048576) :
 Calls Tryz.prog 85 #[.agg #[.int .i64 c.q,.int .i64 c.d,.int .i64 c.w,.int .i64 c.ttl,.int .i64 c.b],.int .i64 now,.slice ao n c',.slice bo m c''] w (GraphPost w c now ws ds):=by
 have HN:=yA hn;have HM:=yA hm;have HWR:=yA hw;have HDR:=yA hd;have HOW:=yA how;have HOD:=yA hod;have HNOW:=yA hnow;clear hn hm hw hd how hod hnow;have HW:=yA (c7.begin w c);go_enter Tryz.func85,Tryz.ntmps85
 go_upto_region 1 with fail
 generalize (w.alloc (.cells #[.int .i64 c.q,.int .i64 c.d,.int .i64 c.w,.int .i64 c.ttl,.int .i64 c.b] 23)).alloc (.cells #[.int .i64 0,.int .i64 0,.slice none 0 0] 28)=W at *;have hH8:w.heap.size≤w.heap.size+1:=by omega
 have hne8:w.heap.size<w.heap.size+1:=by omega
 generalize w.heap.size+1=H8 at *;have HHE:=yA (show ∃ H0,w.heap.size=H0 from ⟨_,rfl⟩);obtain ⟨H0,hH0⟩:=HHE.out;have H8L:=yA hH8;clear hH8;rw [hH0] at HW hne8;rw [hH0];have HH:=yA hH0;clear hH0 HHE;go_wp2_with (first | ((with_reducible refine aa (o:=⟨some 20,_,_,_,_,_⟩) ?_ 23 (.tmp 4) ?_ H0 (0) ?_ c.cells #[.int .i64 c.q,.int .i64 c.d,.int .i64 c.w,.int .i64 c.ttl,.int .i64 c.b] ?_ _ (bA HW.out.g) Tryz.underlying23 ?_ ?_ ?_);rfl;rfl;rfl;rfl;rfl;exact aE))
 refine (fI W c).mono ?_;rintro e w1 ⟨rfl,hb1⟩;have HW1:=yA (HW.out.keep hb1);clear hb1 HW;obtain ⟨r0,r1,r2,rf⟩:=cells3 HW1.out.r;cases hc:aB c with
 | false=>
   have HE:=yA (qq (now:=now) (ws:=ws) (ds:=ds) hc);rw [show al c=160 by simp [al,hc]];clear hc;have HBW:=yA (HW1.out.write H8L.out (.int .i64 0) (.int .i64 0) (.slice none 0 0));have HQ:=yA (bC HW1.out.r (.int .i64 0) (.int .i64 0) (.slice none 0 0));go_wp2_with fail
   generalize ((w1.setCell ⟨H8,0,none⟩ (.int .i64 0)).setCell ⟨H8,1,none⟩ (.int .i64 0)).setCell ⟨H8,2,none⟩ (.slice none 0 0)=WF at *;obtain ⟨q0,q1,q2⟩:=HQ.out;exact yS (v:=.tuple #[.agg #[.int .i64 0,.int .i64 0,.slice none 0 0],.int .i64 160]) (by simp [results,Tryz.results85,go_sem,q0,q1,q2]) rfl (GraphPost.no HE.out (by omega) HBW.out)
 | true=>
   have HC:=yA hc;rw [show al c=0 by simp [al,hc]];clear hc;go_wp2_with fail
   refine (mL w1 now).mono ?_;rintro e w2 ⟨rfl,rfl⟩;cases ht:cx now with
   | false=>
     have HE:=yA (qr (ws:=ws) (ds:=ds) HC.out ht);clear ht;have HBW:=yA (HW1.out.write H8L.out (.int .i64 0) (.int .i64 0) (.slice none 0 0));have HQ:=yA (bC HW1.out.r (.int .i64 0) (.int .i64 0) (.slice none 0 0));go_wp2_with fail
     generalize ((w1.setCell ⟨H8,0,none⟩ (.int .i64 0)).setCell ⟨H8,1,none⟩ (.int .i64 0)).setCell ⟨H8,2,none⟩ (.slice none 0 0)=WF at *;obtain ⟨q0,q1,q2⟩:=HQ.out;exact yS (v:=.tuple #[.agg #[.int .i64 0,.int .i64 0,.slice none 0 0],.int .i64 1]) (by simp [results,Tryz.results85,go_sem,q0,q1,q2]) rfl (GraphPost.no HE.out (by omega) HBW.out)
   | true=>
     have HT:=yA ht;clear ht;have hsz:(64<n∨(n≤64∧64<m))∨(n≤64∧m≤64):=by omega
     rcases hsz with h | ⟨h1,h2⟩
     · have HE:=yA (qs (ws:=ws) (ds:=ds) HC.out HT.out (by rw [HN.out,HM.out];omega))
       rcases h with h1 | ⟨h1,h2⟩
       all_goals
        have HBW:=yA (HW1.out.write H8L.out (.int .i64 0) (.int .i64 0) (.slice none 0 0));have HQ:=yA (bC HW1.out.r (.int .i64 0) (.int .i64 0) (.slice none 0 0));go_wp2_with fail
        generalize ((w1.setCell ⟨H8,0,none⟩ (.int .i64 0)).setCell ⟨H8,1,none⟩ (.int .i64 0)).setCell ⟨H8,2,none⟩ (.slice none 0 0)=WF at *;obtain ⟨q0,q1,q2⟩:=HQ.out;exact yS (v:=.tuple #[.agg #[.int .i64 0,.int .i64 0,.slice none 0 0],.int .i64 3]) (by simp [results,Tryz.results85,go_sem,q0,q1,q2]) rfl (GraphPost.no HE.out (by omega) HBW.out)
     have HSZ:=yA (show ¬ (64<ws.length∨64<ds.length) by rw [HN.out,HM.out];omega);obtain ⟨i6,hi6,hz60,hz61,hz62⟩:=cR fS
     have hmk:∀ wx:World,(Instr.makeSlice 30 (.int .i64 n) (.int .i64 n)).run Tryz.prog wx = .ok (.slice (some ⟨wx.heap.size,0,none⟩) n n) (wx.alloc (.cells (Array.replicate n (Value.int .i64 0)) 3)):=fun wx=>by
      have h:=run_make (P:=Tryz.prog) wx 30 3 i6 (.int .i64 0) Tryz.underlying30 hi6 hz60 .i64 .i64 (n:Int) (n:Int) (by omega) (by omega) (by rw [hz62];omega) (by omega);simp only [zU] at h;rw [h]
      have hc:madeCells (Value.int .i64 0).cells (n*i6.size)=(Array.replicate n (Value.int .i64 0)):=by
       apply Array.ext
       · rw [size_madeCells,hz61];simp
       · intro j h1 h2
         simp [madeCells,Value.cells,Nat.mod_one]
      rw [hc]
     have HG:=yA (show c7 w c H0 H8 (w1.alloc (.cells (Array.replicate n (Value.int .i64 0)) 3))∧Row (w1.alloc (.cells (Array.replicate n (Value.int .i64 0)) 3)) w1.heap.size n 1 (mm c now ws n 0) from
      ⟨HW1.out.one _,Row.made w1 _ 3 (0,0) n 1 _ (by simp) (.inl rfl) (fun j u hu=>by rw [ul] at hu;simpa [Array.getElem?_replicate,List.getElem?_replicate] using hu)⟩)
     have hH8G:H8<w1.heap.size:=yK HW1.out.r;go_wp2_with fail
     generalize w1.alloc (.cells (Array.replicate n (Value.int .i64 0)) 3)=W2 at *;clear hmk r0 r1 r2 rf hi6 hz60 hz61 hz62;generalize w1.heap.size=G at *;go_loopw [45] (fun i wr=>Hid (∃ k:Nat,i = .int .i64 k∧k≤n∧(∀ (j:Nat) (y:ad),j<k→ws[j]?=some y→(wtP c now y).2=0)∧c7 w c H0 H8 wr∧Row wr G n 1 (mm c now ws n k))) (fun i _=>n - (intOf i).toNat)
     case atStart=>exact yA ⟨0,rfl,yQ _,fun j y h=>absurd h (Nat.not_lt_zero j),HG.out.1,HG.out.2⟩
     case round=>
      obtain ⟨k,rfl,hk,hall,hgh,hrow⟩:=hrel.out;clear hrel;have HALL:=yA hall;have HR1:=yA hgh;have HROW:=yA hrow;clear hall hgh hrow;by_cases hlt:k<n
      · obtain ⟨x,hx⟩:∃ x,ws[k]?=some x:=⟨ws[k]'(by rw [HN.out];exact hlt),yC _⟩
        obtain ⟨b,o,rfl,_⟩:=HWR.out.place (by rw [cellsOf_length _ 18 ad.cells_length,HN.out];omega);have HCE:=yA (bS (HWR.out.below HR1.out.below) hx);have HX:=yA hx;have HXO:=yA (HOW.out x (yP hx));clear hx;go_wp2_with (first | ((with_reducible refine aa (o:=⟨some 49,_,_,_,_,_⟩) ?_ 79 (.tmp 48) ?_ b (o+k*18) ?_ x.cells #[.int .u8 x.r.i0,.int .u8 x.r.i1,.int .u8 x.r.i2,.int .u8 x.r.i3,.int .u8 x.r.i4,.int .u8 x.r.i5,.int .u8 x.r.i6,.int .u8 x.r.i7,.int .i16 x.r.fx,.int .i16 x.r.fy,.int .i16 x.r.tx,.int .i16 x.r.ty,.int .u8 x.r.seats,.int .u8 x.r.classes,.int .i64 x.r.base,.int .i64 x.r.ttl,.int .i64 x.since,.int .i64 x.number] ?_ _ HCE.out Tryz.underlying79 ?_ ?_ ?_);rfl;rfl;rfl;rfl;rfl;exact aK) | ((with_reducible refine ah (o:=⟨none,.store 79 (.tmp 13) (.tmp 49),_,_,_,_⟩) ?_ 79 (.tmp 13) (.tmp 49) ?_ _ #[.int .u8 x.r.i0,.int .u8 x.r.i1,.int .u8 x.r.i2,.int .u8 x.r.i3,.int .u8 x.r.i4,.int .u8 x.r.i5,.int .u8 x.r.i6,.int .u8 x.r.i7,.int .i16 x.r.fx,.int .i16 x.r.fy,.int .i16 x.r.tx,.int .i16 x.r.ty,.int .u8 x.r.seats,.int .u8 x.r.classes,.int .i64 x.r.base,.int .i64 x.r.ttl,.int .i64 x.since,.int .i64 x.number] ?_ ?_ x.cells ?_ ?_ ?_ x.cells_one ?_);rfl;rfl;rfl;rfl;rfl;exact aK;rfl) | ((with_reducible refine aa (o:=⟨some 53,_,_,_,_,_⟩) ?_ 23 (.tmp 4) ?_ H0 (0) ?_ c.cells #[.int .i64 c.q,.int .i64 c.d,.int .i64 c.w,.int .i64 c.ttl,.int .i64 c.b] ?_ _ (bA (HR1.out.one _).g) Tryz.underlying23 ?_ ?_ ?_);rfl;rfl;rfl;rfl;rfl;exact aE) | ((with_reducible refine aa (o:=⟨some 55,_,_,_,_,_⟩) ?_ 79 (.tmp 13) ?_ wr.heap.size (0) ?_ x.cells #[.int .u8 x.r.i0,.int .u8 x.r.i1,.int .u8 x.r.i2,.int .u8 x.r.i3,.int .u8 x.r.i4,.int .u8 x.r.i5,.int .u8 x.r.i6,.int .u8 x.r.i7,.int .i16 x.r.fx,.int .i16 x.r.fy,.int .i16 x.r.tx,.int .i16 x.r.ty,.int .u8 x.r.seats,.int .u8 x.r.classes,.int .i64 x.r.base,.int .i64 x.r.ttl,.int .i64 x.since,.int .i64 x.number] ?_ _ (rU (yE wr _)) Tryz.underlying79 ?_ ?_ ?_);rfl;rfl;rfl;rfl;rfl;exact aK))
        have HR2:=yA (HR1.out.one (.cells #[.int .u8 x.r.i0,.int .u8 x.r.i1,.int .u8 x.r.i2,.int .u8 x.r.i3,.int .u8 x.r.i4,.int .u8 x.r.i5,.int .u8 x.r.i6,.int .u8 x.r.i7,.int .i16 x.r.fx,.int .i16 x.r.fy,.int .i16 x.r.tx,.int .i16 x.r.ty,.int .u8 x.r.seats,.int .u8 x.r.classes,.int .i64 x.r.base,.int .i64 x.r.ttl,.int .i64 x.since,.int .i64 x.number] 79));have HROW2:=yA (HROW.out.keep (Keep.alloc (fun _=>False) wr (.cells #[.int .u8 x.r.i0,.int .u8 x.r.i1,.int .u8 x.r.i2,.int .u8 x.r.i3,.int .u8 x.r.i4,.int .u8 x.r.i5,.int .u8 x.r.i6,.int .u8 x.r.i7,.int .i16 x.r.fx,.int .i16 x.r.fy,.int .i16 x.r.tx,.int .i16 x.r.ty,.int .u8 x.r.seats,.int .u8 x.r.classes,.int .i64 x.r.base,.int .i64 x.r.ttl,.int .i64 x.since,.int .i64 x.number] 79)) id);generalize wr.alloc (.cells #[.int .u8 x.r.i0,.int .u8 x.r.i1,.int .u8 x.r.i2,.int .u8 x.r.i3,.int .u8 x.r.i4,.int .u8 x.r.i5,.int .u8 x.r.i6,.int .u8 x.r.i7,.int .i16 x.r.fx,.int .i16 x.r.fy,.int .i16 x.r.tx,.int .i16 x.r.ty,.int .u8 x.r.seats,.int .u8 x.r.classes,.int .i64 x.r.base,.int .i64 x.r.ttl,.int .i64 x.since,.int .i64 x.number] 79)=W3 at *;refine (vP W3 c now x HXO.out HNOW.out).mono ?_;rintro e w4 ⟨rfl,hb4⟩;have HR4:=yA (HR2.out.keep hb4);have HROW4:=yA (HROW2.out.keep (Keep.of_below hb4 (yB _) (fun _=>False)) id);clear hb4 HR1 HR2 HROW HROW2 HCE HXO;have hc0:w4.cell? ⟨G,k,none⟩=some (.int .i64 0):=HROW4.out.cell k _ (un HN.out hlt);have hf0:w4.frozen? ⟨G,k,none⟩=false:=HROW4.out.free k (by omega);have HR5:=yA (HR4.out.set hne8 hH8G H8L.out k (.int .i64 (wtP c now x).1));have HROW5:=yA (HROW4.out.set k (.int .i64 (wtP c now x).1) (by omega));rw [←um HN.out HX.out] at HROW5;obtain ⟨A,E,hAE⟩:∃ A E,wtP c now x=(A,E):=⟨_,_,rfl⟩;rw [hAE] at HR5 HROW5 ⊢;have HAE:=yA hAE;clear hAE HR4 HROW4;by_cases h0:E=0
        · have HA:=yA (show ∀ (j:Nat) (y:ad),j<k+1→ws[j]?=some y→(wtP c now y).2=0 from fun j y hj hy=>by
           rcases yW.1 hj with hj | rfl
           · exact HALL.out j y hj hy
           · rw [HX.out] at hy;cases hy;rw [HAE.out];exact h0)
          have e1:(E==0)=true:=by simp [h0]
          have e2:(E != 0)=false:=by simp [h0]
          clear h0;go_wp2_with fail
          go_roundw
          case rel=>exact yA ⟨k+1,by go_num,by omega,HA.out,HR5.out,HROW5.out⟩
          case measure=>simp [intOf];omega
        · have HE:=yA (show bO c now ws ds=E by
           have h1:=lh HX.out (by rw [HAE.out];exact h0) HALL.out;rw [HAE.out] at h1;rw [qt HC.out HT.out HSZ.out (by rw [h1];exact h0),h1])
          have HE0:=yA h0;have e1:(E==0)=false:=by simp [h0]
          have e2:(E != 0)=true:=by simp [h0]
          clear h0;obtain ⟨r0,r1,r2,rf⟩:=cells3 HR5.out.r;have HR6:=yA (show c7 w c H0 H8 (w4.setCell ⟨G,k,none⟩ (.int .i64 A)) from HR5.out);go_upto_region 15 with fail
          generalize w4.setCell ⟨G,k,none⟩ (.int .i64 A)=W5 at *;have HBW:=yA (HR6.out.write H8L.out (.int .i64 0) (.int .i64 0) (.slice none 0 0));have HQ:=yA (bC HR6.out.r (.int .i64 0) (.int .i64 0) (.slice none 0 0));go_wp2_with fail
          generalize ((W5.setCell ⟨H8,0,none⟩ (.int .i64 0)).setCell ⟨H8,1,none⟩ (.int .i64 0)).setCell ⟨H8,2,none⟩ (.slice none 0 0)=WF at *;obtain ⟨q0,q1,q2⟩:=HQ.out;exact yS (v:=.tuple #[.agg #[.int .i64 0,.int .i64 0,.slice none 0 0],.int .i64 E]) (by simp [results,Tryz.results85,go_sem,q0,q1,q2]) rfl (GraphPost.no HE.out HE0.out HBW.out)
      · obtain rfl:n=k:=by omega
        have HWE:=yA (lR (c:=c) (now:=now) (l:=ws) (fun j y hy=>HALL.out j y (by rw [←HN.out];exact (yD.1 hy).1) hy));have HBE:=yA (qu (ds:=ds) HC.out HT.out HSZ.out HWE.out);clear HALL hlt hk
        as_aux_lemma=>
         go_wp2_with fail
         go_loopw [67] (fun i wr=>Hid (∃ k:Nat,i = .int .i64 k∧k≤m∧(∀ (j:Nat) (y:ak),j<k→ds[j]?=some y→aR y.d=0)∧c7 w c H0 H8 wr∧Row wr G n 1 (mm c now ws n n))) (fun i _=>m - (intOf i).toNat)
         case atStart=>exact yA ⟨0,rfl,yQ _,fun j y h=>absurd h (Nat.not_lt_zero j),HR1.out,HROW.out⟩
         case round=>
          obtain ⟨k,rfl,hk,hall,hgh,hrow⟩:=hrel.out;clear hrel;have HALL:=yA hall;have HR1:=yA hgh;have HROW:=yA hrow;clear hall hgh hrow;by_cases hlt:k<m
          · obtain ⟨x,hx⟩:∃ x,ds[k]?=some x:=⟨ds[k]'(by rw [HM.out];exact hlt),yC _⟩
            obtain ⟨b,o,rfl,_⟩:=HDR.out.place (by rw [cellsOf_length _ 14 ak.cells_length,HM.out];omega);have HCE:=yA (dz (HDR.out.below HR1.out.below) hx);have HX:=yA hx;have HXO:=yA (HOD.out x (yP hx));clear hx;go_wp2_with (first | ((with_reducible refine aa (o:=⟨some 70,_,_,_,_,_⟩) ?_ 83 (.tmp 69) ?_ b (o+k*14) ?_ x.cells #[.int .u8 x.d.i0,.int .u8 x.d.i1,.int .u8 x.d.i2,.int .u8 x.d.i3,.int .u8 x.d.i4,.int .u8 x.d.i5,.int .u8 x.d.i6,.int .u8 x.d.i7,.int .i16 x.d.ax,.int .i16 x.d.ay,.int .u8 x.d.seats,.int .u8 x.d.cls,.int .i64 x.d.radius,.int .i64 x.number] ?_ _ HCE.out Tryz.underlying83 ?_ ?_ ?_);rfl;rfl;rfl;rfl;rfl;exact dF) | ((with_reducible refine ah (o:=⟨none,.store 83 (.tmp 15) (.tmp 70),_,_,_,_⟩) ?_ 83 (.tmp 15) (.tmp 70) ?_ _ #[.int .u8 x.d.i0,.int .u8 x.d.i1,.int .u8 x.d.i2,.int .u8 x.d.i3,.int .u8 x.d.i4,.int .u8 x.d.i5,.int .u8 x.d.i6,.int .u8 x.d.i7,.int .i16 x.d.ax,.int .i16 x.d.ay,.int .u8 x.d.seats,.int .u8 x.d.cls,.int .i64 x.d.radius,.int .i64 x.number] ?_ ?_ x.cells ?_ ?_ ?_ x.cells_one ?_);rfl;rfl;rfl;rfl;rfl;exact dF;rfl) | ((with_reducible refine aa (o:=⟨some 72,_,_,_,_,_⟩) ?_ 81 (.tmp 71) ?_ wr.heap.size (0) ?_ x.d.cells #[.int .u8 x.d.i0,.int .u8 x.d.i1,.int .u8 x.d.i2,.int .u8 x.d.i3,.int .u8 x.d.i4,.int .u8 x.d.i5,.int .u8 x.d.i6,.int .u8 x.d.i7,.int .i16 x.d.ax,.int .i16 x.d.ay,.int .u8 x.d.seats,.int .u8 x.d.cls,.int .i64 x.d.radius] ?_ _ (om (yE wr _)) Tryz.underlying81 ?_ ?_ ?_);rfl;rfl;rfl;rfl;rfl;exact pg))
            have HR2:=yA (HR1.out.one (.cells #[.int .u8 x.d.i0,.int .u8 x.d.i1,.int .u8 x.d.i2,.int .u8 x.d.i3,.int .u8 x.d.i4,.int .u8 x.d.i5,.int .u8 x.d.i6,.int .u8 x.d.i7,.int .i16 x.d.ax,.int .i16 x.d.ay,.int .u8 x.d.seats,.int .u8 x.d.cls,.int .i64 x.d.radius,.int .i64 x.number] 83));have HROW2:=yA (HROW.out.keep (Keep.alloc (fun _=>False) wr (.cells #[.int .u8 x.d.i0,.int .u8 x.d.i1,.int .u8 x.d.i2,.int .u8 x.d.i3,.int .u8 x.d.i4,.int .u8 x.d.i5,.int .u8 x.d.i6,.int .u8 x.d.i7,.int .i16 x.d.ax,.int .i16 x.d.ay,.int .u8 x.d.seats,.int .u8 x.d.cls,.int .i64 x.d.radius,.int .i64 x.number] 83)) id);generalize wr.alloc (.cells #[.int .u8 x.d.i0,.int .u8 x.d.i1,.int .u8 x.d.i2,.int .u8 x.d.i3,.int .u8 x.d.i4,.int .u8 x.d.i5,.int .u8 x.d.i6,.int .u8 x.d.i7,.int .i16 x.d.ax,.int .i16 x.d.ay,.int .u8 x.d.seats,.int .u8 x.d.cls,.int .i64 x.d.radius,.int .i64 x.number] 83)=W3 at *;refine (mQ W3 x.d).mono ?_;rintro e w4 ⟨rfl,hb4⟩;have HR4:=yA (HR2.out.keep hb4);have HROW4:=yA (HROW2.out.keep (Keep.of_below hb4 (yB _) (fun _=>False)) id);clear hb4 HR1 HR2 HROW HROW2 HCE HXO;obtain ⟨E,hE⟩:∃ E,aR x.d=E:=⟨_,rfl⟩;rw [hE];have HEE:=yA hE;clear hE;by_cases h0:E=0
            · have HA:=yA (show ∀ (j:Nat) (y:ak),j<k+1→ds[j]?=some y→aR y.d=0 from fun j y hj hy=>by
               rcases yW.1 hj with hj | rfl
               · exact HALL.out j y hj hy
               · rw [HX.out] at hy;cases hy;rw [HEE.out];exact h0)
              have e1:(E==0)=true:=by simp [h0]
              have e2:(E != 0)=false:=by simp [h0]
              clear h0;go_wp2_with fail
              go_roundw
              case rel=>exact yA ⟨k+1,by go_num,by omega,HA.out,HR4.out,HROW4.out⟩
              case measure=>simp [intOf];omega
            · have HE:=yA (show bO c now ws ds=E by
               have h1:=iy HX.out (by rw [HEE.out];exact h0) HALL.out;rw [HBE.out,h1,HEE.out])
              have HE0:=yA h0;have e1:(E==0)=false:=by simp [h0]
              have e2:(E != 0)=true:=by simp [h0]
              clear h0;obtain ⟨r0,r1,r2,rf⟩:=cells3 HR4.out.r;have HBW:=yA (HR4.out.write H8L.out (.int .i64 0) (.int .i64 0) (.slice none 0 0));have HQ:=yA (bC HR4.out.r (.int .i64 0) (.int .i64 0) (.slice none 0 0));go_wp2_with fail
              generalize ((w4.setCell ⟨H8,0,none⟩ (.int .i64 0)).setCell ⟨H8,1,none⟩ (.int .i64 0)).setCell ⟨H8,2,none⟩ (.slice none 0 0)=WF at *;obtain ⟨q0,q1,q2⟩:=HQ.out;exact yS (v:=.tuple #[.agg #[.int .i64 0,.int .i64 0,.slice none 0 0],.int .i64 E]) (by simp [results,Tryz.results85,go_sem,q0,q1,q2]) rfl (GraphPost.no HE.out HE0.out HBW.out)
          · obtain rfl:m=k:=by omega
            have HE:=yA (show bO c now ws ds=0 by rw [HBE.out];exact jv (fun j y hy=>HALL.out j y (by rw [←HM.out];exact (yD.1 hy).1) hy));clear HALL hlt hk HBE
            as_aux_lemma=>
             have HR9:=yA (HR1.out.one (.cells #[.int .i64 n,.int .i64 m,.slice none 0 0] 28));have HROW9:=yA (HROW.out.keep (Keep.alloc (fun _=>False) wr (.cells #[.int .i64 n,.int .i64 m,.slice none 0 0] 28)) id);have HBOX:=yA (yE wr (.cells #[.int .i64 n,.int .i64 m,.slice none 0 0] 28));have hG9:G<wr.heap.size:=HROW.out.lt;have HW9:=yA HR1.out.below.size;go_wp2_with fail
             generalize wr.alloc (.cells #[.int .i64 n,.int .i64 m,.slice none 0 0] 28)=W9 at *;generalize wr.heap.size=H9 at *;refine (va W9 ao bo n m c' c'' ws ds HN.out HM.out (HWR.out.below HR9.out.below) (HDR.out.below HR9.out.below) HOW.out HOD.out hn' hm').mono ?_;rintro e w3 ⟨pv,rfl,hpg⟩;obtain ⟨po,pcap,rfl,hprd⟩:=hpg.shape;have HR3:=yA (HR9.out.keep hpg.below);have HROW3:=yA (HROW9.out.keep (Keep.of_below hpg.below (yB _) (fun _=>False)) id);have HED:=yA (gd.begin ((Keep.of_below hpg.below (yB _) (fun _=>False)).old HBOX.out id));have HNB:=yA (show ∀ p ∈ bN ws ds,0≤p.r∧p.r<n∧0≤p.c∧p.c<m from fun p hp=>by have:=ou hp;rw [HN.out,HM.out] at this;exact this);have HPR:=yA hprd
             have HPB:=yA (show ∀ b o,po=some ⟨b,o,none⟩→0<(bN ws ds).length→b≠H9 from fun b o h hl he=>by
              rcases hpg.own.2 with ⟨h1,h2⟩ | ⟨g,cap,h1,_⟩
              · omega
              · cases h1
                cases h
                have h3:W9.heap.size≤b:=hpg.new b rfl;have:=yK HBOX.out;omega)
             have hlen:(bN ws ds).length≤4096:=by
              have k1:=jR ws ds;have k2:ws.length*ds.length≤64*64:=Nat.mul_le_mul (by rw [HN.out];exact h1) (by rw [HM.out];exact h2);omega
             obtain ⟨q,hq⟩:∃ q,(bN ws ds).length=q:=⟨_,rfl⟩;rw [hq] at hlen HPB ⊢;have HQL:=yA hq;clear hprd hpg hq HR9 HROW9 HBOX HR1 HROW;obtain ⟨i5,hi,hz0,hz1,hz2⟩:=cR gH;go_wp2_with fail
             go_loopw [88] (fun i wr=>Hid (∃ (k:Nat) (ev:Value),i = .int .i64 k∧k≤q∧gd w3 n m (((bN ws ds).take k).map (e8 c now ws)) ev H9 wr)) (fun i _=>q - (intOf i).toNat)
             case atStart=>exact yA ⟨0,.slice none 0 0,rfl,yQ _,HED.out⟩
             case round=>
              obtain ⟨k,ev,rfl,hk,hed⟩:=hrel.out;clear hrel;have HED1:=yA hed;clear hed;by_cases hlt:k<q
              · obtain ⟨p,hp⟩:∃ p,(bN ws ds)[k]?=some p:=⟨(bN ws ds)[k]'(by rw [HQL.out];exact hlt),yC _⟩
                obtain ⟨b,o,rfl,_⟩:=HPR.out.place (by rw [cellsOf_length _ 2 ag.cells_length,HQL.out];omega);obtain ⟨p0,p1⟩:=bi (HPR.out.keep HED1.out.keep (fun b' o' h=>HPB.out b' o' h (by omega))) hp;obtain ⟨v1,v2,v3,v4⟩:=HNB.out p (yP hp);obtain ⟨x,hx⟩:∃ x,ws[p.r.toNat]?=some x:=⟨ws[p.r.toNat]'(by rw [HN.out];omega),yC _⟩;have HEO:=yA (ot (c:=c) (now:=now) hx);have hwc:wr.cell? ⟨G,p.r.toNat,none⟩=some (.int .i64 (wtP c now x).1):=(HROW3.out.keep HED1.out.keep (by omega)).cell _ _ (xQ HN.out hx);have HNEXT:=yA (dA (f:=e8 c now ws) hp);obtain ⟨g0,g1,g2,gf⟩:=cells3 HED1.out.box;have hH9:H9<wr.heap.size:=Nat.lt_of_lt_of_le HED1.out.lt HED1.out.keep.size;have hb0:b<wr.heap.size:=yL wr _ p0;have hGw:G<wr.heap.size:=by omega
                have hLl:(((bN ws ds).take k).map (e8 c now ws)).length≤4096:=by rw [List.length_map,yY];omega
                clear hp hx;generalize (wtP c now x).1=wt at *;obtain ⟨L,hL⟩:∃ L,((bN ws ds).take k).map (e8 c now ws)=L:=⟨_,rfl⟩;rw [hL] at HED1 HNEXT hLl;clear hL;go_wp2_with fail
                have HWY:=yA (Keep.alloc (fun _=>False) wr (.cells #[.int .i64 p.r,.int .i64 p.c] 69));have y0:(wr.alloc (.cells #[.int .i64 p.r,.int .i64 p.c] 69)).cell? ⟨wr.heap.size,0,none⟩=some (.int .i64 p.r):=by go_simp
                have y1:(wr.alloc (.cells #[.int .i64 p.r,.int .i64 p.c] 69)).cell? ⟨wr.heap.size,1,none⟩=some (.int .i64 p.c):=by go_simp
                have y2:=HWY.out.cell g2 id;have y3:=HWY.out.cell hwc id;have HEY:=yA (HED1.out.past HWY.out);clear g0 g1 g2 gf hwc p0 p1;generalize wr.alloc (.cells #[.int .i64 p.r,.int .i64 p.c] 69)=WY at *;have hHY:H9<WY.heap.size:=by have:=HWY.out.size;omega
                have hPY:wr.heap.size<WY.heap.size:=yL WY _ y0;have hGY:G<WY.heap.size:=by omega
                obtain ⟨HP,hHPe⟩:∃ HP,wr.heap.size=HP:=⟨_,rfl⟩;rw [hHPe] at y0 y1 hPY ⊢;have HHP:=yA hHPe;clear hHPe
                have HNO:=yA (show ∀ b,(b<w3.heap.size∨HP≤b)→¬ ev.ownBlock=some b from fun b hb he=>by
                 have k1:=HED1.out.new b he;have k2:=HED1.out.own.lt b he;have k3:=HHP.out;omega)
                have n1:=World.new_ne WY _ y2;have n2:=World.new_ne WY _ y0;have n3:=World.new_ne WY _ y1;have n4:=World.new_ne WY _ y3;have hneP:HP≠H9:=by have:=HHP.out;omega
                have hneG:G≠H9:=by omega
                have HYS:=yA (show (⟨H9,2,none⟩:Addr).block<w3.heap.size∧G<w3.heap.size from ⟨HED1.out.lt,HROW3.out.lt⟩);have HPK:=yA (fun (w':World) (hk:Keep (fun _=>False) WY w')=>show w'.cell? ⟨H9,2,none⟩=some ev∧w'.cell? ⟨HP,0,none⟩=some (.int .i64 p.r)∧w'.cell? ⟨HP,1,none⟩=some (.int .i64 p.c)∧w'.cell? ⟨G,p.r.toNat,none⟩=some (.int .i64 wt) from ⟨hk.cell y2 id,hk.cell y0 id,hk.cell y1 id,hk.cell y3 id⟩);clear y0 y1 y2 y3 n1 n2 n3 n4;refine fa 12 (fun w'=>w'.cell? ⟨H9,2,none⟩=some ev∧w'.cell? ⟨HP,0,none⟩=some (.int .i64 p.r)∧w'.cell? ⟨HP,1,none⟩=some (.int .i64 p.c)∧w'.cell? ⟨G,p.r.toNat,none⟩=some (.int .i64 wt)) (by kernel_rfl) (by kernel_rfl) (fun _ _ _ _ _ h=>h) (HPK.out _ (Keep.drew _ _)) ?_;simp only [List.take_succ_cons,List.take_zero,List.drop_succ_cons,List.drop_zero]
                iterate 12 (
                 refine bg (v:=?_) (Or.inl ⟨by rfl,?_⟩) ?_
                 rotate_left
                 · intro w' hSw
                   try dsimp only at hSw
                   go_simp
                   try with_reducible rfl
                 try simp only [Act.put,yM,List.set_cons_zero,List.set_cons_succ])
                refine bs ?_;refine aC rfl (fun K hK=>?_);go_simp
                refine hK _ _ ⟨by first | exact HPK.out _ (Keep.of_below ((yH WY.heap.size WY).alloc (yB _) _) (yB _) _) | exact HPK.out _ (Keep.of_below (((yH WY.heap.size WY).alloc (yB _) _).drew) (yB _) _),?_⟩;clear hK K;try simp only [Act.put,yM,List.set_cons_zero,List.set_cons_succ]
                refine dw rfl (.tmp 93) (.tmp 104) 26 26 rfl 114 i5 na 3 24 Tryz.underlying26 hi hz0 hz1 hz2 rfl ev L.length (cellsOf ab.cells L) (by simp [Act.eval]) (HEY.out.own.keep (Keep.of_below (((yH WY.heap.size WY).alloc (yB _) _).drew) (yB _) (fun _=>False)) (fun _ _=>id)) (.slice (some ⟨WY.heap.size,0,none⟩) 1 1) 1 (ab.cells ⟨p.r,p.c,wt⟩) (by simp [Act.eval]) (Src.litDrew Tryz.underlying26 3 _ rfl (ab.cells_one _) _ _ (by first | rfl | simp [ab.cells])) (by unfold maxLen;omega) (by omega) ?_;intro ao2 q2 w5 ho2 hk2 hb2;have HO2:=yA ho2;have HS2:=yA hb2;have HK2:=yA hk2;have HKY:=yA (Keep.of_below (((yH WY.heap.size WY).alloc (yB _) (.cells #[.int .i64 p.r,.int .i64 p.c,.int .i64 wt] 114)).drew) (yB _) (fun _=>False));clear ho2 hk2 hb2;have HB5:=yA (HK2.out.old (HKY.out.old HEY.out.box id) (HNO.out _ (.inl HYS.out.1)));obtain ⟨zz0,zz1,zz2,zf⟩:=cells3 HB5.out;clear HPK;have HN5:=yA (HEY.out.next (x:=⟨p.r,p.c,wt⟩) HKY.out HO2.out HK2.out HS2.out);rw [←HEO.out,←HNEXT.out] at HN5;go_wp2_with fail
                go_roundw
                case rel=>exact yA ⟨k+1,_,by go_num,by omega,HN5.out⟩
                case measure=>simp [intOf];omega
              · obtain rfl:q=k:=by omega
                have HEF:=yA (show (((bN ws ds).take q).map (e8 c now ws))=bj c now ws ds by rw [zh (by rw [HQL.out];exact yB _)];rfl);rw [HEF.out] at HED1;obtain ⟨ea,ec,rfl⟩:=HED1.out.own.sl;obtain ⟨g0,g1,g2,gf⟩:=cells3 HED1.out.box;have hb8:wr.heap[H8]?=some (.cells #[.int .i64 0,.int .i64 0,.slice none 0 0] 28 (0,0)):=HED1.out.keep.old HR3.out.r (by omega);obtain ⟨r0,r1,r2,rf⟩:=cells3 hb8;have HGW:=yA ((HED1.out.grown HR3.out.below HW9.out).write H8L.out (fun g hg he=>by have:=HED1.out.new g hg;have:=HR3.out.r;have:=yK this;omega) (.int .i64 n) (.int .i64 m) (.slice ea (bj c now ws ds).length ec));have HQ:=yA (bC hb8 (.int .i64 n) (.int .i64 m) (.slice ea (bj c now ws ds).length ec));clear hb8;go_wp2_with fail
                generalize ((wr.setCell ⟨H8,0,none⟩ (.int .i64 n)).setCell ⟨H8,1,none⟩ (.int .i64 m)).setCell ⟨H8,2,none⟩ (.slice ea (bj c now ws ds).length ec)=WF at *;obtain ⟨q0,q1,q2⟩:=HQ.out;exact yS (v:=.tuple #[.agg #[.int .i64 n,.int .i64 m,.slice ea (bj c now ws ds).length ec],.int .i64 0]) (by simp [results,Tryz.results85,go_sem,q0,q1,q2]) rfl (GraphPost.yes HE.out HN.out HM.out HGW.out)
section
variable {P:Program}
theorem ig {o:Oper} {a:Act} {W:World} {K:Act→Prop} (ty:TypeId) (x:Operand) (ho:o.op = .load ty x)
 (b off:Nat) (hx:a.eval x = .pointer (some ⟨b,off,none⟩)) (cs:List Value) (V:Array Value) (hvs:cs.toArray=V) (d:TypeDesc) (hc:∀ j u,cs[j]?=some u→W.cell? ⟨b,off+j,none⟩=some u)
 (hu:P.underlying ty=some d) (hd:(match d with | .struct _ | .array _ _=>true | _=>false)=true) (hi:(P.info? ty).map (·.size)=some cs.length)
 (hk:K (a.put o.dst (.agg V))):o.quiet P a (fun w'=>∃ n,w'=W.drewN n) K:=by
 refine ⟨.agg V,?_,hk⟩;rintro w ⟨n,rfl⟩;have h:=bk (P:=P) (W.drewN n) b off ty cs d (fun j u hj=>by have:=hc j u hj;simpa using this) hu hd hi;rw [hvs] at h;unfold Oper.quietAt execOp;simp only [ho,hx,Instr.loadAt,Instr.sureAddr,Sem.run_bind,Sem.run_pure,Result.andThen_ok,h];exact ⟨rfl,rfl⟩
end
end Go.Proofs.YtcaicgipibcicaaGreat
namespace Go.Proofs.YtcaicgipibcicaaGreat
section
variable {P:Program} {ops:Array Oper} {md:Region.Mode} {S:World→Prop} {Q:Exit→Act→World→Prop}
def cF (P:Program) (ops:Array Oper) (Q:Exit→Act→World→Prop) (S:World→Prop) (K:Act→World→Prop):Nat→Nat→Act→World→Prop
 | 0,_,a,w=>K a w
 | m+1,i,a,w=>wpOp P ops Q i (fun a' w'=>S w'∧cF P ops Q S K m (i+1) a' w') a w
theorem nG {n g:Nat} {Lq:Act→World→Prop}:∀ (m k:Nat) (listed:Array Bool) (a:Act) (w:World),k+m=n→Region.seqB md ops (m+g) k listed=true→cF P ops Q S Lq m k a w→
 jS P md ops Q S n (fun listed' a' w'=>Region.seqB md ops g n listed'=true∧Lq a' w') m listed a w
 | 0,k,listed,a,w,hk,hB,h=>by
   have hkn:k=n:=by simpa using hk
   subst hkn;exact ⟨by simpa using hB,h⟩
 | m+1,k,listed,a,w,hk,hB,h=>by
   rw [show m+1+g=(m+g)+1 by omega] at hB;simp only [Region.seqB,zD,decide_eq_true_eq] at hB;refine ⟨by rw [hB.1];exact List.cons_ne_nil _ _,fun i hi=>?_⟩;rw [hB.1] at hi;have hik:i=k:=by simpa using hi
   subst hik;have hw:wpOp P ops Q i (fun a' w'=>S w'∧cF P ops Q S Lq m (i+1) a' w') a w:=h;exact ⟨by omega,wpOp_mono (fun a' w' h'=>⟨h'.1,nG m (i+1) _ a' w' (by omega) hB.2 h'.2⟩) hw⟩
theorem mh {n m g:Nat} {Lq:Act→World→Prop} (hsel:Region.noSelect ops=true) (hs:Region.sinkB md ops (n+m)=true) (hc:Region.chainB md ops (n+m)=true) (hn:n+m<ops.size)
 (hQ:∀ c (a:Act) (t:Nat) (v:Value) w,Q (.panic c) (a.put (some t) v) w→Q (.panic c) a w) :
 ∀ (l:List Oper) (k:Nat) (listed:Array Bool) (a:Act) (w:World),(∀ j,j<l.length→l[j]?=ops[k+j]?)→k+l.length=n→HeadInv md ops (n+m) listed→
 Region.lexHead md ops (m+g) l.length k listed=true→S w→eG P ops S (fun a'=>cF P ops Q S Lq m n a' w) l a→
 jS P md ops Q S (n+m) (fun listed' a' w'=>Region.seqB md ops g (n+m) listed'=true∧Lq a' w') (l.length+m) listed a w
 | [],k,listed,a,w,_,hk,_,hB,_,h=>by
   have hkn:k=n:=by simpa using hk
   subst hkn;have hw:cF P ops Q S Lq m k a w:=h;rw [zu,yO];exact nG m k listed a w rfl (by simpa [Region.lexHead] using hB) hw
 | o::l,k,listed,a,w,hl,hk,inv,hB,hS,h=>by
   have h0:ops[k]?=some o:=by simpa using (hl 0 (by simp)).symm
   simp only [zg,Region.lexHead,zD] at hB;have hkn:k<n+m:=by simp only [zg] at hk;omega
   have hr:k ∈ Region.ready md ops listed:=by simpa using hB.1.1
   obtain ⟨v,hy,hK⟩:=h;rw [show (o::l).length+m=(l.length+m)+1 by simp only [zg];omega];refine kz h0 (Region.noSelect_spec hsel) hs hc hn hkn (fun c a' w' hp=>ov hQ c a' _ _ w' hp) (fun listed' a' w' hL=>seqB_ready hL.1) (l.length+m) listed a w inv (Region.free_spec h0 hB.1.2) hr hy hS ?_;refine mh hsel hs hc hn hQ l (k+1) _ _ w (fun j hj=>?_) (by simp only [zg] at hk;omega) (inv.set hr hkn) hB.2 hS hK;have h5:=hl (j+1) (by simp only [zg];omega);rw [show k+1+j=k+(j+1) by omega,←h5];rfl
def xq (ops:Array Oper) (n m:Nat):Bool:=
 Region.noSelect ops && decide (n+m<ops.size) && Region.sinkB .any ops (n+m) && Region.chainB .any ops (n+m) && Region.lexHead .any ops (m+(ops.size - (n+m))) n 0 (Array.replicate ops.size false)
theorem bd {id:Nat} {a:Act} {w:World} {l:List Oper} (n m:Nat) (S:World→Prop) (hm:P.follows .mixedOrders=true) (hB:xq l.toArray n m=true)
 (hQ:∀ c (a:Act) (t:Nat) (v:Value) w,Q (.panic c) (a.put (some t) v) w→Q (.panic c) a w) (hS:S w.drew)
 (h:eG P l.toArray S (fun a'=>cF P l.toArray Q S (fun a'' w''=>wpList P l.toArray Q (l.drop (n+m)) a'' w'') m n a' w.drew) (l.take n) a):(Code.region id l.toArray true).wp P Q a w:=by
 simp only [xq,zD,decide_eq_true_eq] at hB;obtain ⟨⟨⟨⟨hsel,hn⟩,hs⟩,hc⟩,hlex⟩:=hB;have hn':n+m<l.length:=by simpa using hn
 have htl:(l.take n).length=n:=by simp;omega
 have hdl:(l.drop (n+m)).length=l.toArray.size - (n+m):=by simp
 have inv0:HeadInv .any l.toArray (n+m) (Array.replicate l.toArray.size false):=
  ⟨by simp,fun j oj _ hl=>(by rw [getD_replicate_false] at hl;cases hl),fun t _ ht=>getD_in (by simpa using ht) (getD_replicate_false _ _)⟩
 have H:=mh (md:=.any) (g:=l.toArray.size - (n+m)) hsel hs hc hn hQ (l.take n) 0 _ a w.drew (fun j hj=>by
  rw [htl] at hj;simp [hj]) (by simpa using htl) inv0 (by rw [htl];exact hlex) hS h
 refine wp_region_any hm ?_
 have hA:=fQ (g:=l.toArray.size - (n+m)) (fun listed a' w' hL=>by
  have hT:=wpAny_of_seq (md:=.any) (l.drop (n+m)) (n+m) listed a' w' (fun j=>by simp [List.getElem?_drop]) (by rw [hdl];exact hL.1) hL.2;rwa [hdl] at hT) _ _ _ _ H
 rw [htl,show n+m+(l.toArray.size - (n+m))=l.toArray.size by omega] at hA;exact hA
end
end Go.Proofs.YtcaicgipibcicaaGreat
namespace Go.Proofs.YtcaicgipibcicaaGreat
open Go.RowKit
theorem mi (c:Nat) (h:c<4294967296):bits BinOp.and IntKind.u32 (c:Int) 1=((c % 2:Nat):Int):=by
 have:=u32_and_nat c 1 h (by decide);rw [Nat.and_one_is_mod] at this;exact this
theorem jl (a b:Nat) (ha:a<4294967296) (hb:b<4294967296):bits BinOp.xor IntKind.u32 (a:Int) (b:Int)=((a ^^^ b:Nat):Int):=u32_xor_nat a b ha hb
theorem Keep.setCellS (w:World) (B o:Nat) (v:Value):Keep (·=B) w (w.setCell ⟨B,o,none⟩ v):=
 ⟨rfl,rfl,rfl,by simp [World.setCell],fun k _ hx=>Below.heap_setCell _ _ _ _ hx⟩
theorem xt (B c:Nat) (w:World) (hc:c<4294967296) (hv:w.heap[B]?=some (.cells #[.int .u32 (c:Int)] 121 (0,0))) :
 Calls Tryz.prog 161 #[.pointer (some ⟨B,0,none⟩)] w fun e w'=>e = .returned (.tuple #[])∧w'.heap[B]?=some (.cells #[.int .u32 (dK c:Int)] 121 (0,0))∧Keep (·=B) w w':=by
 have c0:=cell_of_one hv;have f0:=free_of_one hv;by_cases h:c % 2=1
 · have ha:(bits BinOp.and IntKind.u32 (c:Int) 1==1)=true:=by rw [mi c hc];simp [h]
   have hx:bits BinOp.xor IntKind.u32 ((c:Int) / 2) 3988292384=(dK c:Int):=by
    have:=jl (c / 2) 3988292384 (by omega) (by decide);rw [dK,if_pos h,←this];rfl
   have hf:=yA (one_setCell (u:=.int .u32 (dK c:Int)) (one_setCell (u:=.int .u32 ((c:Int) / 2)) hv));have hK:=yA ((Keep.setCellS w B 0 (.int .u32 ((c:Int) / 2))).trans (Z:=(·=B)) (Keep.setCellS _ B 0 (.int .u32 (dK c:Int))) (fun _ _ h=>h) (fun _ _ h=>h))
   go_enter Tryz.func161,Tryz.ntmps161
   go_wp2
   go_end0
   exact ⟨rfl,hf.out,hK.out⟩
 · have ha:(bits BinOp.and IntKind.u32 (c:Int) 1==1)=false:=by rw [mi c hc];simp;omega
   have hx:((c:Int) / 2)=(dK c:Int):=by rw [dK,if_neg h];rfl
   have HX:=yA hx;clear hx;have hf:=yA (one_setCell (u:=.int .u32 ((c:Int) / 2)) hv);have hK:=yA (Keep.setCellS w B 0 (.int .u32 ((c:Int) / 2)));go_enter Tryz.func161,Tryz.ntmps161
   go_wp2
   go_end0
   rw [←HX.out];exact ⟨rfl,hf.out,hK.out⟩
theorem tJ (c:Nat) (h:c<4294967296):4294967295 ^^^ c=4294967295 - c:=by
 have h1:(BitVec.ofNat 32 c ^^^ BitVec.allOnes 32) = ~~~ (BitVec.ofNat 32 c):=BitVec.xor_allOnes;have h2:=congrArg BitVec.toNat h1;rw [BitVec.toNat_xor,BitVec.toNat_not,BitVec.toNat_allOnes,BitVec.toNat_ofNat,Nat.mod_eq_of_lt h] at h2;rw [Nat.xor_comm];exact h2
theorem yw (l:List UInt8):bits BinOp.xor IntKind.u32 IntKind.u32.max (ci l:Int)=(crc l:Int):=by
 have:=jl 4294967295 (ci l) (by decide) (gG l);rw [tJ _ (gG l)] at this;exact this
theorem take_snoc {α:Type} (l:List α) (k:Nat) (h:k<l.length):l.take (k+1)=l.take k++[l[k]]:=by
 rw [zk h]
theorem sum_any (ao:Option Addr) (cap:Nat) (l:List UInt8) (w:World) (hr:Rd w ao l) (hl:l.length≤140737488351232) :
 Calls Tryz.prog 124 #[.slice ao l.length cap] w fun e w'=>e = .returned (.int .u32 (crc l:Int))∧Below w.heap.size w w':=by
 have h0:(w.alloc (.cells #[.int .u32 4294967295] 121)).heap[w.heap.size]?=some (.cells #[.int .u32 (ci (l.take 0):Int)] 121 (0,0)):=yE w _;have H0:=yA h0;clear h0;have hB0:=yA ((yH w.heap.size w).alloc (yB _) (.cells #[.int .u32 4294967295] 121));have HR:=yA hr;clear hr;go_enter Tryz.func124,Tryz.ntmps124
 go_wp2_with fail
 go_loopw [10] (fun i wr=>∃ k:Nat,k≤l.length∧i = .int .i64 k∧Hid (wr.heap[w.heap.size]?=some (.cells #[.int .u32 (ci (l.take k):Int)] 121 (0,0)))∧Hid (Below w.heap.size w wr)) (fun i _=>l.length - (intOf i).toNat)
 case atStart=>exact ⟨0,yQ _,rfl,H0,hB0⟩
 case round=>
  obtain ⟨k,hk,rfl,hv,hb⟩:=hrel;by_cases hlt:k<l.length
  · obtain ⟨b,o,rfl,hcell⟩:∃ b o,ao=some ⟨b,o,none⟩∧wr.cell? ⟨b,o+k,none⟩=some (.int .u8 (l[k].toNat:Int)):=by
     have:=vX hb.out HR.out;rcases HR.out with h | ⟨b,o,rfl,hc⟩
     · subst h;simp at hlt
     · have hlt':=yL w _ (hc k hlt)
       exact ⟨b,o,rfl,(hb.out.cell (p:=⟨b,o+k,none⟩) hlt').trans (hc k hlt)⟩
    have c0:=cell_of_one hv.out;have f0:=free_of_one hv.out;have hacc:=gG (l.take k);have hb8:=l[k].toNat_lt;have hx:bits BinOp.xor IntKind.u32 (ci (l.take k):Int) (l[k].toNat:Int)=((ci (l.take k) ^^^ l[k].toNat:Nat):Int):=jl _ _ hacc (by omega);have hb8':l[k].toNat<256:=hb8;clear hb8;have hv1:=yA (one_setCell (u:=.int .u32 ((ci (l.take k) ^^^ l[k].toNat:Nat):Int)) hv.out);have hb1:=yA (hb.out.setCell (p:=⟨w.heap.size,0,none⟩) (yB _) (.int .u32 ((ci (l.take k) ^^^ l[k].toNat:Nat):Int)));have hlt0:ci (l.take k) ^^^ l[k].toNat<4294967296:=Nat.xor_lt_two_pow (n:=32) hacc (by have:=l[k].toNat_lt;omega);have hlt1:=yA hlt0;clear hlt0;go_wp2_with fail
    go_loopw [18] (fun j wi=>∃ m:Nat,m≤8∧j = .int .i64 m∧Hid (wi.heap[w.heap.size]?=some (.cells #[.int .u32 (lS m (ci (l.take k) ^^^ l[k].toNat):Int)] 121 (0,0)))∧Hid (Below w.heap.size w wi)) (fun j _=>8 - (intOf j).toNat)
    case atStart=>exact ⟨0,yQ _,rfl,hv1,hb1⟩
    case round=>
     obtain ⟨m,hm,rfl,hvm,hbm⟩:=hrel;by_cases hm8:m<8
     · go_wp2_with (go_at_call 161;refine (xt w.heap.size _ _ (m7 m hlt1.out) hvm.out).mono ?_;rintro e w2 ⟨rfl,hv2,hk2⟩;have hv3:=yA hv2;clear hv2)
       have hb3:=yA (hbm.out.trans (hk2.below (Nat.le_of_lt (yK hvm.out)) (fun i hi=>by omega)));go_roundw
       case rel=>exact ⟨m+1,by omega,by go_num,hv3,hb3⟩
       case measure=>simp [intOf];omega
     · go_wp2_with fail
       go_roundw
       case rel=>
        have:m=8:=by omega
        subst this;refine ⟨k+1,by omega,by go_num,?_,hbm⟩;rw [take_snoc l k hlt,lT];exact hvm
       case measure=>simp [intOf];omega
  · have:k=l.length:=by omega
    subst this;have c0:=cell_of_one hv.out;have hfin:=yA (yw l);go_wp2_with fail
    go_ret
    rw [hfin.out];exact ⟨rfl,hb.out⟩
theorem sum_at (ao:Option Addr) (k cap:Nat) (l:List UInt8) (w:World) (hk:l.length=k) (hr:Rd w ao l) (hl:k≤140737488351232) :
 Calls Tryz.prog 124 #[.slice ao k cap] w fun e w'=>e = .returned (.int .u32 (crc l:Int))∧Below w.heap.size w w':=by
 subst hk;exact sum_any ao cap l w hr hl
theorem vb (ao:Option Addr) (cap:Nat) (l:List UInt8) (w:World) (hr:Rd w ao l) (hl:l.length≤140737488351232) :
 Calls Tryz.prog 146 #[.slice ao l.length cap] w fun e w'=>e = .returned (.int .u32 (crc l:Int))∧w=w':=by
 have HR:=yA hr;clear hr;go_enter Tryz.func146,Tryz.ntmps146
 go_wp2_with fail
 go_loop [3,4] (fun c i=>∃ k:Nat,k≤l.length∧i = .int .i64 k∧c = .int .u32 (ci (l.take k):Int)) (fun _ i=>l.length - (intOf i).toNat)
 case atStart=>exact ⟨0,yQ _,rfl,rfl⟩
 case round=>
  obtain ⟨k,hk,rfl,rfl⟩:=hrel;by_cases hlt:k<l.length
  · obtain ⟨b,o,rfl,hcell⟩:∃ b o,ao=some ⟨b,o,none⟩∧w.cell? ⟨b,o+k,none⟩=some (.int .u8 (l[k].toNat:Int)):=by
     rcases HR.out with h | ⟨b,o,rfl,hc⟩
     · subst h;simp at hlt
     · exact ⟨b,o,rfl,hc k hlt⟩
    have hacc:=gG (l.take k);have hb8:=l[k].toNat_lt;have hb8':l[k].toNat<256:=hb8;have hx:bits BinOp.xor IntKind.u32 (ci (l.take k):Int) (l[k].toNat:Int)=((ci (l.take k) ^^^ l[k].toNat:Nat):Int):=jl _ _ hacc (by omega);clear hb8;have hlt0:ci (l.take k) ^^^ l[k].toNat<4294967296:=Nat.xor_lt_two_pow (n:=32) hacc (by omega);have hlt1:=yA hlt0;clear hlt0;go_wp2_with fail
    go_loop [3,5] (fun c j=>∃ m:Nat,m≤8∧j = .int .i64 m∧c = .int .u32 (lS m (ci (l.take k) ^^^ l[k].toNat):Int)) (fun _ j=>8 - (intOf j).toNat)
    case atStart=>exact ⟨0,yQ _,rfl,rfl⟩
    case round=>
     obtain ⟨m,hm,rfl,rfl⟩:=hrel;by_cases hm8:m<8
     · have hcl:=m7 m hlt1.out
       have hs:lS (m+1) (ci (l.take k) ^^^ l[k].toNat)=dK (lS m (ci (l.take k) ^^^ l[k].toNat)):=rfl;have HS:=yA hs;clear hs;generalize hc:lS m (ci (l.take k) ^^^ l[k].toNat)=c at *;have HC:=yA hc;clear hc;by_cases h:c % 2=1
       · have h':((c:Int) % 2==1)=true:=by simp;omega
         have hx2:bits BinOp.xor IntKind.u32 ((c:Int) / 2) 3988292384=(dK c:Int):=by
          have:=jl (c / 2) 3988292384 (by omega) (by decide);rw [dK,if_pos h,←this];rfl
         clear h;go_wp2_with fail
         go_round
         case rel=>exact ⟨m+1,by omega,by go_num,by rw [HS.out]⟩
         case measure=>simp [intOf];omega
       · have h':((c:Int) % 2==1)=false:=by simp;omega
         have hx2:((c:Int) / 2)=(dK c:Int):=by rw [dK,if_neg h];rfl
         have HX2:=yA hx2;clear hx2 h;go_wp2_with fail
         go_round
         case rel=>exact ⟨m+1,by omega,by go_num,by rw [HS.out,HX2.out]⟩
         case measure=>simp [intOf];omega
     · go_wp2_with fail
       go_round
       case rel=>
        have:m=8:=by omega
        subst this;refine ⟨k+1,by omega,by go_num,?_⟩;rw [take_snoc l k hlt,lT];rfl
       case measure=>simp [intOf];omega
  · have:k=l.length:=by omega
    subst this;have hcl:=gG l;have hfin:(4294967295:Int) - (ci l:Int)=(crc l:Int):=by unfold crc;omega
    have HF:=yA hfin;clear hfin;go_wp2_with fail
    go_ret
    rw [←HF.out];exact ⟨rfl,rfl⟩
theorem xu (ao:Option Addr) (k cap:Nat) (l:List UInt8) (w:World) (hk:l.length=k) (hr:Rd w ao l) (hl:k≤140737488351232) :
 Calls Tryz.prog 146 #[.slice ao k cap] w fun e w'=>e = .returned (.int .u32 (crc l:Int))∧w=w':=by
 subst hk;exact vb ao cap l w hr hl
theorem Rd.placeB1 {w:World} {ao:Option Addr} {l:List UInt8} (hr:Rd w ao l) (h:0<l.length):∃ b o,ao=some ⟨b,o,none⟩∧b<w.heap.size:=by
 rcases hr with rfl | ⟨b,o,rfl,hc⟩
 · cases h
 · exact ⟨b,o,rfl,yL w ⟨b,o,none⟩ (by have:=hc 0 h;simpa using this)⟩
theorem Row.setB1 {w:World} {g cap size:Nat} {xs:List Value} (h:Row w g cap size xs) (i:Nat) (v:Value) (hi:i<cap*size):Row (w.setCell ⟨g,i,none⟩ v) g cap size (xs.set i v):=by
 have hK:=Keep.setCells w g i [v];have hsc:w.setCells g i [v]=w.setCell ⟨g,i,none⟩ v:=rfl;rw [←hsc];refine ⟨Nat.lt_of_lt_of_le h.lt hK.size,fun j u hu=>?_,fun j hj=>World.isSome_setCells g [v] _ w _ (h.there j hj),fun j hj=>by rw [World.frozen?_setCells];exact h.free j hj⟩;by_cases hj:j=i
 · subst hj
   have h1:=World.cell?_setCells_in g [v] j w (fun k hk=>by simp at hk;subst hk;exact h.there _ (by simpa using hi)) 0 (by simp);rw [List.getElem?_set] at hu;simp only [if_true] at hu;split at hu
   · cases hu;simpa using h1
   · cases hu
 · rw [World.cell?_setCells_out g [v] _ w ⟨g,j,none⟩ (fun _ _=>by simp;omega)]
   rw [List.getElem?_set_ne (fun e=>hj e.symm)] at hu;exact h.cell j u hu
theorem kQ (l:List UInt8) (i:Nat) (b:UInt8):bh (l.set i b)=(bh l).set i (.int .u8 (b.toNat:Int)):=by simp [bh]
theorem nU (n:Nat) (w:World) (hn:n≤1000000000000):Calls Tryz.prog 65 #[.int .i64 n] w fun e w'=>e = .returned (.int .u8 ((1+n % 255:Nat):Int))∧w=w':=by
 go_enter Tryz.func65,Tryz.ntmps65
 go_wp2_with fail
 go_ret
 exact ⟨by show Ending.returned (.int .u8 (1+(n:Int) % 255))=_;congr 2,rfl⟩
theorem ru (n:Nat) (w:World) (hn:n≤1000000000000):Calls Tryz.prog 68 #[.int .u8 ((1+n % 255:Nat):Int),.int .i64 n] w fun e w'=>e = .returned (.bool true)∧w=w':=by
 go_enter Tryz.func68,Tryz.ntmps68
 go_wp2_with fail
 go_ret
 exact ⟨rfl,rfl⟩
def kR:UInt8:=128
theorem vc (w:World) (ao:Option Addr) (k c:Nat) (b:List UInt8) (hbk:b.length=k) (hrb:Rd w ao b) (hk:k≤100000000000) :
 Calls Tryz.prog 23 #[.slice ao k c] w fun e w'=>e = .returned (.slice (some ⟨w.heap.size,0,none⟩) k (k+1))∧Row w' w.heap.size (k+1) 1 (bh (b++[kR]))∧Below w.heap.size w w':=by
 obtain ⟨i5,hi,hz0,hz1,hz2⟩:=cR tl
 have hmk:(Instr.makeSlice 59 (.int .i64 ((k:Int)+1)) (.int .i64 ((k:Int)+1))).run Tryz.prog w = .ok (.slice (some ⟨w.heap.size,0,none⟩) (k+1) (k+1)) (w.alloc (.cells (bh (List.replicate (k+1) 0)).toArray 5)):=by
  have h:=run_make (P:=Tryz.prog) w 59 5 i5 (.int .u8 0) Tryz.underlying59 hi hz0 .i64 .i64 ((k:Int)+1) ((k:Int)+1) (by omega) (by omega) (by rw [hz2];omega) (by omega);have e:((k:Int)+1).toNat=k+1:=by omega
  rw [e] at h;rw [h]
  have hc:madeCells (Value.int .u8 0).cells ((k+1)*i5.size)=(bh (List.replicate (k+1) 0)).toArray:=by
   apply Array.ext
   · rw [size_madeCells,hz1];simp [bh]
   · intro j h1 h2
     simp [madeCells,bh,Value.cells,Nat.mod_one]
  rw [hc]
 have hrow0:Row (w.alloc (.cells (bh (List.replicate (k+1) 0)).toArray 5)) w.heap.size (k+1) 1 (bh (List.replicate (k+1) 0)):=by
  refine Row.made w _ 5 (0,0) (k+1) 1 _ (by simp [bh]) (.inl rfl) (fun j u hu=>by simpa using hu)
 have hb0:=(yH w.heap.size w).alloc (yB _) (.cells (bh (List.replicate (k+1) 0)).toArray 5);generalize w.alloc (.cells (bh (List.replicate (k+1) 0)).toArray 5)=W at *;have hst:=yA (show Row W w.heap.size (k+1) 1 (bh (b.take 0++List.replicate (k+1 - 0) 0))∧Below w.heap.size w W from ⟨by simpa using hrow0,hb0⟩);have HL:=yA hbk;have HR:=yA hrb;clear hrow0 hb0 hbk hrb;go_enter Tryz.func23,Tryz.ntmps23
 go_wp2_with fail
 go_loopw [4] (fun i wr=>Hid (∃ j:Nat,i = .int .i64 j∧j≤k∧Row wr w.heap.size (k+1) 1 (bh (b.take j++List.replicate (k+1 - j) 0))∧Below w.heap.size w wr)) (fun i _=>k - (intOf i).toNat)
 case atStart=>exact yA ⟨0,rfl,yQ _,hst.out.1,hst.out.2⟩
 case round=>
  obtain ⟨j,rfl,hj,hr,hbr⟩:=hrel.out;have HRR:=yA hr;have HBR:=yA hbr;clear hr hbr hrel;by_cases hlt:j<k
  · have hj':j<b.length:=by rw [HL.out];exact hlt
    obtain ⟨b',o,rfl,hbw⟩:=HR.out.placeB1 (by rw [HL.out];omega)
    have hcb:wr.cell? ⟨b',o+j,none⟩=some (.int .u8 ((b[j]).toNat:Int)):=by
     rcases Below.rd HBR.out HR.out (yB _) with h | ⟨b2,o2,h,hc⟩
     · rw [h] at hj';simp at hj'
     · cases h;exact hc j hj'
    have hlen:(b.take j).length=j:=by rw [yY];omega
    have hget:((b.take j)++List.replicate (k+1 - j) (0:UInt8))[j]?=some 0:=by
     rw [zx (by omega),hlen,Nat.sub_self,List.getElem?_replicate,if_pos (by omega)]
    have hc0:wr.cell? ⟨w.heap.size,j,none⟩=some (.int .u8 0):=HRR.out.cell j _ (by simp only [bh,zW,hget,zF];rfl);have hf0:wr.frozen? ⟨w.heap.size,j,none⟩=false:=HRR.out.free j (by omega)
    have hnext:b.take (j+1)++List.replicate (k+1 - (j+1)) (0:UInt8)=(b.take j++List.replicate (k+1 - j) 0).set j b[j]:=by
     rw [zk hj',List.set_append_right _ _ (by omega),hlen,Nat.sub_self,show k+1 - j=(k+1 - (j+1))+1 by omega,List.replicate_succ,zq];rfl
    have HS:=yA (HRR.out.setB1 j (.int .u8 ((b[j]).toNat:Int)) (by omega));have HBS:=yA (HBR.out.setCell (p:=⟨w.heap.size,j,none⟩) (yB _) (.int .u8 ((b[j]).toNat:Int)))
    have hN:Row (wr.setCell ⟨w.heap.size,j,none⟩ (.int .u8 ((b[j]).toNat:Int))) w.heap.size (k+1) 1 (bh (b.take (j+1)++List.replicate (k+1 - (j+1)) 0)):=by
     rw [hnext,kQ];exact HS.out
    have HN2:=yA hN;have hb8:=(b[j]).toNat_lt;clear hN hget hlen hnext;generalize (b[j]).toNat=z at *;go_wp2_with fail
    go_roundw
    case rel=>exact yA ⟨j+1,by go_num,by omega,HN2.out,HBS.out⟩
    case measure=>simp [intOf];omega
  · obtain rfl:j=k:=by omega
    have htk:b.take j=b:=zh (by rw [HL.out];exact yB _);have hone:List.replicate (j+1 - j) (0:UInt8)=[0]:=by rw [show j+1 - j=1 by omega];rfl
    have hrw:=HRR.out;rw [htk,hone] at hrw;have hget:(b++[(0:UInt8)])[j]?=some 0:=by rw [zx (by rw [HL.out];exact yB _),HL.out,Nat.sub_self];rfl
    have hc0:wr.cell? ⟨w.heap.size,j,none⟩=some (.int .u8 0):=hrw.cell j _ (by simp only [bh,zW,hget,zF];rfl);have hf0:wr.frozen? ⟨w.heap.size,j,none⟩=false:=hrw.free j (by omega)
    have hset:(b++[(0:UInt8)]).set j kR=b++[kR]:=by
     rw [List.set_append_right _ _ (by rw [HL.out];exact yB _),HL.out,Nat.sub_self];rfl
    have hs:=hrw.setB1 j (.int .u8 128) (by omega)
    have hs':Row (wr.setCell ⟨w.heap.size,j,none⟩ (.int .u8 128)) w.heap.size (j+1) 1 (bh (b++[kR])):=by
     rw [←hset,kQ];exact hs
    have HS:=yA hs';have HBS:=yA (HBR.out.setCell (p:=⟨w.heap.size,j,none⟩) (yB _) (.int .u8 128));have HM:=yA (fun w=>nU 7777 w (by omega));clear htk hone hrw hget hset hs hs' hst;go_wp2_with fail
    refine (HM.out _).mono ?_;rintro e w2 ⟨rfl,rfl⟩;go_wp2_with fail
    go_ret
    exact ⟨rfl,HS.out,HBS.out⟩
theorem nH (w:World) (a1 a2:Option Addr) (k c1 c2:Nat) (b:List UInt8) (hbk:b.length=k) (h1:Rd w a1 b) (h2:Rd w a2 b) (hk:k≤100000000000) :
 Calls Tryz.prog 67 #[.slice a1 k c1,.slice a2 k c2] w fun e w'=>e = .returned (.bool true)∧Below w.heap.size w w':=by
 have HL:=yA hbk;have H1:=yA h1;have H2:=yA h2;clear hbk h1 h2;go_enter Tryz.func67,Tryz.ntmps67
 go_wp2_with fail
 go_loopw [5] (fun i wr=>Hid (∃ j:Nat,i = .int .i64 j∧j≤k∧Below w.heap.size w wr)) (fun i _=>k - (intOf i).toNat)
 case atStart=>exact yA ⟨0,rfl,yQ _,yH _ _⟩
 case round=>
  obtain ⟨j,rfl,hj,hbr⟩:=hrel.out;have HBR:=yA hbr;clear hbr hrel;by_cases hlt:j<k
  · have hj':j<b.length:=by rw [HL.out];exact hlt
    obtain ⟨b1,o1,rfl,_⟩:=H1.out.placeB1 (by rw [HL.out];omega);obtain ⟨b2,o2,rfl,_⟩:=H2.out.placeB1 (by rw [HL.out];omega)
    have hc1:wr.cell? ⟨b1,o1+j,none⟩=some (.int .u8 ((b[j]).toNat:Int)):=by
     rcases Below.rd HBR.out H1.out (yB _) with h | ⟨b2,o2,h,hc⟩
     · rw [h] at hj';simp at hj'
     · cases h;exact hc j hj'
    have hc2:wr.cell? ⟨b2,o2+j,none⟩=some (.int .u8 ((b[j]).toNat:Int)):=by
     rcases Below.rd HBR.out H2.out (yB _) with h | ⟨b2,o2,h,hc⟩
     · rw [h] at hj';simp at hj'
     · cases h;exact hc j hj'
    generalize (b[j]).toNat=z at *;clear hj';go_wp2_with fail
    go_quiet (fail)
    go_wp2_with fail
    go_roundw
    case rel=>exact yA ⟨j+1,by go_num,by omega,below_drewN HBR.out _⟩
    case measure=>simp [intOf];omega
  · obtain rfl:j=k:=by omega
    go_wp2_with fail
    go_ret
    exact ⟨rfl,HBR.out⟩
theorem vd (w:World) (g:Nat) (a2:Option Addr) (k c2:Nat) (b:List UInt8) (hbk:b.length=k) (h1:Row w g (k+1) 1 (bh (b++[kR]))) (h2:Rd w a2 b) (hk:k≤100000000000) :
 Calls Tryz.prog 26 #[.slice (some ⟨g,0,none⟩) k (k+1),.slice a2 k c2] w fun e w'=>e = .returned (.bool true)∧Below w.heap.size w w':=by
 have hr1:Rd w (some ⟨g,0,none⟩) b:=by
  refine .inr ⟨g,0,rfl,fun i hi=>?_⟩;rw [yO];refine h1.cell i _ ?_;simp only [bh,zW];rw [List.getElem?_append_left hi,yC hi];rfl
 have hcs:w.cell? ⟨g,k,none⟩=some (.int .u8 128):=by
  refine h1.cell k _ ?_;simp only [bh,zW];rw [zx (by omega),hbk,Nat.sub_self];rfl
 have HS:=yA (nH w (some ⟨g,0,none⟩) a2 k (k+1) c2 b hbk hr1 h2 hk);have HI:=yA (fun w=>ru 7777 w (by omega));clear hr1 h1 h2 hbk;go_enter Tryz.func26,Tryz.ntmps26
 go_wp2_with fail
 refine HS.out.mono ?_;rintro e w1 ⟨rfl,hb⟩;have HB:=yA hb;have hcs1:=(Keep.of_below hb (yB _) (fun _=>False)).cell hcs id;clear hb hcs;go_wp2_with fail
 refine (HI.out _).mono ?_;rintro e w2 ⟨rfl,rfl⟩;go_wp2_with fail
 go_ret
 exact ⟨rfl,HB.out⟩
def xw (k:IntKind) (w:World) (a:Option Addr) (len cap:Nat) (zs:List Int):Prop:=
 (a=none∧len=0∧cap=0∧zs=[])∨
 ∃ x,a=some x∧len≤cap∧cap≤maxLen∧zs.length=cap∧(∀ i,i<zs.length→w.cell? (x.add i)=some (.int k (zs.getD i 0)))∧∀ n ∈ zs,(Lit.int k n).wf=true
theorem u8_of (n:Int) (h:(Lit.int .u8 n).wf=true):((UInt8.ofNat n.toNat).toNat:Int)=n:=by
 simp only [Lit.wf,zD,decide_eq_true_eq] at h;have h1:(0:Int)≤n:=h.1;have h2:n≤(255:Int):=h.2;simp [UInt8.toNat_ofNat'];omega
theorem row_rd {w:World} {a:Option Addr} {len cap:Nat} {zs:List Int} (h:xw .u8 w a len cap zs):∃ l:List UInt8,l.length=len∧Rd w a l∧len≤cap:=by
 rcases h with ⟨rfl,rfl,rfl,rfl⟩ | ⟨x,rfl,hl,hm,hz,hc,hw⟩
 · exact ⟨[],rfl,.inl rfl,yB _⟩
 · refine ⟨(zs.take len).map fun n=>UInt8.ofNat n.toNat,by simp;omega,?_,hl⟩
   by_cases h0:len=0
   · subst h0;exact .inl (by simp)
   · obtain ⟨b,off,spot⟩:=x
     have hc0:=hc 0 (by omega);have hspot:spot=none:=by simpa [Addr.add] using World.cell?_spot hc0
     subst hspot;refine .inr ⟨b,off,rfl,fun i hi=>?_⟩;simp at hi;have hadd:(⟨b,off,none⟩:Addr).add i=⟨b,off+i,none⟩:=by unfold Addr.add;split <;> simp_all
     have:=hc i (by omega);rw [hadd] at this;rw [this];have hlt:i<zs.length:=by omega
     have hv:=u8_of zs[i] (hw _ (List.getElem_mem hlt));simp only [List.getElem_map,List.getElem_take];rw [hv];simp [List.getD,hlt]
theorem yx {k:IntKind} {w:World} {a:Option Addr} {len cap:Nat} {zs:List Int} (h:xw k w a len cap zs):len≤9223372036854775807:=by
 rcases h with ⟨_,rfl,_,_⟩ | ⟨x,_,hl,hm,_⟩
 · omega
 · have h2:cap≤2 ^ 63 - 1:=hm
   omega
theorem ve {P:Program} {w:World} {base:Nat} {t e:TypeId} {a0:Option Addr} {len cap:Nat} (ht:P.underlying t=some (.slice e)) (h:Value.okWide P w .any base t (.slice a0 len cap)):∀ a,a0=some a→a.block<w.heap.size:=by
 rintro a rfl;simp only [Value.okWide,ht,Cell.okWide,Cell.ok] at h;obtain ⟨_,_,_,_,row,cells,hs,_⟩:=h;unfold World.shape? at hs;refine Nat.lt_of_not_le fun hle=>?_
 rw [Array.getElem?_eq_none hle] at hs;cases hs
end Go.Proofs.YtcaicgipibcicaaGreat
