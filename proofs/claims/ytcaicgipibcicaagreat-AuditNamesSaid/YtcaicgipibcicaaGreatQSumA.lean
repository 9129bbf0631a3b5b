/- Numbers and things read from bytes, as plain functions. No program in sight. -/
import Derived.Test.YtcaicgipibcicaaGreatQHeldTail
import Derived.Test.YtcaicgipibcicaaGreatQApp2
import Derived.StillTailTactics
import Derived.Test.YtcaicgipibcicaaGreatQLoadE
import Derived.Test.YtcaicgipibcicaaGreatQApp
import Derived.Test.YtcaicgipibcicaaGreatQGraphE
import Derived.WalkMore
import Derived.Deep.RegionHeld3
import Derived.BigQuiet
import Derived.Deep.MidRow
import Derived.Test.YtcaicgipibcicaaGreatQMem
import Derived.Test.YtcaicgipibcicaaGreatProg
import Derived.Lib.Hide
import Derived.Deep.LoopGhost
set_option maxRecDepth 100000
set_option maxHeartbeats 16000000
set_option linter.unusedSimpArgs false
set_option linter.unusedVariables false
open Bool renaming and_eq_true→xn
open Go renaming bodyPost_end→wR,bodyPost_ret→xe,cell_of_row→wG,heap_alloc_new→wF,lt_of_block→wJ
open Go.Lib renaming hid→wB
open Go.RowKit.Below renaming refl→wI
open Go.World renaming block_lt_of_cell?→wK
open Int renaming toNat_natCast→xM
open List renaming append_assoc→wP,getElem?_eq_getElem→wE,getElem?_eq_some_iff→wD,length_append→wH,length_cons→wY,length_nil→xh,length_take→wV,mem_of_getElem?→wM,mem_of_mem_take→xN,setIfInBounds_toArray→wU,take_of_length_le→xl,take_succ_eq_append_getElem→xp
open Nat renaming le_refl→wC,le_trans→xc,lt_succ_iff_lt_or_eq→xy,zero_add→wL,zero_le→xd
open Option renaming bind_some→wQ
open Option.some renaming injEq→xb
open Prod.mk renaming injEq→xq
namespace Go.Proofs.YtcaicgipibcicaaGreat
open Go.RowKit
def Byt (l:List Int):Prop:=∀ x ∈ l,0≤x∧x≤255
theorem Byt.tail {b:Int} {l:List Int} (h:Byt (b::l)):Byt l:=fun x hx=>h x (List.mem_cons_of_mem _ hx)
theorem Byt.head {b:Int} {l:List Int} (h:Byt (b::l)):0≤b∧b≤255:=h b List.mem_cons_self
theorem Byt.drop {l:List Int} (h:Byt l) (n:Nat):Byt (l.drop n):=fun x hx=>h x (List.mem_of_mem_drop hx)
theorem Byt.take {l:List Int} (h:Byt l) (n:Nat):Byt (l.take n):=fun x hx=>h x (xN hx)
abbrev aW (α:Type):=List Int→Option (α × List Int)
def bK (k:Nat):aW (List Int):=fun l=>if l.length<k then none else some (l.take k,l.drop k)
def ff:aW Int
 | []=>none
 | b::r=>some (b,r)
def dI:Nat→Nat→List Int→Option (Nat × List Int)
 | _,_,[]=>none
 | i,n,b::r=>if (i=9∧1<b)∨(0<i∧b=0) then none else if b<128 then some (n+128 ^ i*(b.toNat % 128),r) else dI (i+1) (n+128 ^ i*(b.toNat % 128)) r
def il:aW Nat:=dI 0 0
def cz (most:Nat):aW Int:=fun l=>match il l with
 | none=>none
 | some (n,r)=>if n≤most then some ((n:Int),r) else none
def iu (n:Nat):Int:=if n % 2=0 then ((n / 2:Nat):Int) else -((n / 2:Nat):Int) - 1
def eT:aW Int:=fun l=>(il l).map fun x=>(iu x.1,x.2)
def cJ (a b:Int):Int:=if a*256+b<32768 then a*256+b else a*256+b - 65536
def dg:aW (Int × Int)
 | a::b::c::d::r=>some ((cJ a b,cJ c d),r)
 | _=>none
def ft {α β γ:Type} (f:α→β→γ) (p:aW α) (q:aW β):aW γ:=fun l=>(p l).bind fun x=>(q x.2).map fun y=>(f x.1 y.1,y.2)
def dm {α:Type} (p:aW α):Nat→aW (List α)
 | 0=>fun l=>some ([],l)
 | k+1=>fun l=>(dm p k l).bind fun x=>(p x.2).map fun y=>(x.1++[y.1],y.2)
def dJ {α:Type} (most:Nat) (p:aW α):aW (List α):=fun l=>(cz most l).bind fun x=>dm p x.1.toNat x.2
theorem tg:∀ (l:List Int) (i n m:Nat) (r:List Int),Byt l→dI i n l=some (m,r)→Byt r∧r.length<l.length:=by
 intro l
 induction l with
 | nil=>intro i n m r _ h;simp [dI] at h
 | cons b l ih=>
   intro i n m r hb h;unfold dI at h;split at h
   · cases h
   · split at h
     · simp only [xb,xq] at h
       obtain ⟨_,rfl⟩:=h;exact ⟨hb.tail,by simp⟩
     · obtain ⟨h1,h2⟩:=ih _ _ _ _ hb.tail h
       exact ⟨h1,by simp only [wY];omega⟩
theorem vb:∀ (l:List Int) (i n m:Nat) (r:List Int),Byt l→i≤9→n<128 ^ i→dI i n l=some (m,r)→m<18446744073709551616:=by
 intro l
 induction l with
 | nil=>intro i n m r _ _ _ h;simp [dI] at h
 | cons b l ih=>
   intro i n m r hb hi hn h;obtain ⟨b1,b2⟩:=hb.head;unfold dI at h;split at h
   · cases h
   · rename_i hno
     have hpow:128 ^ (i+1)=128 ^ i*128:=Nat.pow_succ 128 i;have hle:128 ^ i*(b.toNat % 128)≤128 ^ i*127:=Nat.mul_le_mul_left _ (by omega)
     have hlt:n+128 ^ i*(b.toNat % 128)<128 ^ (i+1):=by
      rw [hpow];have:128 ^ i*128=128 ^ i*127+128 ^ i:=by rw [←Nat.mul_succ]
      omega
     split at h
     · simp only [xb,xq] at h
       obtain ⟨rfl,_⟩:=h;by_cases h9:i=9
       · subst h9
         have:b.toNat % 128≤1:=by
          have:¬ 1<b:=fun hx=>hno (.inl ⟨rfl,hx⟩)
          omega
         have hp:(128:Nat) ^ 9=9223372036854775808:=by decide
         rw [hp] at hn ⊢;have:9223372036854775808*(b.toNat % 128)≤9223372036854775808*1:=Nat.mul_le_mul_left _ this;omega
       · have:128 ^ (i+1)≤128 ^ 9:=Nat.pow_le_pow_right (by omega) (by omega)
         have hp:(128:Nat) ^ 9=9223372036854775808:=by decide
         omega
     · rename_i hb128
       by_cases h9:i=9
       · exact absurd (.inl ⟨h9,by omega⟩) hno
       · exact ih _ _ _ _ hb.tail (by omega) hlt h
theorem rJ {l r:List Int} {m:Nat} (hb:Byt l) (h:il l=some (m,r)):m<18446744073709551616:=vb l 0 0 m r hb (by omega) (by decide) h
theorem mb {l r:List Int} {m:Nat} (hb:Byt l) (h:il l=some (m,r)):Byt r∧r.length<l.length:=tg l 0 0 m r hb h
theorem wq {most:Nat} {l r:List Int} {x:Int} (hb:Byt l) (hm:most≤9223372036854775807) (h:cz most l=some (x,r)):0≤x∧x≤most∧Byt r∧r.length<l.length:=by
 unfold cz at h;split at h
 · cases h
 · rename_i n r' hv
   split at h
   · rename_i hle
     simp only [xb,xq] at h;obtain ⟨rfl,rfl⟩:=h;have:=mb hb hv;exact ⟨by omega,by omega,this⟩
   · cases h
theorem vc {n:Nat} (h:n<18446744073709551616):ar (iu n):=by
 unfold iu ar;split <;> omega
def Step {α:Type} (p:aW α) (s s':Option (List Int)) (v:α):Prop:=s'=(s.bind p).map (·.2)∧∀ x l,s.bind p=some (x,l)→v=x
theorem Step.seq {α β γ:Type} {f:α→β→γ} {p:aW α} {q:aW β} {s s1 s2:Option (List Int)} {a:α} {b:β} (h1:Step p s s1 a) (h2:Step q s1 s2 b):Step (ft f p q) s s2 (f a b):=by
 obtain ⟨e1,v1⟩:=h1;obtain ⟨e2,v2⟩:=h2;cases s with
 | none=>subst e1;subst e2;exact ⟨rfl,fun x l h=>by simp at h⟩
 | some l=>
   simp only [wQ] at e1 v1;cases hp:p l with
   | none=>
     rw [hp] at e1;subst e1;subst e2;refine ⟨?_,fun x l' h=>?_⟩
     · simp [ft,hp]
     · simp [ft,hp] at h
   | some y=>
     obtain ⟨x,l1⟩:=y;rw [hp] at e1;have ha:a=x:=v1 x l1 hp;subst e1;simp only [Option.map_some,wQ] at e2 v2;cases hq:q l1 with
     | none=>
       rw [hq] at e2;subst e2;refine ⟨?_,fun x l' h=>?_⟩
       · simp [ft,hp,hq]
       · simp [ft,hp,hq] at h
     | some z=>
       obtain ⟨y,l2⟩:=z;rw [hq] at e2;have hb:b=y:=v2 y l2 hq;subst e2 ha hb;refine ⟨?_,fun x l' h=>?_⟩
       · simp [ft,hp,hq]
       · simp [ft,hp,hq] at h
         exact h.1
theorem Step.none {α:Type} (p:aW α) (v:α):Step p none none v:=⟨rfl,fun x l h=>by cases h⟩
theorem Step.fail {α:Type} {p:aW α} {l:List Int} (h:p l=Option.none) (v:α):Step p (some l) Option.none v:=⟨by simp [h],fun x l' hx=>by simp [h] at hx⟩
theorem Step.some {α:Type} {p:aW α} {l l':List Int} {x:α} (h:p l=Option.some (x,l')):Step p (Option.some l) (Option.some l') x:=⟨by simp [h],fun y l2 hy=>by simp [h] at hy;exact hy.1⟩
theorem Step.map {α β:Type} {p:aW α} {s s':Option (List Int)} {v:α} (h:Step p s s' v) (g:α→β) (q:aW β) (hq:∀ l,q l=(p l).map fun x=>(g x.1,x.2)):Step q s s' (g v):=by
 obtain ⟨h1,h2⟩:=h;cases s with
 | none=>subst h1;exact Step.none _ _
 | some l=>
   simp only [wQ] at h1 h2;cases hp:p l with
   | none=>rw [hp] at h1;subst h1;exact Step.fail (by rw [hq,hp];rfl) _
   | some y=>
     obtain ⟨x,l1⟩:=y;rw [hp] at h1;have:=h2 x l1 hp;subst h1 this;exact Step.some (by rw [hq,hp];rfl)
theorem Step.rep0 {α:Type} (p:aW α) (s:Option (List Int)):Step (dm p 0) s s []:=by
 cases s with
 | none=>exact Step.none _ _
 | some l=>exact Step.some rfl
theorem Step.rep1 {α:Type} {p:aW α} {k:Nat} {s s1 s2:Option (List Int)} {xs:List α} {x:α} (h1:Step (dm p k) s s1 xs) (h2:Step p s1 s2 x):Step (dm p (k+1)) s s2 (xs++[x]):=
 Step.seq (f:=fun xs x=>xs++[x]) h1 h2
theorem vd {α:Type} {p:aW α} {l:List Int} {k:Nat} (h:dm p k l=Option.none):∀ d,dm p (k+d) l=Option.none:=by
 intro d
 induction d with
 | zero=>exact h
 | succ d ih=>rw [show k+(d+1)=(k+d)+1 by omega];simp [dm,ih]
theorem Step.repFail {α:Type} {p:aW α} {k n:Nat} {s:Option (List Int)} {xs:List α} (h:Step (dm p k) s Option.none xs) (hk:k≤n) (ys:List α):Step (dm p n) s Option.none ys:=by
 cases s with
 | none=>exact Step.none _ _
 | some l=>
   have h1:=h.1;simp only [wQ] at h1;refine Step.fail ?_ _
   have:dm p k l=Option.none:=by
    cases hr:dm p k l with
    | none=>rfl
    | some y=>rw [hr] at h1;cases h1
   have:=vd this (n - k);rwa [show k+(n - k)=n by omega] at this
end Go.Proofs.YtcaicgipibcicaaGreat
namespace Go.Proofs.YtcaicgipibcicaaGreat
open Go.RowKit Go.Sort
def ah (n:Int):List Value:=[.int .u8 n]
theorem dC (n:Int):(ah n).length=1:=rfl
theorem eE (n:Int):∀ u ∈ ah n,u.oneCell'=true:=by
 intro u hu;simp only [ah,List.mem_cons,List.not_mem_nil,or_false] at hu;subst hu;rfl
theorem aI (l:List Int):(cellsOf ah l).length=l.length:=by rw [cellsOf_length _ 1 dC];omega
structure W1 (w:World) (WB:Nat) (sv:Value) (l:List Int):Prop where
 box:w.heap[WB]?=some (.cells #[sv,.bool true] 193 (0,0))
 own:Own w 1 sv l.length (cellsOf ah l)
 ne:sv.ownBlock≠some WB
def Wrote (w:World) (WB:Nat) (sv:Value) (l:List Int) (w':World):Prop:=
 ∃ sv',W1 w' WB sv' l∧Keep (fun k=>k=WB∨sv.ownBlock=some k) w w'∧∀ g,sv'.ownBlock=some g→sv.ownBlock=some g∨w.heap.size≤g
theorem W1.keep {w w':World} {WB:Nat} {sv:Value} {l:List Int} (h:W1 w WB sv l) {X:Nat→Prop} (hk:Keep X w w') (h1:¬ X WB) (h2:∀ g,sv.ownBlock=some g→¬ X g):W1 w' WB sv l:=
 ⟨hk.old h.box h1,h.own.keep hk h2,h.ne⟩
theorem W1.alloc {w:World} {WB:Nat} {sv:Value} {l:List Int} (h:W1 w WB sv l) (o:Obj):W1 (w.alloc o) WB sv l:=h.keep (Keep.alloc (fun _=>False) w o) id (fun _ _=>id)
theorem W1.cells {w:World} {WB:Nat} {sv:Value} {l:List Int} (h:W1 w WB sv l):w.cell? ⟨WB,0,none⟩=some sv∧w.cell? ⟨WB,1,none⟩=some (.bool true):=by
 refine ⟨?_,?_⟩ <;> rw [wG w WB _ _ _ (0,0) h.box] <;> rfl
theorem Wrote.after {w wa w':World} {WB:Nat} {sv:Value} {l:List Int} (hk:Keep (fun _=>False) w wa) (h:Wrote wa WB sv l w'):Wrote w WB sv l w':=by
 obtain ⟨sv',h1,h2,h3⟩:=h;exact ⟨sv',h1,hk.trans h2 (fun _ _ h=>h.elim) (fun _ _ h=>h),fun g hg=>(h3 g hg).imp id (fun h=>xc hk.size h)⟩
theorem Wrote.then {w w1 w2:World} {WB:Nat} {sv:Value} {l1 l2:List Int} (h:Wrote w WB sv l1 w1) (h2:∀ sv',W1 w1 WB sv' l1→Wrote w1 WB sv' l2 w2):Wrote w WB sv l2 w2:=by
 obtain ⟨sv1,a1,a2,a3⟩:=h;obtain ⟨sv2,b1,b2,b3⟩:=h2 sv1 a1;refine ⟨sv2,b1,a2.trans b2 (fun _ _ h=>h) (fun k hk h=>?_),fun g hg=>?_⟩
 · rcases h with h | h
   · exact .inl h
   · rcases a3 k h with h | h
     · exact .inr h
     · omega
 · rcases b3 g hg with h | h
   · exact a3 g h
   · exact .inr (xc a2.size h)
theorem Wrote.step {w w1 w2:World} {WB:Nat} {sv sv1:Value} {l2:List Int} (a2:Keep (fun k=>k=WB∨sv.ownBlock=some k) w w1) (a3:∀ g,sv1.ownBlock=some g→sv.ownBlock=some g∨w.heap.size≤g) (h:Wrote w1 WB sv1 l2 w2):Wrote w WB sv l2 w2:=by
 obtain ⟨sv2,b1,b2,b3⟩:=h;refine ⟨sv2,b1,a2.trans b2 (fun _ _ h=>h) (fun k hk h=>?_),fun g hg=>?_⟩
 · rcases h with h | h
   · exact .inl h
   · rcases a3 k h with h | h
     · exact .inr h
     · omega
 · rcases b3 g hg with h | h
   · exact a3 g h
   · exact .inr (xc a2.size h)
theorem Wrote.nil {w:World} {WB:Nat} {sv:Value} {l:List Int} (h:W1 w WB sv l):Wrote w WB sv l w:=⟨sv,h,Keep.refl _ _,fun g hg=>.inl hg⟩
theorem put_any (w:World) (WB:Nat) (sv:Value) (l m:List Int) (h:W1 w WB sv l) (b o c n:Nat) (hn:m.length=n) (h0:0<n) (hr:∀ j u,(cellsOf ah m)[j]?=some u→w.cell? ⟨b,o+j,none⟩=some u) (hl:l.length+n≤1073741824) :
 Calls Tryz.prog 160 #[.pointer (some ⟨WB,0,none⟩),.slice (some ⟨b,o,none⟩) n c] w fun e w'=>e = .returned (.tuple #[])∧Wrote w WB sv (l++m) w':=by
 have H:=wB h;have HM:=wB hr;have HN:=wB hn;obtain ⟨s0,s1⟩:=h.cells;clear h hr hn;obtain ⟨i5,hi,hz0,hz1,hz2⟩:=dF (show (Tryz.prog.info? 5).map (fun i=>(i.zero,i.size,i.bytes))=some (some (.int .u8 0),1,1) by kernel_rfl);go_enter Tryz.func160,Tryz.ntmps160
 go_wp2_with (at_builtin;refine bE rfl (.tmp 16) (.tmp 17) 59 59 rfl 5 i5 (.int .u8 0) 1 1 Tryz.underlying59 hi hz0 hz1 hz2 rfl sv l.length (cellsOf ah l) rfl H.out.own (.slice (some ⟨b,o,none⟩) n c) n (cellsOf ah m) rfl (Src.ofSlice (P:=Tryz.prog) w Tryz.underlying59 _ _ c (cellsOf ah m) (by rw [aI,HN.out];omega) (fun j u hu=>by have hadd:(⟨b,o,none⟩:Addr).add j=⟨b,o+j,none⟩:=by { unfold Addr.add;split <;> simp_all };rw [hadd];exact HM.out j u hu) (di ah eE m)) (.inl (by omega)) (by unfold maxLen;omega) (by omega) ?_)
 intro g cap w1 hown hk hb;have HO:=wB hown;have HK:=wB hk;have HB:=wB hb;have hbox:=hk.old H.out.box (fun he=>H.out.ne he);have HBX:=wB hbox;have q0:w1.cell? ⟨WB,0,none⟩=some sv:=by rw [wG w1 WB _ _ _ (0,0) hbox];rfl
 have qf:=frozen_of_row w1 WB 0 _ _ hbox;clear hown hk hb hbox
 have HE:=wB (show Wrote w WB sv (l++m) (w1.setCell ⟨WB,0,none⟩ (.slice (some ⟨g,0,none⟩) (l.length+n) cap)) from by
  have hWB:WB<w.heap.size:=wJ H.out.box
  have hne:g≠WB:=by
   intro he;subst he;rcases HB.out with h | h
   · exact H.out.ne h
   · omega
  refine ⟨.slice (some ⟨g,0,none⟩) (l.length+n) cap,⟨ae HBX.out 0 _,?_,?_⟩,?_,?_⟩
  · have:=HO.out.keep (Keep.setCell w1 WB 0 (.slice (some ⟨g,0,none⟩) (l.length+n) cap)) (fun g' hg' he=>by simp [Value.ownBlock] at hg';omega)
    rw [wH,HN.out]
    simpa [cellsOf] using this
  · simp [Value.ownBlock];exact hne
  · exact HK.out.trans (Keep.setCell w1 WB 0 _) (fun _ _ h=>.inr h) (fun _ _ h=>.inl h)
  · intro g' hg'
    simp [Value.ownBlock] at hg';subst hg';exact HB.out)
 go_wp2_with fail
 exact wR (v:=.tuple #[]) (by simp [results,Tryz.results160,go_sem]) rfl ⟨rfl,HE.out⟩
def aO (n:Nat):List Int:=if h:n≤127 then [(n:Int)] else bits .or .u8 ((n:Int) % 256) 128::aO (n / 128)
termination_by n
decreasing_by omega
theorem dh {n:Nat} (h:n≤127):aO n=[(n:Int)]:=by rw [aO,dif_pos h]
theorem fJ {n:Nat} (h:¬ n≤127):aO n=bits .or .u8 ((n:Int) % 256) 128::aO (n / 128):=by rw [aO,dif_neg h]
theorem pH:∀ (j n:Nat),n<128 ^ (j+1)→(aO n).length≤j+1
 | 0,n,h=>by rw [dh (by simpa using Nat.le_of_lt_succ h)];simp
 | j+1,n,h=>by
   by_cases h1:n≤127
   · rw [dh h1];simp
   · rw [fJ h1]
     have:=pH j (n / 128) (by rw [Nat.div_lt_iff_lt_mul (by omega)];rw [Nat.pow_succ] at h;exact h);simp;omega
theorem dD {n:Nat} (h:n<18446744073709551616):(aO n).length≤10:=pH 9 n (by omega)
theorem byte_at (w:World) (x:Int):∀ j u,(cellsOf ah [x])[j]?=some u→(w.alloc (.cells #[.int .u8 x] 5)).cell? ⟨w.heap.size,0+j,none⟩=some u:=by
 intro j u hu;rw [wL,wG _ _ _ _ _ (0,0) (wF w (.cells #[.int .u8 x] 5))];cases j with
 | zero=>simpa [cellsOf,ah] using hu
 | succ j=>simp [cellsOf,ah] at hu
theorem rK (w:World) (WB:Nat) (sv:Value) (l:List Int) (h:W1 w WB sv l) (n:Nat) (hn:n<18446744073709551616) (hl:l.length≤1000000000) :
 Calls Tryz.prog 158 #[.pointer (some ⟨WB,0,none⟩),.int .u64 n] w fun e w'=>e = .returned (.tuple #[])∧Wrote w WB sv (l++aO n) w':=by
 have H:=wB h;clear h;go_enter Tryz.func158,Tryz.ntmps158
 go_wp2_with fail
 go_loopw [1] (fun a wr=>Hid (∃ (k:Nat) (d:List Int),a = .int .u64 k∧d++aO k=aO n∧k<18446744073709551616∧Wrote w WB sv (l++d) wr)) (fun a _=>(intOf a).toNat)
 case atStart=>exact wB ⟨n,[],rfl,rfl,hn,by rw [List.append_nil];exact Wrote.nil H.out⟩
 case round=>
  obtain ⟨k,d,rfl,hd,hk,hw⟩:=hrel.out;clear hrel;have HW:=wB hw;have HD:=wB hd;clear hw hd
  have HL:=wB (show (l++d).length+1≤1000000011 by
   have h1:=dD hn;rw [←HD.out,wH] at h1;have h2:0<(aO k).length:=by by_cases hk:k≤127 <;> simp [dh,fJ,hk]
   rw [wH];omega)
  obtain ⟨sv1,hw1,hk1,hn1⟩:=HW.out;have H1:=wB hw1
  have HWN:=wB (fun (x:Int) (w2:World) (h2:Wrote (wr.alloc (.cells #[.int .u8 x] 5)) WB sv1 (l++d++[x]) w2)=>show Wrote w WB sv (l++(d++[x])) w2 from by
   rw [←wP];exact Wrote.step hk1 hn1 (Wrote.after (Keep.alloc _ _ _) h2))
  clear hw1 hk1 hn1;by_cases h1:k≤127
  · go_wp2_with fail
    refine (put_any (wr.alloc (.cells #[.int .u8 k] 5)) WB sv1 (l++d) [(k:Int)] (H1.out.alloc _) wr.heap.size 0 1 1 rfl (by omega) (byte_at wr k) (by have:=HL.out;omega)).mono ?_;rintro e w2 ⟨rfl,hb2⟩
    have HE:=wB (show Wrote w WB sv (l++aO n) w2 from by
     have h3:=HWN.out _ _ hb2;rw [←HD.out,dh h1];exact h3)
    go_wp2_with fail
    exact wR (v:=.tuple #[]) (by simp [results,Tryz.results158,go_sem]) rfl ⟨rfl,HE.out⟩
  · go_wp2_with fail
    have HV:=wB (fJ h1);generalize bits .or .u8 ((k:Int) % 256) 128=x at *;refine (put_any (wr.alloc (.cells #[.int .u8 x] 5)) WB sv1 (l++d) [x] (H1.out.alloc _) wr.heap.size 0 1 1 rfl (by omega) (byte_at wr x) (by have:=HL.out;omega)).mono ?_;rintro e w2 ⟨rfl,hb2⟩;have HE:=wB (HWN.out _ _ hb2);go_wp2_with fail
    go_roundw
    case rel=>exact wB ⟨k / 128,d++[x],by go_num,by rw [wP,←HD.out,HV.out];rfl,by omega,HE.out⟩
    case measure=>simp [intOf];omega
theorem ve (w:World) (l:List Int) (cs:Array Value) (t:TypeId) (h:cs=(cellsOf ah l).toArray):∀ j u,(cellsOf ah l)[j]?=some u→(w.alloc (.cells cs t)).cell? ⟨w.heap.size,0+j,none⟩=some u:=by
 intro j u hu;rw [wL,wG _ _ _ _ _ (0,0) (wF w (.cells cs t)),h]
 simpa using hu
def zzN (n:Int):Nat:=(IntKind.u64.wrap (IntKind.u64.wrap n*2)).toNat ^^^ (IntKind.u64.wrap (n / 9223372036854775808)).toNat
theorem ie (n:Int):0≤IntKind.u64.wrap n∧IntKind.u64.wrap n<18446744073709551616:=by rw [IntKind.wrap_u64];omega
theorem zzN_eq (n:Int):bits .xor .u64 (IntKind.u64.wrap (IntKind.u64.wrap n*2)) (IntKind.u64.wrap (n / 9223372036854775808))=(zzN n:Int):=
 u64_xor _ _ (ie _).1 (ie _).2 (ie _).1 (ie _).2
theorem vg (n:Int):zzN n<18446744073709551616:=by
 have h1:=ie (IntKind.u64.wrap n*2);have h2:=ie (n / 9223372036854775808);exact Nat.xor_lt_two_pow (n:=64) (by omega) (by omega)
def cY (n:Int):List Int:=aO (zzN n)
theorem ee (n:Int):(cY n).length≤10:=dD (vg n)
def aU (x y:Int):List Int:=[IntKind.u16.wrap x / 256 % 256,IntKind.u16.wrap x % 256,IntKind.u16.wrap y / 256 % 256,IntKind.u16.wrap y % 256]
theorem wu (w:World) (WB:Nat) (sv:Value) (l:List Int) (h:W1 w WB sv l) (n:Int) (hn:ar n) (hl:l.length≤1000000000) :
 Calls Tryz.prog 215 #[.pointer (some ⟨WB,0,none⟩),.int .i64 n] w fun e w'=>e = .returned (.tuple #[])∧Wrote w WB sv (l++cY n) w':=by
 have H:=wB h;obtain ⟨n1,n2⟩:=hn;clear h;go_enter Tryz.func215,Tryz.ntmps215
 go_wp2_with fail
 rw [zzN_eq];refine (rK w WB sv l H.out (zzN n) (vg n) hl).mono ?_;rintro e w2 ⟨rfl,hb2⟩;have HE:=wB hb2;clear hb2;go_wp2_with fail
 exact wR (v:=.tuple #[]) (by simp [results,Tryz.results215,go_sem]) rfl ⟨rfl,HE.out⟩
theorem th (w:World) (WB:Nat) (sv:Value) (l:List Int) (h:W1 w WB sv l) (x y:Int) (hx:aY x) (hy:aY y) (hl:l.length≤1000000000) :
 Calls Tryz.prog 211 #[.pointer (some ⟨WB,0,none⟩),.agg #[.int .i16 x,.int .i16 y]] w fun e w'=>e = .returned (.tuple #[])∧Wrote w WB sv (l++aU x y) w':=by
 have H:=wB h;obtain ⟨n1,n2⟩:=hx;obtain ⟨n3,n4⟩:=hy;clear h;go_enter Tryz.func211,Tryz.ntmps211
 go_wp2_with fail
 go_quiet (fail)
 go_wp2_with fail
 have HS:=wB (show ((w.alloc (.cells #[.int .i16 x,.int .i16 y] 75)).drewN nq).heap.size=w.heap.size+1 from (show (w.alloc (.cells #[.int .i16 x,.int .i16 y] 75)).heap.size=w.heap.size+1 by simp));have HK:=wB (show Keep (fun _=>False) w ((w.alloc (.cells #[.int .i16 x,.int .i16 y] 75)).drewN nq) from (Keep.alloc (fun _=>False) w (.cells #[.int .i16 x,.int .i16 y] 75)).trans (Y:=fun _=>False) ⟨rfl,rfl,rfl,wC _,fun _ _ _=>rfl⟩ (fun _ _ h=>h) (fun _ _ h=>h));rw [←HS.out];generalize (w.alloc (.cells #[.int .i16 x,.int .i16 y] 75)).drewN nq=wa at *;refine (put_any (wa.alloc (.cells #[.int .u8 (IntKind.u16.wrap x / 256 % 256),.int .u8 (IntKind.u16.wrap x % 256),.int .u8 (IntKind.u16.wrap y / 256 % 256),.int .u8 (IntKind.u16.wrap y % 256)] 5)) WB sv l (aU x y) ((H.out.keep HK.out id (fun _ _=>id)).alloc _) wa.heap.size 0 4 4 rfl (by omega) (ve wa (aU x y) _ _ rfl) (by omega)).mono ?_;rintro e w2 ⟨rfl,hb2⟩;have HE:=wB (Wrote.after HK.out (Wrote.after (Keep.alloc _ _ _) hb2));clear hb2;go_wp2_with fail
 exact wR (v:=.tuple #[]) (by simp [results,Tryz.results211,go_sem]) rfl ⟨rfl,HE.out⟩
theorem wv (w:World) (WB:Nat) (sv:Value) (l:List Int) (h:W1 w WB sv l) (x0 x1 x2 x3 x4 x5 x6 x7:Int) (hl:l.length≤1000000000) :
 Calls Tryz.prog 209 #[.pointer (some ⟨WB,0,none⟩),.agg #[.int .u8 x0,.int .u8 x1,.int .u8 x2,.int .u8 x3,.int .u8 x4,.int .u8 x5,.int .u8 x6,.int .u8 x7]] w fun e w'=>e = .returned (.tuple #[])∧Wrote w WB sv (l++[x0,x1,x2,x3,x4,x5,x6,x7]) w':=by
 have H:=wB h;clear h;go_enter Tryz.func209,Tryz.ntmps209
 go_wp2_with fail
 refine (put_any (w.alloc (.cells #[.int .u8 x0,.int .u8 x1,.int .u8 x2,.int .u8 x3,.int .u8 x4,.int .u8 x5,.int .u8 x6,.int .u8 x7] 72)) WB sv l [x0,x1,x2,x3,x4,x5,x6,x7] (H.out.alloc _) w.heap.size 0 8 8 rfl (by omega) (ve w [x0,x1,x2,x3,x4,x5,x6,x7] _ _ rfl) (by omega)).mono ?_;rintro e w2 ⟨rfl,hb2⟩;have HE:=wB (Wrote.after (Keep.alloc _ _ _) hb2);clear hb2;go_wp2_with fail
 exact wR (v:=.tuple #[]) (by simp [results,Tryz.results209,go_sem]) rfl ⟨rfl,HE.out⟩
theorem vh (w:World) (WB:Nat) (sv:Value) (l:List Int) (h:W1 w WB sv l) (x:Int) (hl:l.length≤1000000000) :
 Calls Tryz.prog 213 #[.pointer (some ⟨WB,0,none⟩),.int .u8 x] w fun e w'=>e = .returned (.tuple #[])∧Wrote w WB sv (l++[x]) w':=by
 have H:=wB h;clear h;go_enter Tryz.func213,Tryz.ntmps213
 go_wp2_with fail
 refine (put_any (w.alloc (.cells #[.int .u8 x] 5)) WB sv l [x] (H.out.alloc _) w.heap.size 0 1 1 rfl (by omega) (byte_at w x) (by omega)).mono ?_;rintro e w2 ⟨rfl,hb2⟩;have HE:=wB (Wrote.after (Keep.alloc _ _ _) hb2);go_wp2_with fail
 exact wR (v:=.tuple #[]) (by simp [results,Tryz.results213,go_sem]) rfl ⟨rfl,HE.out⟩
structure Gt (wS:World) (GB WB:Nat) (sv:Value) (l:List Int) (w:World):Prop where
 gate:w.heap[GB]?=some (.cells #[.pointer (some ⟨WB,0,none⟩),.pointer none,.int .i64 0] 147 (0,0))
 w1:W1 w WB sv l
 gw:GB≠WB
 gs:sv.ownBlock≠some GB
 below:Below wS.heap.size wS w
 wb:wS.heap.size≤WB
 sb:∀ g,sv.ownBlock=some g→wS.heap.size≤g
def am (wS:World) (GB WB:Nat) (sv:Value) (l:List Int) (w w':World):Prop:=
 ∃ sv',Gt wS GB WB sv' l w'∧Keep (fun k=>k=WB∨sv.ownBlock=some k) w w'∧∀ g,sv'.ownBlock=some g→sv.ownBlock=some g∨w.heap.size≤g
theorem Gt.cells {wS:World} {GB WB:Nat} {sv:Value} {l:List Int} {w:World} (h:Gt wS GB WB sv l w):w.cell? ⟨GB,0,none⟩=some (.pointer (some ⟨WB,0,none⟩)):=by
 rw [wG w GB _ _ _ (0,0) h.gate];rfl
theorem Gt.keep {wS:World} {GB WB:Nat} {sv:Value} {l:List Int} {w w':World} (h:Gt wS GB WB sv l w) (hk:Keep (fun _=>False) w w'):Gt wS GB WB sv l w':=
 ⟨hk.old h.gate id,h.w1.keep hk id (fun _ _=>id),h.gw,h.gs,h.below.trans (hk.below h.below.size (fun _ _=>id)),h.wb,h.sb⟩
theorem Gt.alloc {wS:World} {GB WB:Nat} {sv:Value} {l:List Int} {w:World} (h:Gt wS GB WB sv l w) (o:Obj):Gt wS GB WB sv l (w.alloc o):=h.keep (Keep.alloc _ _ _)
theorem Gt.drew {wS:World} {GB WB:Nat} {sv:Value} {l:List Int} {w:World} (h:Gt wS GB WB sv l w):Gt wS GB WB sv l w.drew:=h.keep (Keep.drew _ _)
theorem Gt.write {wS:World} {GB WB:Nat} {sv:Value} {l l':List Int} {w w':World} (h:Gt wS GB WB sv l w) (hw:Wrote w WB sv l' w'):am wS GB WB sv l' w w':=by
 obtain ⟨sv',a1,a2,a3⟩:=hw;have hs:=h.below.size;refine ⟨sv',⟨a2.old h.gate (fun hx=>hx.elim h.gw h.gs),a1,h.gw,?_,h.below.trans (a2.below hs ?_),h.wb,?_⟩,a2,a3⟩
 · intro he
   rcases a3 _ he with h1 | h1
   · exact h.gs h1
   · have:=wJ h.gate;omega
 · rintro i hi (h1 | h1)
   · have:=h.wb;omega
   · have:=h.sb _ h1;omega
 · intro g hg
   rcases a3 _ hg with h1 | h1
   · exact h.sb _ h1
   · omega
theorem am.step {wS:World} {GB WB:Nat} {sv sv1:Value} {l2:List Int} {w w1 w2:World} (a2:Keep (fun k=>k=WB∨sv.ownBlock=some k) w w1) (a3:∀ g,sv1.ownBlock=some g→sv.ownBlock=some g∨w.heap.size≤g) (h:am wS GB WB sv1 l2 w1 w2):am wS GB WB sv l2 w w2:=by
 obtain ⟨sv2,b1,b2,b3⟩:=h;refine ⟨sv2,b1,a2.trans b2 (fun _ _ h=>h) (fun k hk h=>?_),fun g hg=>?_⟩
 · rcases h with h | h
   · exact .inl h
   · rcases a3 k h with h | h
     · exact .inr h
     · omega
 · rcases b3 g hg with h | h
   · exact a3 g h
   · exact .inr (xc a2.size h)
theorem am.after {wS:World} {GB WB:Nat} {sv:Value} {l2:List Int} {w w1 w2:World} (hk:Keep (fun _=>False) w w1) (h:am wS GB WB sv l2 w1 w2):am wS GB WB sv l2 w w2:=
 h.step (hk.mono (fun _ _ h=>h.elim)) (fun g hg=>.inl hg)
theorem am.nil {wS:World} {GB WB:Nat} {sv:Value} {l:List Int} {w:World} (h:Gt wS GB WB sv l w):am wS GB WB sv l w w:=⟨sv,h,Keep.refl _ _,fun g hg=>.inl hg⟩
def Free (sv:Value) (WB b:Nat):Prop:=b≠WB∧sv.ownBlock≠some b
theorem Free.next {sv sv':Value} {WB b:Nat} {w:World} (h:Free sv WB b) (hb:b<w.heap.size) (h3:∀ g,sv'.ownBlock=some g→sv.ownBlock=some g∨w.heap.size≤g):Free sv' WB b:=by
 refine ⟨h.1,fun he=>?_⟩;rcases h3 _ he with h1 | h1
 · exact h.2 h1
 · omega
theorem Free.new {wS:World} {GB WB:Nat} {sv:Value} {l:List Int} {w:World} (h:Gt wS GB WB sv l w) {b:Nat} (hb:w.heap.size≤b):Free sv WB b:=by
 refine ⟨fun he=>?_,fun he=>?_⟩
 · have:=wJ h.w1.box;omega
 · have:=h.w1.own.lt _ he;omega
theorem Free.not {sv:Value} {WB b:Nat} (h:Free sv WB b):¬ (b=WB∨sv.ownBlock=some b):=fun hx=>hx.elim h.1 h.2
theorem Free.old {wS:World} {GB WB:Nat} {sv:Value} {l:List Int} {w:World} (h:Gt wS GB WB sv l w) {b:Nat} (hb:b<wS.heap.size):Free sv WB b:=
 ⟨fun he=>by have:=h.wb;omega,fun he=>by have:=h.sb _ he;omega⟩
theorem ci (wS w:World) (GB WB:Nat) (sv:Value) (l:List Int) (h:Gt wS GB WB sv l w) (b o:Nat) (n mx:Int) (hp:w.cell? ⟨b,o,none⟩=some (.int .i64 n)) (h0:0≤n) (hn:ar n) (hl:l.length≤1000000000) :
 Calls Tryz.prog 122 #[.pointer (some ⟨GB,0,none⟩),.pointer (some ⟨b,o,none⟩),.int .i64 mx] w fun e w'=>e = .returned (.tuple #[])∧am wS GB WB sv (l++aO n.toNat) w w':=by
 have H:=wB h;have g0:=h.cells;obtain ⟨n1,n2⟩:=hn;obtain ⟨k,rfl⟩:∃ k:Nat,n=k:=⟨n.toNat,by omega⟩;clear h;go_enter Tryz.func122,Tryz.ntmps122
 go_wp2_with fail
 go_still_tail 8,(by kernel_rfl)
 change wpList _ _ _ _ _ w.drew
 have HD:=wB H.out.drew;go_wp2_with fail
 refine (rK w.drew WB sv l HD.out.w1 k (by omega) hl).mono ?_;rintro e w2 ⟨rfl,hb2⟩;have HE:=wB ((HD.out.write hb2).after (Keep.drew _ _));clear hb2;go_wp2_with fail
 exact xe (v:=.tuple #[]) (by simp [results,Tryz.results122,go_sem]) rfl ⟨rfl,HE.out⟩
theorem ig (wS w:World) (GB WB:Nat) (sv:Value) (l:List Int) (h:Gt wS GB WB sv l w) (b o:Nat) (n:Int) (hp:w.cell? ⟨b,o,none⟩=some (.int .i64 n)) (hn:ar n) (hl:l.length≤1000000000) :
 Calls Tryz.prog 189 #[.pointer (some ⟨GB,0,none⟩),.pointer (some ⟨b,o,none⟩)] w fun e w'=>e = .returned (.tuple #[])∧am wS GB WB sv (l++cY n) w w':=by
 have H:=wB h;have g0:=h.cells
 skip
 clear h;go_enter Tryz.func189,Tryz.ntmps189
 go_wp2_with fail
 go_still_tail 7,(by kernel_rfl)
 change wpList _ _ _ _ _ w.drew
 have HD:=wB H.out.drew;go_wp2_with fail
 refine (wu w.drew WB sv l HD.out.w1 n hn hl).mono ?_;rintro e w2 ⟨rfl,hb2⟩;have HE:=wB ((HD.out.write hb2).after (Keep.drew _ _));clear hb2;go_wp2_with fail
 exact wR (v:=.tuple #[]) (by simp [results,Tryz.results189,go_sem]) rfl ⟨rfl,HE.out⟩
theorem ii (wS w:World) (GB WB:Nat) (sv:Value) (l:List Int) (h:Gt wS GB WB sv l w) (b o:Nat) (n:Int) (hp:w.cell? ⟨b,o,none⟩=some (.int .u8 n)) (hl:l.length≤1000000000) :
 Calls Tryz.prog 188 #[.pointer (some ⟨GB,0,none⟩),.pointer (some ⟨b,o,none⟩)] w fun e w'=>e = .returned (.tuple #[])∧am wS GB WB sv (l++[n]) w w':=by
 have H:=wB h;have g0:=h.cells
 skip
 clear h;go_enter Tryz.func188,Tryz.ntmps188
 go_wp2_with fail
 go_still_tail 7,(by kernel_rfl)
 change wpList _ _ _ _ _ w.drew
 have HD:=wB H.out.drew;go_wp2_with fail
 refine (vh w.drew WB sv l HD.out.w1 n hl).mono ?_;rintro e w2 ⟨rfl,hb2⟩;have HE:=wB ((HD.out.write hb2).after (Keep.drew _ _));clear hb2;go_wp2_with fail
 exact wR (v:=.tuple #[]) (by simp [results,Tryz.results188,go_sem]) rfl ⟨rfl,HE.out⟩
theorem iO (wS w:World) (GB WB:Nat) (sv:Value) (l:List Int) (h:Gt wS GB WB sv l w) (b o:Nat) (x y:Int) (hp:w.cell? ⟨b,o,none⟩=some (.int .i16 x)∧w.cell? ⟨b,o+1,none⟩=some (.int .i16 y)) (hx:aY x) (hy:aY y) (hl:l.length≤1000000000) :
 Calls Tryz.prog 187 #[.pointer (some ⟨GB,0,none⟩),.pointer (some ⟨b,o,none⟩)] w fun e w'=>e = .returned (.tuple #[])∧am wS GB WB sv (l++aU x y) w w':=by
 have H:=wB h;have g0:=h.cells;obtain ⟨p0,p1⟩:=hp;clear h;go_enter Tryz.func187,Tryz.ntmps187
 go_wp2_with fail
 go_still_tail 7,(by kernel_rfl)
 change wpList _ _ _ _ _ w.drew
 have HD:=wB H.out.drew;go_wp2_with fail
 refine (th w.drew WB sv l HD.out.w1 x y hx hy hl).mono ?_;rintro e w2 ⟨rfl,hb2⟩;have HE:=wB ((HD.out.write hb2).after (Keep.drew _ _));clear hb2;go_wp2_with fail
 exact wR (v:=.tuple #[]) (by simp [results,Tryz.results187,go_sem]) rfl ⟨rfl,HE.out⟩
theorem rL (wS w:World) (GB WB:Nat) (sv:Value) (l:List Int) (h:Gt wS GB WB sv l w) (b o:Nat) (x0 x1 x2 x3 x4 x5 x6 x7:Int) (hp:w.cell? ⟨b,o,none⟩=some (.int .u8 x0)∧w.cell? ⟨b,o+1,none⟩=some (.int .u8 x1)∧w.cell? ⟨b,o+2,none⟩=some (.int .u8 x2)∧w.cell? ⟨b,o+3,none⟩=some (.int .u8 x3)∧w.cell? ⟨b,o+4,none⟩=some (.int .u8 x4)∧w.cell? ⟨b,o+5,none⟩=some (.int .u8 x5)∧w.cell? ⟨b,o+6,none⟩=some (.int .u8 x6)∧w.cell? ⟨b,o+7,none⟩=some (.int .u8 x7)) (hl:l.length≤1000000000) :
 Calls Tryz.prog 186 #[.pointer (some ⟨GB,0,none⟩),.pointer (some ⟨b,o,none⟩)] w fun e w'=>e = .returned (.tuple #[])∧am wS GB WB sv (l++[x0,x1,x2,x3,x4,x5,x6,x7]) w w':=by
 have H:=wB h;have g0:=h.cells;obtain ⟨p0,p1,p2,p3,p4,p5,p6,p7⟩:=hp;clear h;go_enter Tryz.func186,Tryz.ntmps186
 go_wp2_with fail
 go_still_tail 7,(by kernel_rfl)
 change wpList _ _ _ _ _ w.drew
 have HD:=wB H.out.drew;go_wp2_with fail
 refine (wv w.drew WB sv l HD.out.w1 x0 x1 x2 x3 x4 x5 x6 x7 hl).mono ?_;rintro e w2 ⟨rfl,hb2⟩;have HE:=wB ((HD.out.write hb2).after (Keep.drew _ _));clear hb2;go_wp2_with fail
 exact wR (v:=.tuple #[]) (by simp [results,Tryz.results186,go_sem]) rfl ⟨rfl,HE.out⟩
theorem al {w:World} {H:Nat} {v:Value} {t:TypeId} (h:w.heap[H]?=some (.cells #[v] t (0,0))):w.cell? ⟨H,0,none⟩=some v:=by
 rw [wG w H _ _ t (0,0) h];rfl
theorem mc (w:World) (p q:Value) (hp:∃ a,p = .pointer a) (hq:∃ a,q = .pointer a) :
 Calls Tryz.prog 185 #[p,q] w fun e w'=>e = .returned (.slice (some ⟨w.heap.size+1+1,0,none⟩) 7 7)∧w'=((w.alloc (.cells #[p] 142)).alloc (.cells #[q] 261)).alloc (.cells #[.func (.func 202) #[] #[.pointer (some ⟨w.heap.size,0,none⟩),.pointer (some ⟨w.heap.size+1,0,none⟩)],.func (.func 203) #[] #[.pointer (some ⟨w.heap.size,0,none⟩),.pointer (some ⟨w.heap.size+1,0,none⟩)],.func (.func 204) #[] #[.pointer (some ⟨w.heap.size,0,none⟩),.pointer (some ⟨w.heap.size+1,0,none⟩)],.func (.func 205) #[] #[.pointer (some ⟨w.heap.size,0,none⟩),.pointer (some ⟨w.heap.size+1,0,none⟩)],.func (.func 206) #[] #[.pointer (some ⟨w.heap.size,0,none⟩),.pointer (some ⟨w.heap.size+1,0,none⟩)],.func (.func 207) #[] #[.pointer (some ⟨w.heap.size,0,none⟩),.pointer (some ⟨w.heap.size+1,0,none⟩)],.func (.func 208) #[] #[.pointer (some ⟨w.heap.size,0,none⟩),.pointer (some ⟨w.heap.size+1,0,none⟩)]] 1):=by
 have hmf:∀ (fn:Fn) (first cap:Array Value) (w:World),(Instr.makeFunc fn first cap).run Tryz.prog w = .ok (.func fn first cap) w:=fun _ _ _ _=>rfl
 obtain ⟨p,rfl⟩:=hp;obtain ⟨q,rfl⟩:=hq;go_enter Tryz.func185,Tryz.ntmps185
 go_wp2_with fail
 go_ret
 exact ⟨rfl,rfl⟩
theorem rh (wS w:World) (GB WB:Nat) (sv:Value) (l:List Int) (h:Gt wS GB WB sv l w) (B0 B1 b o:Nat) (h0:w.heap[B0]?=some (.cells #[.pointer (some ⟨GB,0,none⟩)] 142 (0,0))) (h1:w.heap[B1]?=some (.cells #[.pointer (some ⟨b,o,none⟩)] 261 (0,0)))
 (x:aB) (hx:x.Ok) (hp:∀ j u,x.cells[j]?=some u→w.cell? ⟨b,o+j,none⟩=some u) (hl:l.length≤1000000000) :
 Calls Tryz.prog 202 #[.pointer (some ⟨B0,0,none⟩),.pointer (some ⟨B1,0,none⟩)] w fun e w'=>e = .returned (.tuple #[])∧am wS GB WB sv (l++[x.i0,x.i1,x.i2,x.i3,x.i4,x.i5,x.i6,x.i7]) w w':=by
 have H:=wB h;have HP:=wB hp;have HX:=wB hx;have p0:=al h0;have p1:=al h1;clear h h0 h1 hp hx;go_enter Tryz.func202,Tryz.ntmps202
 go_still_tail 4,(by kernel_rfl)
 change wpList _ _ _ _ _ w.drew
 have HD:=wB H.out.drew;go_wp2_with fail
 refine (rL wS w.drew GB WB sv l HD.out b o x.i0 x.i1 x.i2 x.i3 x.i4 x.i5 x.i6 x.i7 ⟨(HP.out 0 _ rfl),(HP.out 1 _ rfl),(HP.out 2 _ rfl),(HP.out 3 _ rfl),(HP.out 4 _ rfl),(HP.out 5 _ rfl),(HP.out 6 _ rfl),(HP.out 7 _ rfl)⟩ hl).mono ?_;rintro e w2 ⟨rfl,hb2⟩;have HE:=wB (hb2.after (Keep.drew _ _));clear hb2;go_wp2_with fail
 exact wR (v:=.tuple #[]) (by simp [results,Tryz.results202,go_sem]) rfl ⟨rfl,HE.out⟩
theorem ri (wS w:World) (GB WB:Nat) (sv:Value) (l:List Int) (h:Gt wS GB WB sv l w) (B0 B1 b o:Nat) (h0:w.heap[B0]?=some (.cells #[.pointer (some ⟨GB,0,none⟩)] 142 (0,0))) (h1:w.heap[B1]?=some (.cells #[.pointer (some ⟨b,o,none⟩)] 261 (0,0)))
 (x:aB) (hx:x.Ok) (hp:∀ j u,x.cells[j]?=some u→w.cell? ⟨b,o+j,none⟩=some u) (hl:l.length≤1000000000) :
 Calls Tryz.prog 203 #[.pointer (some ⟨B0,0,none⟩),.pointer (some ⟨B1,0,none⟩)] w fun e w'=>e = .returned (.tuple #[])∧am wS GB WB sv (l++aU x.fx x.fy) w w':=by
 have H:=wB h;have HP:=wB hp;have HX:=wB hx;have p0:=al h0;have p1:=al h1;clear h h0 h1 hp hx;go_enter Tryz.func203,Tryz.ntmps203
 go_still_tail 4,(by kernel_rfl)
 change wpList _ _ _ _ _ w.drew
 have HD:=wB H.out.drew;go_wp2_with fail
 refine (iO wS w.drew GB WB sv l HD.out b (o+8) x.fx x.fy ⟨(HP.out 8 _ rfl),(HP.out 9 _ rfl)⟩ HX.out.from_.1 HX.out.from_.2 hl).mono ?_;rintro e w2 ⟨rfl,hb2⟩;have HE:=wB (hb2.after (Keep.drew _ _));clear hb2;go_wp2_with fail
 exact wR (v:=.tuple #[]) (by simp [results,Tryz.results203,go_sem]) rfl ⟨rfl,HE.out⟩
theorem rj (wS w:World) (GB WB:Nat) (sv:Value) (l:List Int) (h:Gt wS GB WB sv l w) (B0 B1 b o:Nat) (h0:w.heap[B0]?=some (.cells #[.pointer (some ⟨GB,0,none⟩)] 142 (0,0))) (h1:w.heap[B1]?=some (.cells #[.pointer (some ⟨b,o,none⟩)] 261 (0,0)))
 (x:aB) (hx:x.Ok) (hp:∀ j u,x.cells[j]?=some u→w.cell? ⟨b,o+j,none⟩=some u) (hl:l.length≤1000000000) :
 Calls Tryz.prog 204 #[.pointer (some ⟨B0,0,none⟩),.pointer (some ⟨B1,0,none⟩)] w fun e w'=>e = .returned (.tuple #[])∧am wS GB WB sv (l++aU x.tx x.ty) w w':=by
 have H:=wB h;have HP:=wB hp;have HX:=wB hx;have p0:=al h0;have p1:=al h1;clear h h0 h1 hp hx;go_enter Tryz.func204,Tryz.ntmps204
 go_still_tail 4,(by kernel_rfl)
 change wpList _ _ _ _ _ w.drew
 have HD:=wB H.out.drew;go_wp2_with fail
 refine (iO wS w.drew GB WB sv l HD.out b (o+10) x.tx x.ty ⟨(HP.out 10 _ rfl),(HP.out 11 _ rfl)⟩ HX.out.to_.1 HX.out.to_.2 hl).mono ?_;rintro e w2 ⟨rfl,hb2⟩;have HE:=wB (hb2.after (Keep.drew _ _));clear hb2;go_wp2_with fail
 exact wR (v:=.tuple #[]) (by simp [results,Tryz.results204,go_sem]) rfl ⟨rfl,HE.out⟩
theorem rk (wS w:World) (GB WB:Nat) (sv:Value) (l:List Int) (h:Gt wS GB WB sv l w) (B0 B1 b o:Nat) (h0:w.heap[B0]?=some (.cells #[.pointer (some ⟨GB,0,none⟩)] 142 (0,0))) (h1:w.heap[B1]?=some (.cells #[.pointer (some ⟨b,o,none⟩)] 261 (0,0)))
 (x:aB) (hx:x.Ok) (hp:∀ j u,x.cells[j]?=some u→w.cell? ⟨b,o+j,none⟩=some u) (hl:l.length≤1000000000) :
 Calls Tryz.prog 205 #[.pointer (some ⟨B0,0,none⟩),.pointer (some ⟨B1,0,none⟩)] w fun e w'=>e = .returned (.tuple #[])∧am wS GB WB sv (l++[x.seats]) w w':=by
 have H:=wB h;have HP:=wB hp;have HX:=wB hx;have p0:=al h0;have p1:=al h1;clear h h0 h1 hp hx;go_enter Tryz.func205,Tryz.ntmps205
 go_still_tail 4,(by kernel_rfl)
 change wpList _ _ _ _ _ w.drew
 have HD:=wB H.out.drew;go_wp2_with fail
 refine (ii wS w.drew GB WB sv l HD.out b (o+12) x.seats (HP.out 12 _ rfl) hl).mono ?_;rintro e w2 ⟨rfl,hb2⟩;have HE:=wB (hb2.after (Keep.drew _ _));clear hb2;go_wp2_with fail
 exact wR (v:=.tuple #[]) (by simp [results,Tryz.results205,go_sem]) rfl ⟨rfl,HE.out⟩
theorem rl (wS w:World) (GB WB:Nat) (sv:Value) (l:List Int) (h:Gt wS GB WB sv l w) (B0 B1 b o:Nat) (h0:w.heap[B0]?=some (.cells #[.pointer (some ⟨GB,0,none⟩)] 142 (0,0))) (h1:w.heap[B1]?=some (.cells #[.pointer (some ⟨b,o,none⟩)] 261 (0,0)))
 (x:aB) (hx:x.Ok) (hp:∀ j u,x.cells[j]?=some u→w.cell? ⟨b,o+j,none⟩=some u) (hl:l.length≤1000000000) :
 Calls Tryz.prog 206 #[.pointer (some ⟨B0,0,none⟩),.pointer (some ⟨B1,0,none⟩)] w fun e w'=>e = .returned (.tuple #[])∧am wS GB WB sv (l++[x.classes]) w w':=by
 have H:=wB h;have HP:=wB hp;have HX:=wB hx;have p0:=al h0;have p1:=al h1;clear h h0 h1 hp hx;go_enter Tryz.func206,Tryz.ntmps206
 go_still_tail 4,(by kernel_rfl)
 change wpList _ _ _ _ _ w.drew
 have HD:=wB H.out.drew;go_wp2_with fail
 refine (ii wS w.drew GB WB sv l HD.out b (o+13) x.classes (HP.out 13 _ rfl) hl).mono ?_;rintro e w2 ⟨rfl,hb2⟩;have HE:=wB (hb2.after (Keep.drew _ _));clear hb2;go_wp2_with fail
 exact wR (v:=.tuple #[]) (by simp [results,Tryz.results206,go_sem]) rfl ⟨rfl,HE.out⟩
theorem rm (wS w:World) (GB WB:Nat) (sv:Value) (l:List Int) (h:Gt wS GB WB sv l w) (B0 B1 b o:Nat) (h0:w.heap[B0]?=some (.cells #[.pointer (some ⟨GB,0,none⟩)] 142 (0,0))) (h1:w.heap[B1]?=some (.cells #[.pointer (some ⟨b,o,none⟩)] 261 (0,0)))
 (x:aB) (hx:x.Ok) (hp:∀ j u,x.cells[j]?=some u→w.cell? ⟨b,o+j,none⟩=some u) (hl:l.length≤1000000000) :
 Calls Tryz.prog 207 #[.pointer (some ⟨B0,0,none⟩),.pointer (some ⟨B1,0,none⟩)] w fun e w'=>e = .returned (.tuple #[])∧am wS GB WB sv (l++cY x.base) w w':=by
 have H:=wB h;have HP:=wB hp;have HX:=wB hx;have p0:=al h0;have p1:=al h1;clear h h0 h1 hp hx;go_enter Tryz.func207,Tryz.ntmps207
 go_still_tail 4,(by kernel_rfl)
 change wpList _ _ _ _ _ w.drew
 have HD:=wB H.out.drew;go_wp2_with fail
 refine (ig wS w.drew GB WB sv l HD.out b (o+14) x.base (HP.out 14 _ rfl) HX.out.base hl).mono ?_;rintro e w2 ⟨rfl,hb2⟩;have HE:=wB (hb2.after (Keep.drew _ _));clear hb2;go_wp2_with fail
 exact wR (v:=.tuple #[]) (by simp [results,Tryz.results207,go_sem]) rfl ⟨rfl,HE.out⟩
theorem rn (wS w:World) (GB WB:Nat) (sv:Value) (l:List Int) (h:Gt wS GB WB sv l w) (B0 B1 b o:Nat) (h0:w.heap[B0]?=some (.cells #[.pointer (some ⟨GB,0,none⟩)] 142 (0,0))) (h1:w.heap[B1]?=some (.cells #[.pointer (some ⟨b,o,none⟩)] 261 (0,0)))
 (x:aB) (hx:x.Ok) (hp:∀ j u,x.cells[j]?=some u→w.cell? ⟨b,o+j,none⟩=some u) (hl:l.length≤1000000000) :
 Calls Tryz.prog 208 #[.pointer (some ⟨B0,0,none⟩),.pointer (some ⟨B1,0,none⟩)] w fun e w'=>e = .returned (.tuple #[])∧am wS GB WB sv (l++cY x.ttl) w w':=by
 have H:=wB h;have HP:=wB hp;have HX:=wB hx;have p0:=al h0;have p1:=al h1;clear h h0 h1 hp hx;go_enter Tryz.func208,Tryz.ntmps208
 go_still_tail 4,(by kernel_rfl)
 change wpList _ _ _ _ _ w.drew
 have HD:=wB H.out.drew;go_wp2_with fail
 refine (ig wS w.drew GB WB sv l HD.out b (o+15) x.ttl (HP.out 15 _ rfl) HX.out.ttl hl).mono ?_;rintro e w2 ⟨rfl,hb2⟩;have HE:=wB (hb2.after (Keep.drew _ _));clear hb2;go_wp2_with fail
 exact wR (v:=.tuple #[]) (by simp [results,Tryz.results208,go_sem]) rfl ⟨rfl,HE.out⟩
def bW (x:aB):List (List Int):=[[x.i0,x.i1,x.i2,x.i3,x.i4,x.i5,x.i6,x.i7],aU x.fx x.fy,aU x.tx x.ty,[x.seats],[x.classes],cY x.base,cY x.ttl]
def cK (x:aa):List Int:=(bW x.r).flatten++aO x.since.toNat++aO x.number.toNat
def idleB (x:ak):List Int:=[x.d.i0,x.d.i1,x.d.i2,x.d.i3,x.d.i4,x.d.i5,x.d.i6,x.d.i7]++aU x.d.ax x.d.ay++[x.d.seats]++[x.d.cls]++cY x.d.radius++aO x.number.toNat
def dE (x:ab):List Int:=aO x.r.toNat++aO x.c.toNat++aO x.w.toNat
def dK (x:ai):List Int:=aO x.r.toNat++aO x.c.toNat
theorem br {n:Int} (h:ar n):(aO n.toNat).length≤10:=dD (by have:=h.2;omega)
theorem pI (x:aB):∀ k,((bW x).take k).flatten.length≤70:=by
 intro k;have h1:=ee x.base;have h2:=ee x.ttl
 match k with
 | 0=>simp [bW]
 | 1=>simp [bW]
 | 2=>simp [bW,aU]
 | 3=>simp [bW,aU]
 | 4=>simp [bW,aU]
 | 5=>simp [bW,aU]
 | 6=>simp [bW,aU];omega
 | k+7=>simp [bW,aU];omega
theorem pJ (x:aB):(bW x).flatten.length≤70:=pI x 7
theorem jP {x:aa} (h:x.Ok):(cK x).length≤100:=by
 have h1:=pJ x.r;have h2:=br h.since;have h3:=br h.number;simp only [cK,wH];omega
theorem jQ {x:ak} (h:x.Ok):(idleB x).length≤100:=by
 have h1:=ee x.d.radius;have h2:=br h.number;simp only [idleB,aU,wH,wY,xh];omega
theorem jR {x:ab} (h:x.Ok):(dE x).length≤100:=by
 have h1:=br h.r;have h2:=br h.c;have h3:=br h.w;simp only [dE,wH];omega
theorem jS {x:ai} (h:x.Ok):(dK x).length≤100:=by
 have h1:=br h.r;have h2:=br h.c;simp only [dK,wH];omega
theorem ti {L:List (List Int)} {k:Nat} {p:List Int} (h:L[k]?=some p):(L.take (k+1)).flatten=(L.take k).flatten++p:=by
 rw [xp (wD.1 h).1,(wD.1 h).2];simp
theorem fM {α:Type} {L:List α} {k:Nat} {x:α} (f:α→List Int) (h:L[k]?=some x):(L.take (k+1)).flatMap f=(L.take k).flatMap f++f x:=by
 rw [xp (wD.1 h).1,(wD.1 h).2];simp
theorem c8 {α:Type} {f:α→List Int} {m:Nat}:∀ {L:List α},(∀ x ∈ L,(f x).length≤m)→(L.flatMap f).length≤L.length*m
 | [],_=>by simp
 | a::L,h=>by
   have h1:=h a (by simp);have h2:=c8 (fun x hx=>h x (by simp [hx])) (L:=L);simp only [List.flatMap_cons,wH,wY,Nat.add_mul];omega
theorem jm (w:World) (p q:Value):(((w.alloc (.cells #[p] 142)).alloc (.cells #[q] 261)).alloc (.cells #[.func (.func 202) #[] #[.pointer (some ⟨w.heap.size,0,none⟩),.pointer (some ⟨w.heap.size+1,0,none⟩)],.func (.func 203) #[] #[.pointer (some ⟨w.heap.size,0,none⟩),.pointer (some ⟨w.heap.size+1,0,none⟩)],.func (.func 204) #[] #[.pointer (some ⟨w.heap.size,0,none⟩),.pointer (some ⟨w.heap.size+1,0,none⟩)],.func (.func 205) #[] #[.pointer (some ⟨w.heap.size,0,none⟩),.pointer (some ⟨w.heap.size+1,0,none⟩)],.func (.func 206) #[] #[.pointer (some ⟨w.heap.size,0,none⟩),.pointer (some ⟨w.heap.size+1,0,none⟩)],.func (.func 207) #[] #[.pointer (some ⟨w.heap.size,0,none⟩),.pointer (some ⟨w.heap.size+1,0,none⟩)],.func (.func 208) #[] #[.pointer (some ⟨w.heap.size,0,none⟩),.pointer (some ⟨w.heap.size+1,0,none⟩)]] 1)).heap[w.heap.size]?=some (.cells #[p] 142 (0,0))∧
 (((w.alloc (.cells #[p] 142)).alloc (.cells #[q] 261)).alloc (.cells #[.func (.func 202) #[] #[.pointer (some ⟨w.heap.size,0,none⟩),.pointer (some ⟨w.heap.size+1,0,none⟩)],.func (.func 203) #[] #[.pointer (some ⟨w.heap.size,0,none⟩),.pointer (some ⟨w.heap.size+1,0,none⟩)],.func (.func 204) #[] #[.pointer (some ⟨w.heap.size,0,none⟩),.pointer (some ⟨w.heap.size+1,0,none⟩)],.func (.func 205) #[] #[.pointer (some ⟨w.heap.size,0,none⟩),.pointer (some ⟨w.heap.size+1,0,none⟩)],.func (.func 206) #[] #[.pointer (some ⟨w.heap.size,0,none⟩),.pointer (some ⟨w.heap.size+1,0,none⟩)],.func (.func 207) #[] #[.pointer (some ⟨w.heap.size,0,none⟩),.pointer (some ⟨w.heap.size+1,0,none⟩)],.func (.func 208) #[] #[.pointer (some ⟨w.heap.size,0,none⟩),.pointer (some ⟨w.heap.size+1,0,none⟩)]] 1)).heap[w.heap.size+1]?=some (.cells #[q] 261 (0,0))∧
 ∀ (k g:Nat),[202,203,204,205,206,207,208][k]?=some g→(((w.alloc (.cells #[p] 142)).alloc (.cells #[q] 261)).alloc (.cells #[.func (.func 202) #[] #[.pointer (some ⟨w.heap.size,0,none⟩),.pointer (some ⟨w.heap.size+1,0,none⟩)],.func (.func 203) #[] #[.pointer (some ⟨w.heap.size,0,none⟩),.pointer (some ⟨w.heap.size+1,0,none⟩)],.func (.func 204) #[] #[.pointer (some ⟨w.heap.size,0,none⟩),.pointer (some ⟨w.heap.size+1,0,none⟩)],.func (.func 205) #[] #[.pointer (some ⟨w.heap.size,0,none⟩),.pointer (some ⟨w.heap.size+1,0,none⟩)],.func (.func 206) #[] #[.pointer (some ⟨w.heap.size,0,none⟩),.pointer (some ⟨w.heap.size+1,0,none⟩)],.func (.func 207) #[] #[.pointer (some ⟨w.heap.size,0,none⟩),.pointer (some ⟨w.heap.size+1,0,none⟩)],.func (.func 208) #[] #[.pointer (some ⟨w.heap.size,0,none⟩),.pointer (some ⟨w.heap.size+1,0,none⟩)]] 1)).cell? ⟨w.heap.size+1+1,k,none⟩=some (.func (.func g) #[] #[.pointer (some ⟨w.heap.size,0,none⟩),.pointer (some ⟨w.heap.size+1,0,none⟩)]):=by
 have h1:=wF (w.alloc (.cells #[p] 142)) (.cells #[q] 261);rw [show (w.alloc (.cells #[p] 142)).heap.size=w.heap.size+1 by simp] at h1;have h2:=wF ((w.alloc (.cells #[p] 142)).alloc (.cells #[q] 261)) (.cells #[.func (.func 202) #[] #[.pointer (some ⟨w.heap.size,0,none⟩),.pointer (some ⟨w.heap.size+1,0,none⟩)],.func (.func 203) #[] #[.pointer (some ⟨w.heap.size,0,none⟩),.pointer (some ⟨w.heap.size+1,0,none⟩)],.func (.func 204) #[] #[.pointer (some ⟨w.heap.size,0,none⟩),.pointer (some ⟨w.heap.size+1,0,none⟩)],.func (.func 205) #[] #[.pointer (some ⟨w.heap.size,0,none⟩),.pointer (some ⟨w.heap.size+1,0,none⟩)],.func (.func 206) #[] #[.pointer (some ⟨w.heap.size,0,none⟩),.pointer (some ⟨w.heap.size+1,0,none⟩)],.func (.func 207) #[] #[.pointer (some ⟨w.heap.size,0,none⟩),.pointer (some ⟨w.heap.size+1,0,none⟩)],.func (.func 208) #[] #[.pointer (some ⟨w.heap.size,0,none⟩),.pointer (some ⟨w.heap.size+1,0,none⟩)]] 1);rw [show ((w.alloc (.cells #[p] 142)).alloc (.cells #[q] 261)).heap.size=w.heap.size+1+1 by simp] at h2;refine ⟨(Keep.alloc (fun _=>False) _ _).old ((Keep.alloc (fun _=>False) _ _).old (wF w _) id) id,(Keep.alloc (fun _=>False) _ _).old h1 id,fun k g hg=>?_⟩;rw [wG _ _ _ _ _ (0,0) h2]
 match k,hg with
 | 0,hg=>simp at hg;subst hg;rfl
 | 1,hg=>simp at hg;subst hg;rfl
 | 2,hg=>simp at hg;subst hg;rfl
 | 3,hg=>simp at hg;subst hg;rfl
 | 4,hg=>simp at hg;subst hg;rfl
 | 5,hg=>simp at hg;subst hg;rfl
 | 6,hg=>simp at hg;subst hg;rfl
theorem nK (args:Array Value) (w:World):(callFunc 202 args).run Tryz.prog w = .ok (.enter 202 args) w:=by kernel_rfl
theorem nL (args:Array Value) (w:World):(callFunc 203 args).run Tryz.prog w = .ok (.enter 203 args) w:=by kernel_rfl
theorem nM (args:Array Value) (w:World):(callFunc 204 args).run Tryz.prog w = .ok (.enter 204 args) w:=by kernel_rfl
theorem nN (args:Array Value) (w:World):(callFunc 205 args).run Tryz.prog w = .ok (.enter 205 args) w:=by kernel_rfl
theorem nO (args:Array Value) (w:World):(callFunc 206 args).run Tryz.prog w = .ok (.enter 206 args) w:=by kernel_rfl
theorem nP (args:Array Value) (w:World):(callFunc 207 args).run Tryz.prog w = .ok (.enter 207 args) w:=by kernel_rfl
theorem nQ (args:Array Value) (w:World):(callFunc 208 args).run Tryz.prog w = .ok (.enter 208 args) w:=by kernel_rfl
theorem m8:∀ g ∈ [202,203,204,205,206,207,208],∀ args w,(callFunc g args).run Tryz.prog w = .ok (.enter g args) w:=by
 intro g hg args w;simp only [List.mem_cons,List.not_mem_nil,or_false] at hg;rcases hg with rfl | rfl | rfl | rfl | rfl | rfl | rfl
 · exact nK args w
 · exact nL args w
 · exact nM args w
 · exact nN args w
 · exact nO args w
 · exact nP args w
 · exact nQ args w
theorem pK {x:aa} {j:Nat} {u:Value} (h:x.r.cells[j]?=some u):x.cells[j]?=some u:=by
 have he:x.r.cells=x.cells.take 16:=rfl;rw [he,List.getElem?_take] at h;split at h
 · exact h
 · cases h
theorem tj (wS w:World) (GB WB:Nat) (sv:Value) (l:List Int) (h:Gt wS GB WB sv l w) (B0 B1 b o:Nat) (h0:w.heap[B0]?=some (.cells #[.pointer (some ⟨GB,0,none⟩)] 142 (0,0))) (h1:w.heap[B1]?=some (.cells #[.pointer (some ⟨b,o,none⟩)] 261 (0,0)))
 (x:aB) (hx:x.Ok) (hp:∀ j u,x.cells[j]?=some u→w.cell? ⟨b,o+j,none⟩=some u) (hl:l.length≤1000000000) (k g:Nat) (p:List Int) (hg:[202,203,204,205,206,207,208][k]?=some g) (hpc:(bW x)[k]?=some p) :
 Calls Tryz.prog g #[.pointer (some ⟨B0,0,none⟩),.pointer (some ⟨B1,0,none⟩)] w fun e w'=>e = .returned (.tuple #[])∧am wS GB WB sv (l++p) w w':=by
 match k,hg,hpc with
 | 0,hg,hpc=>simp [bW] at hg hpc;subst hg;subst hpc;exact rh wS w GB WB sv l h B0 B1 b o h0 h1 x hx hp hl
 | 1,hg,hpc=>simp [bW] at hg hpc;subst hg;subst hpc;exact ri wS w GB WB sv l h B0 B1 b o h0 h1 x hx hp hl
 | 2,hg,hpc=>simp [bW] at hg hpc;subst hg;subst hpc;exact rj wS w GB WB sv l h B0 B1 b o h0 h1 x hx hp hl
 | 3,hg,hpc=>simp [bW] at hg hpc;subst hg;subst hpc;exact rk wS w GB WB sv l h B0 B1 b o h0 h1 x hx hp hl
 | 4,hg,hpc=>simp [bW] at hg hpc;subst hg;subst hpc;exact rl wS w GB WB sv l h B0 B1 b o h0 h1 x hx hp hl
 | 5,hg,hpc=>simp [bW] at hg hpc;subst hg;subst hpc;exact rm wS w GB WB sv l h B0 B1 b o h0 h1 x hx hp hl
 | 6,hg,hpc=>simp [bW] at hg hpc;subst hg;subst hpc;exact rn wS w GB WB sv l h B0 B1 b o h0 h1 x hx hp hl
theorem gM (wS w:World) (GB WB:Nat) (sv:Value) (l:List Int) (h:Gt wS GB WB sv l w):Calls Tryz.prog 157 #[.pointer (some ⟨GB,0,none⟩)] w fun e w'=>e = .returned (.bool false)∧w'=w:=by
 have g0:=h.cells;clear h;go_enter Tryz.func157,Tryz.ntmps157
 go_wp2_with fail
 go_ret
 exact ⟨rfl,rfl⟩
theorem vi (wS w:World) (GB WB:Nat) (sv:Value) (l:List Int) (h:Gt wS GB WB sv l w) (b o:Nat) (x:ak) (hx:x.Ok) (hp:∀ j u,x.cells[j]?=some u→w.cell? ⟨b,o+j,none⟩=some u) (hfr:Free sv WB b) (hnn:0≤x.number) (hl:l.length≤900000000) :
 Calls Tryz.prog 166 #[.pointer (some ⟨GB,0,none⟩),.pointer (some ⟨b,o,none⟩)] w fun e w'=>e = .returned (.tuple #[])∧am wS GB WB sv (l++idleB x) w w':=by
 have H:=wB h;have HP0:=wB hp;have HX:=wB hx;have HFR:=wB hfr;have hr:=ee x.d.radius;clear h hp hx hfr;go_enter Tryz.func166,Tryz.ntmps166
 go_wp2_with fail
 refine (rL wS w GB WB sv l H.out b o x.d.i0 x.d.i1 x.d.i2 x.d.i3 x.d.i4 x.d.i5 x.d.i6 x.d.i7 ⟨(HP0.out 0 _ rfl),(HP0.out 1 _ rfl),(HP0.out 2 _ rfl),(HP0.out 3 _ rfl),(HP0.out 4 _ rfl),(HP0.out 5 _ rfl),(HP0.out 6 _ rfl),(HP0.out 7 _ rfl)⟩ (by omega)).mono ?_;rintro e w1 ⟨rfl,hb0⟩;have HE0:=wB hb0;clear hb0;obtain ⟨sv1,hg1,hk1,hn1⟩:=HE0.out;have HG1:=wB hg1;clear hg1;have HP1:=wB (fun (j:Nat) (u:Value) (hu:x.cells[j]?=some u)=>hk1.cell (HP0.out j u hu) HFR.out.not);go_wp2_with fail
 refine (iO wS w1 GB WB sv1 (l++[x.d.i0,x.d.i1,x.d.i2,x.d.i3,x.d.i4,x.d.i5,x.d.i6,x.d.i7]) HG1.out b (o+8) x.d.ax x.d.ay ⟨(HP1.out 8 _ rfl),(HP1.out 9 _ rfl)⟩ HX.out.d.at_.1 HX.out.d.at_.2 (by simp only [aU,wH,wY,xh];omega)).mono ?_;rintro e w2 ⟨rfl,hb1⟩;have HE1:=wB (am.step hk1 hn1 hb1);clear hb1;obtain ⟨sv2,hg2,hk2,hn2⟩:=HE1.out;have HG2:=wB hg2;clear hg2;have HP2:=wB (fun (j:Nat) (u:Value) (hu:x.cells[j]?=some u)=>hk2.cell (HP0.out j u hu) HFR.out.not);go_wp2_with fail
 refine (ii wS w2 GB WB sv2 (l++[x.d.i0,x.d.i1,x.d.i2,x.d.i3,x.d.i4,x.d.i5,x.d.i6,x.d.i7]++aU x.d.ax x.d.ay) HG2.out b (o+10) x.d.seats (HP2.out 10 _ rfl) (by simp only [aU,wH,wY,xh];omega)).mono ?_;rintro e w3 ⟨rfl,hb2⟩;have HE2:=wB (am.step hk2 hn2 hb2);clear hb2;obtain ⟨sv3,hg3,hk3,hn3⟩:=HE2.out;have HG3:=wB hg3;clear hg3;have HP3:=wB (fun (j:Nat) (u:Value) (hu:x.cells[j]?=some u)=>hk3.cell (HP0.out j u hu) HFR.out.not);go_wp2_with fail
 refine (ii wS w3 GB WB sv3 (l++[x.d.i0,x.d.i1,x.d.i2,x.d.i3,x.d.i4,x.d.i5,x.d.i6,x.d.i7]++aU x.d.ax x.d.ay++[x.d.seats]) HG3.out b (o+11) x.d.cls (HP3.out 11 _ rfl) (by simp only [aU,wH,wY,xh];omega)).mono ?_;rintro e w4 ⟨rfl,hb3⟩;have HE3:=wB (am.step hk3 hn3 hb3);clear hb3;obtain ⟨sv4,hg4,hk4,hn4⟩:=HE3.out;have HG4:=wB hg4;clear hg4;have HP4:=wB (fun (j:Nat) (u:Value) (hu:x.cells[j]?=some u)=>hk4.cell (HP0.out j u hu) HFR.out.not);go_wp2_with fail
 refine (ig wS w4 GB WB sv4 (l++[x.d.i0,x.d.i1,x.d.i2,x.d.i3,x.d.i4,x.d.i5,x.d.i6,x.d.i7]++aU x.d.ax x.d.ay++[x.d.seats]++[x.d.cls]) HG4.out b (o+12) x.d.radius (HP4.out 12 _ rfl) HX.out.d.radius (by simp only [aU,wH,wY,xh];omega)).mono ?_;rintro e w5 ⟨rfl,hb4⟩;have HE4:=wB (am.step hk4 hn4 hb4);clear hb4;obtain ⟨sv5,hg5,hk5,hn5⟩:=HE4.out;have HG5:=wB hg5;clear hg5;have HP5:=wB (fun (j:Nat) (u:Value) (hu:x.cells[j]?=some u)=>hk5.cell (HP0.out j u hu) HFR.out.not);go_wp2_with fail
 refine (ci wS w5 GB WB sv5 (l++[x.d.i0,x.d.i1,x.d.i2,x.d.i3,x.d.i4,x.d.i5,x.d.i6,x.d.i7]++aU x.d.ax x.d.ay++[x.d.seats]++[x.d.cls]++cY x.d.radius) HG5.out b (o+13) x.number 9223372036854775807 (HP5.out 13 _ rfl) hnn HX.out.number (by simp only [aU,wH,wY,xh];omega)).mono ?_;rintro e w6 ⟨rfl,hb5⟩;have HE5:=wB (am.step hk5 hn5 hb5);clear hb5;go_wp2_with fail
 exact wR (v:=.tuple #[]) (by simp [results,Tryz.results166,go_sem]) rfl ⟨rfl,by first | exact HE5.out | (simpa only [idleB,wP] using HE5.out)⟩
theorem vj (wS w:World) (GB WB:Nat) (sv:Value) (l:List Int) (h:Gt wS GB WB sv l w) (b o:Nat) (x:ab) (hx:x.Ok) (hp:∀ j u,x.cells[j]?=some u→w.cell? ⟨b,o+j,none⟩=some u) (hfr:Free sv WB b) (BX:Nat) (hbx:w.heap[BX]?=some (.cells #[.pointer (some ⟨GB,0,none⟩)] 142 (0,0))) (hfb:Free sv WB BX) (hnr:0≤x.r) (hnc:0≤x.c) (hnw:0≤x.w) (hl:l.length≤900000000) :
 Calls Tryz.prog 168 #[.pointer (some ⟨b,o,none⟩),.pointer (some ⟨BX,0,none⟩)] w fun e w'=>e = .returned (.tuple #[])∧am wS GB WB sv (l++dE x) w w':=by
 have H:=wB h;have HP0:=wB hp;have HX:=wB hx;have HFR:=wB hfr;have hrr:=br hx.r;have hrc:=br hx.c;have hrw:=br hx.w;have pB:=al hbx;have HFB:=wB hfb;clear h hp hx hfr hbx hfb;go_enter Tryz.func168,Tryz.ntmps168
 go_wp2_with fail
 go_still_tail 4,(by kernel_rfl)
 change wpList _ _ _ _ _ w.drew
 have HD0:=wB H.out.drew;go_wp2_with fail
 refine (ci wS w.drew GB WB sv l HD0.out b o x.r 9223372036854775807 (HP0.out 0 _ rfl) hnr HX.out.r (by first | omega | (simp only [wH];omega))).mono ?_;rintro e w1 ⟨rfl,hb0⟩;replace hb0:=hb0.after (Keep.drew _ _);have HE0:=wB hb0;clear hb0;obtain ⟨sv1,hg1,hk1,hn1⟩:=HE0.out;have HG1:=wB hg1;clear hg1;have HP1:=wB (fun (j:Nat) (u:Value) (hu:x.cells[j]?=some u)=>hk1.cell (HP0.out j u hu) HFR.out.not);have pB1:=hk1.cell pB HFB.out.not;go_wp2_with fail
 go_still_tail 4,(by kernel_rfl)
 change wpList _ _ _ _ _ w1.drew
 have HD1:=wB HG1.out.drew;go_wp2_with fail
 refine (ci wS w1.drew GB WB sv1 (l++aO x.r.toNat) HD1.out b (o+1) x.c 9223372036854775807 (HP1.out 1 _ rfl) hnc HX.out.c (by first | omega | (simp only [wH];omega))).mono ?_;rintro e w2 ⟨rfl,hb1⟩;replace hb1:=hb1.after (Keep.drew _ _);have HE1:=wB (am.step hk1 hn1 hb1);clear hb1;obtain ⟨sv2,hg2,hk2,hn2⟩:=HE1.out;have HG2:=wB hg2;clear hg2;have HP2:=wB (fun (j:Nat) (u:Value) (hu:x.cells[j]?=some u)=>hk2.cell (HP0.out j u hu) HFR.out.not);have pB2:=hk2.cell pB HFB.out.not;go_wp2_with fail
 go_still_tail 4,(by kernel_rfl)
 change wpList _ _ _ _ _ w2.drew
 have HD2:=wB HG2.out.drew;go_wp2_with fail
 refine (ci wS w2.drew GB WB sv2 (l++aO x.r.toNat++aO x.c.toNat) HD2.out b (o+2) x.w 9223372036854775807 (HP2.out 2 _ rfl) hnw HX.out.w (by first | omega | (simp only [wH];omega))).mono ?_;rintro e w3 ⟨rfl,hb2⟩;replace hb2:=hb2.after (Keep.drew _ _);have HE2:=wB (am.step hk2 hn2 hb2);clear hb2;go_wp2_with fail
 exact wR (v:=.tuple #[]) (by simp [results,Tryz.results168,go_sem]) rfl ⟨rfl,by first | exact HE2.out | (simpa only [dE,wP] using HE2.out)⟩
theorem vk (wS w:World) (GB WB:Nat) (sv:Value) (l:List Int) (h:Gt wS GB WB sv l w) (b o:Nat) (x:ai) (hx:x.Ok) (hp:∀ j u,x.cells[j]?=some u→w.cell? ⟨b,o+j,none⟩=some u) (hfr:Free sv WB b) (BX:Nat) (hbx:w.heap[BX]?=some (.cells #[.pointer (some ⟨GB,0,none⟩)] 142 (0,0))) (hfb:Free sv WB BX) (hnr:0≤x.r) (hnc:0≤x.c) (hl:l.length≤900000000) :
 Calls Tryz.prog 170 #[.pointer (some ⟨b,o,none⟩),.pointer (some ⟨BX,0,none⟩)] w fun e w'=>e = .returned (.tuple #[])∧am wS GB WB sv (l++dK x) w w':=by
 have H:=wB h;have HP0:=wB hp;have HX:=wB hx;have HFR:=wB hfr;have hrr:=br hx.r;have hrc:=br hx.c;have pB:=al hbx;have HFB:=wB hfb;clear h hp hx hfr hbx hfb;go_enter Tryz.func170,Tryz.ntmps170
 go_wp2_with fail
 go_still_tail 4,(by kernel_rfl)
 change wpList _ _ _ _ _ w.drew
 have HD0:=wB H.out.drew;go_wp2_with fail
 refine (ci wS w.drew GB WB sv l HD0.out b o x.r 9223372036854775807 (HP0.out 0 _ rfl) hnr HX.out.r (by first | omega | (simp only [wH];omega))).mono ?_;rintro e w1 ⟨rfl,hb0⟩;replace hb0:=hb0.after (Keep.drew _ _);have HE0:=wB hb0;clear hb0;obtain ⟨sv1,hg1,hk1,hn1⟩:=HE0.out;have HG1:=wB hg1;clear hg1;have HP1:=wB (fun (j:Nat) (u:Value) (hu:x.cells[j]?=some u)=>hk1.cell (HP0.out j u hu) HFR.out.not);have pB1:=hk1.cell pB HFB.out.not;go_wp2_with fail
 go_still_tail 4,(by kernel_rfl)
 change wpList _ _ _ _ _ w1.drew
 have HD1:=wB HG1.out.drew;go_wp2_with fail
 refine (ci wS w1.drew GB WB sv1 (l++aO x.r.toNat) HD1.out b (o+1) x.c 9223372036854775807 (HP1.out 1 _ rfl) hnc HX.out.c (by first | omega | (simp only [wH];omega))).mono ?_;rintro e w2 ⟨rfl,hb1⟩;replace hb1:=hb1.after (Keep.drew _ _);have HE1:=wB (am.step hk1 hn1 hb1);clear hb1;go_wp2_with fail
 exact wR (v:=.tuple #[]) (by simp [results,Tryz.results170,go_sem]) rfl ⟨rfl,by first | exact HE1.out | (simpa only [dK,wP] using HE1.out)⟩
theorem pL (wS w:World) (GB WB:Nat) (sv:Value) (l:List Int) (h:Gt wS GB WB sv l w) (b o:Nat) (x:aa) (hx:x.Ok) (hp:∀ j u,x.cells[j]?=some u→w.cell? ⟨b,o+j,none⟩=some u) (hfr:Free sv WB b) (hs0:0≤x.since) (hn0:0≤x.number) (hl:l.length≤900000000) :
 Calls Tryz.prog 164 #[.pointer (some ⟨GB,0,none⟩),.pointer (some ⟨b,o,none⟩)] w fun e w'=>e = .returned (.tuple #[])∧am wS GB WB sv (l++cK x) w w':=by
 have H:=wB h;have HP0:=wB hp;have HX:=wB hx;have HFR:=wB hfr;have hr:=pJ x.r;have hrs:=br hx.since;have hb:b<w.heap.size:=wK w ⟨b,o,none⟩ (hp 0 _ rfl);clear h hp hx hfr;go_enter Tryz.func164,Tryz.ntmps164
 go_wp2_with fail
 refine (mc w (.pointer (some ⟨GB,0,none⟩)) (.pointer (some ⟨b,o,none⟩)) ⟨_,rfl⟩ ⟨_,rfl⟩).mono ?_;rintro e w1 ⟨rfl,hw1⟩;have HB:=wB (jm w (.pointer (some ⟨GB,0,none⟩)) (.pointer (some ⟨b,o,none⟩)));rw [←hw1] at HB;have HK:=wB (show Keep (fun _=>False) w w1 from by rw [hw1];exact ((Keep.alloc (fun _=>False) _ _).trans (Keep.alloc (fun _=>False) _ _) (fun _ _ h=>h) (fun _ _ h=>h)).trans (Keep.alloc (fun _=>False) _ _) (fun _ _ h=>h) (fun _ _ h=>h));have hs1:w1.heap.size=w.heap.size+3:=by rw [hw1];simp
 have HG1:=wB (H.out.keep HK.out);clear hw1;have HF0:=wB (Free.new H.out (b:=w.heap.size) (by omega));have HF1:=wB (Free.new H.out (b:=w.heap.size+1) (by omega));have HF2:=wB (Free.new H.out (b:=w.heap.size+1+1) (by omega));generalize w.heap.size+1+1=B2 at *;generalize w.heap.size+1=B1 at *;have HWE:=wB (show ∃ B0,w.heap.size=B0 from ⟨_,rfl⟩);obtain ⟨B0,hB0⟩:=HWE.out;rw [hB0] at HB HF0;clear HWE hB0 hs1;go_wp2_with fail
 go_loopw [12] (fun i wr=>Hid (∃ k:Nat,i = .int .i64 k∧k≤7∧am wS GB WB sv (l++((bW x.r).take k).flatten) w1 wr)) (fun i _=>7 - (intOf i).toNat)
 case atStart=>exact wB ⟨0,rfl,xd _,by simpa using am.nil HG1.out⟩
 case round=>
  obtain ⟨k,rfl,hk,hw⟩:=hrel.out;clear hrel;obtain ⟨sv1,hg,hkp,hn⟩:=hw;have HG:=wB hg;have HKP:=wB hkp;have HN:=wB hn;clear hg hkp hn;have HP:=wB (fun (j:Nat) (u:Value) (hu:x.cells[j]?=some u)=>HKP.out.cell (HK.out.cell (HP0.out j u hu) id) HFR.out.not);have hlen:=pI x.r k;by_cases hlt:k<7
  · obtain ⟨g,hgk⟩:∃ g,[202,203,204,205,206,207,208][k]?=some g:=⟨[202,203,204,205,206,207,208][k]'(by simpa using hlt),wE _⟩
    obtain ⟨p,hpk⟩:∃ p,(bW x.r)[k]?=some p:=⟨(bW x.r)[k]'(by simpa [bW] using hlt),wE _⟩;have hcell:=HKP.out.cell (HB.out.2.2 k g hgk) HF2.out.not;have HCALL:=wB (tj wS wr GB WB sv1 (l++((bW x.r).take k).flatten) HG.out B0 B1 b o (HKP.out.old HB.out.1 HF0.out.not) (HKP.out.old HB.out.2.1 HF1.out.not) x.r HX.out.r (fun j u hu=>HP.out j u (pK hu)) (by rw [wH];omega) k g p hgk hpk);have hrun:=m8 g (wM hgk);have HT:=wB (ti hpk);clear hgk hpk;go_wp2_with fail
    refine HCALL.out.mono ?_;rintro r w2 ⟨rfl,hb2⟩;have HE:=wB (show am wS GB WB sv (l++((bW x.r).take (k+1)).flatten) w1 w2 from by rw [HT.out,←wP];exact am.step HKP.out HN.out hb2);clear hb2 hcell hrun HCALL;go_wp2_with fail
    go_roundw
    case rel=>exact wB ⟨k+1,by go_num,by omega,HE.out⟩
    case measure=>simp [intOf];omega
  · obtain rfl:7=k:=by omega
    rw [show (bW x.r).take 7=bW x.r from rfl] at HG;clear hlt hlen
    as_aux_lemma=>
     go_wp2_with fail
     refine (ci wS wr GB WB sv1 (l++(bW x.r).flatten) HG.out b (o+16) x.since 9223372036854775807 (HP.out 16 _ rfl) hs0 HX.out.since (by simp only [wH];omega)).mono ?_;rintro e w2 ⟨rfl,hb2⟩;obtain ⟨sv2,hg2,hk2,hn2⟩:=am.step HKP.out HN.out hb2;have HG2:=wB hg2;have HK2:=wB hk2;have HN2:=wB hn2;have HQ:=wB (HK2.out.cell (HK.out.cell (HP0.out 17 _ rfl) id) HFR.out.not);clear hg2 hk2 hn2 hb2;go_wp2_with fail
     refine (ci wS w2 GB WB sv2 (l++(bW x.r).flatten++aO x.since.toNat) HG2.out b (o+17) x.number 9223372036854775807 HQ.out hn0 HX.out.number (by simp only [wH];omega)).mono ?_;rintro e w3 ⟨rfl,hb3⟩;have HE:=wB ((am.step HK2.out HN2.out hb3).after HK.out);clear hb3;go_wp2_with fail
     exact wR (v:=.tuple #[]) (by simp [results,Tryz.results164,go_sem]) rfl ⟨rfl,by simpa only [cK,wP] using HE.out⟩
def bj {α:Type} (f:α→List Int) (xs:List α):List Int:=aO xs.length++xs.flatMap f
theorem dk {α:Type} {f:α→List Int} {xs:List α} {n:Nat} (h:∀ x ∈ xs,(f x).length≤100) (hn:xs.length=n) (h2:n≤1048576):(bj f xs).length≤104857700:=by
 have h1:=c8 h;have h3:=dD (n:=xs.length) (by omega);rw [bj,wH];omega
theorem RdC.old {w:World} {b o:Nat} {l:List Value} (h:RdC w (some ⟨b,o,none⟩) l) (h0:l≠[]):b<w.heap.size:=by
 rcases h with h | ⟨b',o',he,hc⟩
 · exact absurd h h0
 · cases he
   cases l with
   | nil=>exact absurd rfl h0
   | cons a l=>exact wK w ⟨b,o+0,none⟩ (hc 0 a rfl)
theorem pM (args:Array Value) (w:World):(callFunc 164 args).run Tryz.prog w = .ok (.enter 164 args) w:=by kernel_rfl
theorem tk (wS w:World) (GB WB:Nat) (sv:Value) (l:List Int) (h:Gt wS GB WB sv l w) (RB off:Nat) (ao:Option Addr) (n c:Nat) (hs:w.cell? ⟨RB,off,none⟩=some (.slice ao n c)) (hfr:Free sv WB RB) (xs:List aa) (hx:xs.length=n) (hr:RdC wS ao (cellsOf aa.cells xs))
 (hok:∀ x ∈ xs,x.Ok) (hnn:∀ x ∈ xs,0≤x.since∧0≤x.number) (hn:n≤1048576) (mx:Int) (hl:l.length≤700000000) :
 Calls Tryz.prog 163 #[.pointer (some ⟨GB,0,none⟩),.pointer (some ⟨RB,off,none⟩),.int .i64 mx,.func (.func 164) #[.pointer (some ⟨GB,0,none⟩)] #[]] w fun e w'=>e = .returned (.tuple #[])∧am wS GB WB sv (l++bj cK xs) w w':=by
 have H:=wB h;have HFR:=wB hfr;have HX:=wB hx;have HR:=wB hr;have HOK:=wB hok;have HNO:=wB hnn;have HS:=wB hs;have hRB:RB<w.heap.size:=wK w _ hs;have hrun:=pM;clear h hfr hx hr hok hnn;go_enter Tryz.func163,Tryz.ntmps163
 go_wp2_with fail
 have HG0:=wB (H.out.alloc (.cells #[.int .i64 n] 3));have HBX0:=wB (al (wF w (.cells #[.int .i64 n] 3)));have HFL:=wB (Free.new H.out (b:=w.heap.size) (by omega));refine (ci wS (w.alloc (.cells #[.int .i64 n] 3)) GB WB sv l HG0.out w.heap.size 0 n mx HBX0.out (by omega) ⟨by omega,by omega⟩ (by omega)).mono ?_;rintro e w1 ⟨rfl,hb1⟩;rw [xM] at hb1;have HE0:=wB hb1;obtain ⟨svx,hgx,hkx,hnx⟩:=hb1;have gx:=hgx.cells;have HSA:=wB ((Keep.alloc (fun _=>False) w (.cells #[.int .i64 n] 3)).cell HS.out id);clear hgx hkx hnx hs;go_wp2_with fail
 clear gx;go_loopw [9] (fun i wr=>Hid (∃ k:Nat,i = .int .i64 k∧k≤n∧am wS GB WB sv (l++aO n++(xs.take k).flatMap cK) (w.alloc (.cells #[.int .i64 n] 3)) wr)) (fun i _=>n - (intOf i).toNat)
 case atStart=>exact wB ⟨0,rfl,xd _,by simpa using HE0.out⟩
 case round=>
  clear HE0;obtain ⟨k,rfl,hk,hw⟩:=hrel.out;clear hrel;have HW:=wB hw;obtain ⟨sv1,hg,hkp,hn1⟩:=hw;have HG:=wB hg;have HKP:=wB hkp;have HN:=wB hn1;clear hg hkp hn1;have g0:=HG.out.cells;have c0:=HKP.out.cell HBX0.out HFL.out.not;have c1:=HKP.out.cell HSA.out HFR.out.not;by_cases hlt:k<n
  · obtain ⟨x,hx⟩:∃ x,xs[k]?=some x:=⟨xs[k]'(by rw [HX.out];exact hlt),wE _⟩
    obtain ⟨b,o,rfl,_⟩:=HR.out.place (by rw [cellsOf_length _ 18 aa.cells_length,HX.out];omega);have hbS:b<wS.heap.size:=HR.out.old (fun he=>by have:=congrArg List.length he;rw [cellsOf_length _ 18 aa.cells_length,HX.out] at this;simp at this;omega);have HFE:=wB (Free.old HG.out hbS);have HCE:=wB (fun (j:Nat) (u:Value) (hu:x.cells[j]?=some u)=>show wr.cell? ⟨b,o+k*18+j,none⟩=some u from bl aa.cells_length (HR.out.below HG.out.below) hx j u hu);have HXO:=wB (HOK.out x (wM hx));have HNN:=wB (HNO.out x (wM hx));have HT:=wB (fM cK hx)
    have hlen:((xs.take k).flatMap cK).length≤104857600:=by
     have h1:=c8 (f:=cK) (L:=xs.take k) (fun y hy=>jP (HOK.out y (xN hy)));rw [wV] at h1;omega
    have hvn:=dD (n:=n) (by omega);clear hx hbS;go_wp2_with fail
    refine (gM wS wr GB WB sv1 _ HG.out).mono ?_;rintro e w2 ⟨rfl,he2⟩;replace he2:=he2.symm;subst he2;go_wp2_with fail
    refine (pL wS wr GB WB sv1 (l++aO n++(xs.take k).flatMap cK) HG.out b (o+k*18) x HXO.out HCE.out HFE.out HNN.out.1 HNN.out.2 (by rw [wH,wH];omega)).mono ?_;rintro r w2 ⟨rfl,hb2⟩;have HE:=wB (show am wS GB WB sv (l++aO n++(xs.take (k+1)).flatMap cK) (w.alloc (.cells #[.int .i64 n] 3)) w2 from by rw [HT.out,←wP];exact am.step HKP.out HN.out hb2);clear hb2 c0 c1 g0;go_wp2_with fail
    go_roundw
    case rel=>exact wB ⟨k+1,by go_num,by omega,HE.out⟩
    case measure=>simp [intOf];omega
  · obtain rfl:n=k:=by omega
    have HE:=wB (show am wS GB WB sv (l++bj cK xs) w wr from by
     have h1:=HW.out.after (Keep.alloc _ _ _);rw [xl (by rw [HX.out];exact wC _),wP] at h1;rw [bj,HX.out];exact h1)
    go_wp2_with fail
    exact wR (v:=.tuple #[]) (by simp [results,Tryz.results163,go_sem]) rfl ⟨rfl,HE.out⟩
theorem pN (args:Array Value) (w:World):(callFunc 166 args).run Tryz.prog w = .ok (.enter 166 args) w:=by kernel_rfl
theorem tl (wS w:World) (GB WB:Nat) (sv:Value) (l:List Int) (h:Gt wS GB WB sv l w) (RB off:Nat) (ao:Option Addr) (n c:Nat) (hs:w.cell? ⟨RB,off,none⟩=some (.slice ao n c)) (hfr:Free sv WB RB) (xs:List ak) (hx:xs.length=n) (hr:RdC wS ao (cellsOf ak.cells xs))
 (hok:∀ x ∈ xs,x.Ok) (hnn:∀ x ∈ xs,0≤x.number) (hn:n≤1048576) (mx:Int) (hl:l.length≤700000000) :
 Calls Tryz.prog 165 #[.pointer (some ⟨GB,0,none⟩),.pointer (some ⟨RB,off,none⟩),.int .i64 mx,.func (.func 166) #[.pointer (some ⟨GB,0,none⟩)] #[]] w fun e w'=>e = .returned (.tuple #[])∧am wS GB WB sv (l++bj idleB xs) w w':=by
 have H:=wB h;have HFR:=wB hfr;have HX:=wB hx;have HR:=wB hr;have HOK:=wB hok;have HNO:=wB hnn;have HS:=wB hs;have hRB:RB<w.heap.size:=wK w _ hs;have hrun:=pN;clear h hfr hx hr hok hnn;go_enter Tryz.func165,Tryz.ntmps165
 go_wp2_with fail
 have HG0:=wB (H.out.alloc (.cells #[.int .i64 n] 3));have HBX0:=wB (al (wF w (.cells #[.int .i64 n] 3)));have HFL:=wB (Free.new H.out (b:=w.heap.size) (by omega));refine (ci wS (w.alloc (.cells #[.int .i64 n] 3)) GB WB sv l HG0.out w.heap.size 0 n mx HBX0.out (by omega) ⟨by omega,by omega⟩ (by omega)).mono ?_;rintro e w1 ⟨rfl,hb1⟩;rw [xM] at hb1;have HE0:=wB hb1;obtain ⟨svx,hgx,hkx,hnx⟩:=hb1;have gx:=hgx.cells;have HSA:=wB ((Keep.alloc (fun _=>False) w (.cells #[.int .i64 n] 3)).cell HS.out id);clear hgx hkx hnx hs;go_wp2_with fail
 clear gx;go_loopw [9] (fun i wr=>Hid (∃ k:Nat,i = .int .i64 k∧k≤n∧am wS GB WB sv (l++aO n++(xs.take k).flatMap idleB) (w.alloc (.cells #[.int .i64 n] 3)) wr)) (fun i _=>n - (intOf i).toNat)
 case atStart=>exact wB ⟨0,rfl,xd _,by simpa using HE0.out⟩
 case round=>
  clear HE0;obtain ⟨k,rfl,hk,hw⟩:=hrel.out;clear hrel;have HW:=wB hw;obtain ⟨sv1,hg,hkp,hn1⟩:=hw;have HG:=wB hg;have HKP:=wB hkp;have HN:=wB hn1;clear hg hkp hn1;have g0:=HG.out.cells;have c0:=HKP.out.cell HBX0.out HFL.out.not;have c1:=HKP.out.cell HSA.out HFR.out.not;by_cases hlt:k<n
  · obtain ⟨x,hx⟩:∃ x,xs[k]?=some x:=⟨xs[k]'(by rw [HX.out];exact hlt),wE _⟩
    obtain ⟨b,o,rfl,_⟩:=HR.out.place (by rw [cellsOf_length _ 14 ak.cells_length,HX.out];omega);have hbS:b<wS.heap.size:=HR.out.old (fun he=>by have:=congrArg List.length he;rw [cellsOf_length _ 14 ak.cells_length,HX.out] at this;simp at this;omega);have HFE:=wB (Free.old HG.out hbS);have HCE:=wB (fun (j:Nat) (u:Value) (hu:x.cells[j]?=some u)=>show wr.cell? ⟨b,o+k*14+j,none⟩=some u from bl ak.cells_length (HR.out.below HG.out.below) hx j u hu);have HXO:=wB (HOK.out x (wM hx));have HNN:=wB (HNO.out x (wM hx));have HT:=wB (fM idleB hx)
    have hlen:((xs.take k).flatMap idleB).length≤104857600:=by
     have h1:=c8 (f:=idleB) (L:=xs.take k) (fun y hy=>jQ (HOK.out y (xN hy)));rw [wV] at h1;omega
    have hvn:=dD (n:=n) (by omega);clear hx hbS;go_wp2_with fail
    refine (gM wS wr GB WB sv1 _ HG.out).mono ?_;rintro e w2 ⟨rfl,he2⟩;replace he2:=he2.symm;subst he2;go_wp2_with fail
    refine (vi wS wr GB WB sv1 (l++aO n++(xs.take k).flatMap idleB) HG.out b (o+k*14) x HXO.out HCE.out HFE.out HNN.out (by rw [wH,wH];omega)).mono ?_;rintro r w2 ⟨rfl,hb2⟩;have HE:=wB (show am wS GB WB sv (l++aO n++(xs.take (k+1)).flatMap idleB) (w.alloc (.cells #[.int .i64 n] 3)) w2 from by rw [HT.out,←wP];exact am.step HKP.out HN.out hb2);clear hb2 c0 c1 g0;go_wp2_with fail
    go_roundw
    case rel=>exact wB ⟨k+1,by go_num,by omega,HE.out⟩
    case measure=>simp [intOf];omega
  · obtain rfl:n=k:=by omega
    have HE:=wB (show am wS GB WB sv (l++bj idleB xs) w wr from by
     have h1:=HW.out.after (Keep.alloc _ _ _);rw [xl (by rw [HX.out];exact wC _),wP] at h1;rw [bj,HX.out];exact h1)
    go_wp2_with fail
    exact wR (v:=.tuple #[]) (by simp [results,Tryz.results165,go_sem]) rfl ⟨rfl,HE.out⟩
theorem pO (args:Array Value) (w:World):(callFunc 168 args).run Tryz.prog w = .ok (.enter 168 args) w:=by kernel_rfl
theorem tn (wS w:World) (GB WB:Nat) (sv:Value) (l:List Int) (h:Gt wS GB WB sv l w) (RB off:Nat) (ao:Option Addr) (n c:Nat) (hs:w.cell? ⟨RB,off,none⟩=some (.slice ao n c)) (hfr:Free sv WB RB) (xs:List ab) (hx:xs.length=n) (hr:RdC wS ao (cellsOf ab.cells xs))
 (hok:∀ x ∈ xs,x.Ok) (hnn:∀ x ∈ xs,0≤x.r∧0≤x.c∧0≤x.w) (hn:n≤1048576) (mx:Int) (hl:l.length≤700000000) (BX:Nat) (hbx:w.heap[BX]?=some (.cells #[.pointer (some ⟨GB,0,none⟩)] 142 (0,0))) (hfb:Free sv WB BX) :
 Calls Tryz.prog 167 #[.pointer (some ⟨GB,0,none⟩),.pointer (some ⟨RB,off,none⟩),.int .i64 mx,.func (.func 168) #[] #[.pointer (some ⟨BX,0,none⟩)]] w fun e w'=>e = .returned (.tuple #[])∧am wS GB WB sv (l++bj dE xs) w w':=by
 have H:=wB h;have HFR:=wB hfr;have HX:=wB hx;have HR:=wB hr;have HOK:=wB hok;have HNO:=wB hnn;have HS:=wB hs;have hRB:RB<w.heap.size:=wK w _ hs;have hrun:=pO;have HBX:=wB hbx;have HFB:=wB hfb;have HBL:=wB (wJ hbx);clear hbx hfb;clear h hfr hx hr hok hnn;go_enter Tryz.func167,Tryz.ntmps167
 go_wp2_with fail
 have HG0:=wB (H.out.alloc (.cells #[.int .i64 n] 3));have HBX0:=wB (al (wF w (.cells #[.int .i64 n] 3)));have HFL:=wB (Free.new H.out (b:=w.heap.size) (by omega));refine (ci wS (w.alloc (.cells #[.int .i64 n] 3)) GB WB sv l HG0.out w.heap.size 0 n mx HBX0.out (by omega) ⟨by omega,by omega⟩ (by omega)).mono ?_;rintro e w1 ⟨rfl,hb1⟩;rw [xM] at hb1;have HE0:=wB hb1;obtain ⟨svx,hgx,hkx,hnx⟩:=hb1;have gx:=hgx.cells;have HSA:=wB ((Keep.alloc (fun _=>False) w (.cells #[.int .i64 n] 3)).cell HS.out id);clear hgx hkx hnx hs;go_wp2_with fail
 clear gx;go_loopw [9] (fun i wr=>Hid (∃ k:Nat,i = .int .i64 k∧k≤n∧am wS GB WB sv (l++aO n++(xs.take k).flatMap dE) (w.alloc (.cells #[.int .i64 n] 3)) wr)) (fun i _=>n - (intOf i).toNat)
 case atStart=>exact wB ⟨0,rfl,xd _,by simpa using HE0.out⟩
 case round=>
  clear HE0;obtain ⟨k,rfl,hk,hw⟩:=hrel.out;clear hrel;have HW:=wB hw;obtain ⟨sv1,hg,hkp,hn1⟩:=hw;have HG:=wB hg;have HKP:=wB hkp;have HN:=wB hn1;clear hg hkp hn1;have g0:=HG.out.cells;have c0:=HKP.out.cell HBX0.out HFL.out.not;have c1:=HKP.out.cell HSA.out HFR.out.not;by_cases hlt:k<n
  · obtain ⟨x,hx⟩:∃ x,xs[k]?=some x:=⟨xs[k]'(by rw [HX.out];exact hlt),wE _⟩
    obtain ⟨b,o,rfl,_⟩:=HR.out.place (by rw [cellsOf_length _ 3 ab.cells_length,HX.out];omega);have hbS:b<wS.heap.size:=HR.out.old (fun he=>by have:=congrArg List.length he;rw [cellsOf_length _ 3 ab.cells_length,HX.out] at this;simp at this;omega);have HFE:=wB (Free.old HG.out hbS);have HFB2:=wB (Free.next (w:=w.alloc (.cells #[.int .i64 n] 3)) HFB.out (by have:=HBL.out;simp;omega) HN.out);have HCE:=wB (fun (j:Nat) (u:Value) (hu:x.cells[j]?=some u)=>show wr.cell? ⟨b,o+k*3+j,none⟩=some u from bl ab.cells_length (HR.out.below HG.out.below) hx j u hu);have HXO:=wB (HOK.out x (wM hx));have HNN:=wB (HNO.out x (wM hx));have HT:=wB (fM dE hx)
    have hlen:((xs.take k).flatMap dE).length≤104857600:=by
     have h1:=c8 (f:=dE) (L:=xs.take k) (fun y hy=>jR (HOK.out y (xN hy)));rw [wV] at h1;omega
    have hvn:=dD (n:=n) (by omega);clear hx hbS;go_wp2_with fail
    refine (gM wS wr GB WB sv1 _ HG.out).mono ?_;rintro e w2 ⟨rfl,he2⟩;replace he2:=he2.symm;subst he2;go_wp2_with fail
    refine (vj wS wr GB WB sv1 (l++aO n++(xs.take k).flatMap dE) HG.out b (o+k*3) x HXO.out HCE.out HFE.out BX (HKP.out.old ((Keep.alloc (fun _=>False) _ _).old HBX.out id) HFB.out.not) (HFB2.out) HNN.out.1 HNN.out.2.1 HNN.out.2.2 (by rw [wH,wH];omega)).mono ?_;rintro r w2 ⟨rfl,hb2⟩;have HE:=wB (show am wS GB WB sv (l++aO n++(xs.take (k+1)).flatMap dE) (w.alloc (.cells #[.int .i64 n] 3)) w2 from by rw [HT.out,←wP];exact am.step HKP.out HN.out hb2);clear hb2 c0 c1 g0;go_wp2_with fail
    go_roundw
    case rel=>exact wB ⟨k+1,by go_num,by omega,HE.out⟩
    case measure=>simp [intOf];omega
  · obtain rfl:n=k:=by omega
    have HE:=wB (show am wS GB WB sv (l++bj dE xs) w wr from by
     have h1:=HW.out.after (Keep.alloc _ _ _);rw [xl (by rw [HX.out];exact wC _),wP] at h1;rw [bj,HX.out];exact h1)
    go_wp2_with fail
    exact wR (v:=.tuple #[]) (by simp [results,Tryz.results167,go_sem]) rfl ⟨rfl,HE.out⟩
theorem pP (args:Array Value) (w:World):(callFunc 170 args).run Tryz.prog w = .ok (.enter 170 args) w:=by kernel_rfl
theorem tp (wS w:World) (GB WB:Nat) (sv:Value) (l:List Int) (h:Gt wS GB WB sv l w) (RB off:Nat) (ao:Option Addr) (n c:Nat) (hs:w.cell? ⟨RB,off,none⟩=some (.slice ao n c)) (hfr:Free sv WB RB) (xs:List ai) (hx:xs.length=n) (hr:RdC wS ao (cellsOf ai.cells xs))
 (hok:∀ x ∈ xs,x.Ok) (hnn:∀ x ∈ xs,0≤x.r∧0≤x.c) (hn:n≤1048576) (mx:Int) (hl:l.length≤700000000) (BX:Nat) (hbx:w.heap[BX]?=some (.cells #[.pointer (some ⟨GB,0,none⟩)] 142 (0,0))) (hfb:Free sv WB BX) :
 Calls Tryz.prog 169 #[.pointer (some ⟨GB,0,none⟩),.pointer (some ⟨RB,off,none⟩),.int .i64 mx,.func (.func 170) #[] #[.pointer (some ⟨BX,0,none⟩)]] w fun e w'=>e = .returned (.tuple #[])∧am wS GB WB sv (l++bj dK xs) w w':=by
 have H:=wB h;have HFR:=wB hfr;have HX:=wB hx;have HR:=wB hr;have HOK:=wB hok;have HNO:=wB hnn;have HS:=wB hs;have hRB:RB<w.heap.size:=wK w _ hs;have hrun:=pP;have HBX:=wB hbx;have HFB:=wB hfb;have HBL:=wB (wJ hbx);clear hbx hfb;clear h hfr hx hr hok hnn;go_enter Tryz.func169,Tryz.ntmps169
 go_wp2_with fail
 have HG0:=wB (H.out.alloc (.cells #[.int .i64 n] 3));have HBX0:=wB (al (wF w (.cells #[.int .i64 n] 3)));have HFL:=wB (Free.new H.out (b:=w.heap.size) (by omega));refine (ci wS (w.alloc (.cells #[.int .i64 n] 3)) GB WB sv l HG0.out w.heap.size 0 n mx HBX0.out (by omega) ⟨by omega,by omega⟩ (by omega)).mono ?_;rintro e w1 ⟨rfl,hb1⟩;rw [xM] at hb1;have HE0:=wB hb1;obtain ⟨svx,hgx,hkx,hnx⟩:=hb1;have gx:=hgx.cells;have HSA:=wB ((Keep.alloc (fun _=>False) w (.cells #[.int .i64 n] 3)).cell HS.out id);clear hgx hkx hnx hs;go_wp2_with fail
 clear gx;go_loopw [9] (fun i wr=>Hid (∃ k:Nat,i = .int .i64 k∧k≤n∧am wS GB WB sv (l++aO n++(xs.take k).flatMap dK) (w.alloc (.cells #[.int .i64 n] 3)) wr)) (fun i _=>n - (intOf i).toNat)
 case atStart=>exact wB ⟨0,rfl,xd _,by simpa using HE0.out⟩
 case round=>
  clear HE0;obtain ⟨k,rfl,hk,hw⟩:=hrel.out;clear hrel;have HW:=wB hw;obtain ⟨sv1,hg,hkp,hn1⟩:=hw;have HG:=wB hg;have HKP:=wB hkp;have HN:=wB hn1;clear hg hkp hn1;have g0:=HG.out.cells;have c0:=HKP.out.cell HBX0.out HFL.out.not;have c1:=HKP.out.cell HSA.out HFR.out.not;by_cases hlt:k<n
  · obtain ⟨x,hx⟩:∃ x,xs[k]?=some x:=⟨xs[k]'(by rw [HX.out];exact hlt),wE _⟩
    obtain ⟨b,o,rfl,_⟩:=HR.out.place (by rw [cellsOf_length _ 2 ai.cells_length,HX.out];omega);have hbS:b<wS.heap.size:=HR.out.old (fun he=>by have:=congrArg List.length he;rw [cellsOf_length _ 2 ai.cells_length,HX.out] at this;simp at this;omega);have HFE:=wB (Free.old HG.out hbS);have HFB2:=wB (Free.next (w:=w.alloc (.cells #[.int .i64 n] 3)) HFB.out (by have:=HBL.out;simp;omega) HN.out);have HCE:=wB (fun (j:Nat) (u:Value) (hu:x.cells[j]?=some u)=>show wr.cell? ⟨b,o+k*2+j,none⟩=some u from bl ai.cells_length (HR.out.below HG.out.below) hx j u hu);have HXO:=wB (HOK.out x (wM hx));have HNN:=wB (HNO.out x (wM hx));have HT:=wB (fM dK hx)
    have hlen:((xs.take k).flatMap dK).length≤104857600:=by
     have h1:=c8 (f:=dK) (L:=xs.take k) (fun y hy=>jS (HOK.out y (xN hy)));rw [wV] at h1;omega
    have hvn:=dD (n:=n) (by omega);clear hx hbS;go_wp2_with fail
    refine (gM wS wr GB WB sv1 _ HG.out).mono ?_;rintro e w2 ⟨rfl,he2⟩;replace he2:=he2.symm;subst he2;go_wp2_with fail
    refine (vk wS wr GB WB sv1 (l++aO n++(xs.take k).flatMap dK) HG.out b (o+k*2) x HXO.out HCE.out HFE.out BX (HKP.out.old ((Keep.alloc (fun _=>False) _ _).old HBX.out id) HFB.out.not) (HFB2.out) HNN.out.1 HNN.out.2 (by rw [wH,wH];omega)).mono ?_;rintro r w2 ⟨rfl,hb2⟩;have HE:=wB (show am wS GB WB sv (l++aO n++(xs.take (k+1)).flatMap dK) (w.alloc (.cells #[.int .i64 n] 3)) w2 from by rw [HT.out,←wP];exact am.step HKP.out HN.out hb2);clear hb2 c0 c1 g0;go_wp2_with fail
    go_roundw
    case rel=>exact wB ⟨k+1,by go_num,by omega,HE.out⟩
    case measure=>simp [intOf];omega
  · obtain rfl:n=k:=by omega
    have HE:=wB (show am wS GB WB sv (l++bj dK xs) w wr from by
     have h1:=HW.out.after (Keep.alloc _ _ _);rw [xl (by rw [HX.out];exact wC _),wP] at h1;rw [bj,HX.out];exact h1)
    go_wp2_with fail
    exact wR (v:=.tuple #[]) (by simp [results,Tryz.results169,go_sem]) rfl ⟨rfl,HE.out⟩
theorem vl (wS w:World) (GB WB:Nat) (sv:Value) (l:List Int) (h:Gt wS GB WB sv l w) (RB off:Nat) (ao:Option Addr) (n c:Nat) (hs:w.cell? ⟨RB,off,none⟩=some (.slice ao n c)) (hfr:Free sv WB RB) (xs:List Int) (hx:xs.length=n) (hr:RdC wS ao (cellsOf bL xs))
 (hok:∀ x ∈ xs,ar x) (hn:n≤1048576) (hl:l.length≤700000000) :
 Calls Tryz.prog 171 #[.pointer (some ⟨GB,0,none⟩),.pointer (some ⟨RB,off,none⟩),.int .i64 n] w fun e w'=>e = .returned (.tuple #[])∧am wS GB WB sv (l++xs.flatMap cY) w w':=by
 have H:=wB h;have HFR:=wB hfr;have HX:=wB hx;have HR:=wB hr;have HOK:=wB hok;have HS:=wB hs;clear h hfr hx hr hok hs;go_enter Tryz.func171,Tryz.ntmps171
 go_wp2_with fail
 go_loopw [6] (fun i wr=>Hid (∃ k:Nat,i = .int .i64 k∧k≤n∧am wS GB WB sv (l++(xs.take k).flatMap cY) w wr)) (fun i _=>n - (intOf i).toNat)
 case atStart=>exact wB ⟨0,rfl,xd _,by simpa using am.nil H.out⟩
 case round=>
  obtain ⟨k,rfl,hk,hw⟩:=hrel.out;clear hrel;have HW:=wB hw;obtain ⟨sv1,hg,hkp,hn1⟩:=hw;have HG:=wB hg;have HKP:=wB hkp;have HN:=wB hn1;clear hg hkp hn1;have g0:=HG.out.cells;have c1:=HKP.out.cell HS.out HFR.out.not;by_cases hlt:k<n
  · obtain ⟨x,hx⟩:∃ x,xs[k]?=some x:=⟨xs[k]'(by rw [HX.out];exact hlt),wE _⟩
    obtain ⟨b,o,rfl,_⟩:=HR.out.place (by rw [cellsOf_length _ 1 bC,HX.out];omega);have HCE:=wB (gm (HR.out.below HG.out.below) hx);have HXO:=wB (HOK.out x (wM hx));have HT:=wB (fM cY hx)
    have hlen:((xs.take k).flatMap cY).length≤104857600:=by
     have h1:=c8 (f:=cY) (m:=10) (L:=xs.take k) (fun y hy=>ee y);rw [wV] at h1;omega
    clear hx;go_wp2_with fail
    refine (gM wS wr GB WB sv1 _ HG.out).mono ?_;rintro e w2 ⟨rfl,he2⟩;replace he2:=he2.symm;subst he2;go_wp2_with fail
    refine (ig wS wr GB WB sv1 (l++(xs.take k).flatMap cY) HG.out b (o+k) x HCE.out HXO.out (by rw [wH];omega)).mono ?_;rintro r w2 ⟨rfl,hb2⟩;have HE:=wB (show am wS GB WB sv (l++(xs.take (k+1)).flatMap cY) w w2 from by rw [HT.out,←wP];exact am.step HKP.out HN.out hb2);clear hb2 c1 g0;go_wp2_with fail
    go_roundw
    case rel=>exact wB ⟨k+1,by go_num,by omega,HE.out⟩
    case measure=>simp [intOf];omega
  · obtain rfl:n=k:=by omega
    have HE:=wB (show am wS GB WB sv (l++xs.flatMap cY) w wr from by
     have h1:=HW.out;rw [xl (by rw [HX.out];exact wC _)] at h1;exact h1)
    go_wp2_with fail
    exact wR (v:=.tuple #[]) (by simp [results,Tryz.results171,go_sem]) rfl ⟨rfl,HE.out⟩
theorem tq (w:World) (ao bo:Option Addr) (n m c c':Nat) (ws:List aa) (ds:List ak) (hn:ws.length=n) (hm:ds.length=m) (hw:RdC w ao (cellsOf aa.cells ws)) (hd:RdC w bo (cellsOf ak.cells ds))
 (how:∀ x ∈ ws,x.Ok) (hod:∀ x ∈ ds,x.Ok) (hn':n≤1048576) (hm':m≤1048576) :
 Calls Tryz.prog 130 #[.slice ao n c,.slice bo m c'] w fun e w'=>∃ v,e = .returned v∧Grown w ai.cells 2 (cR ws ds) v w':=by
 have HN:=wB hn;have HM:=wB hm;have HW:=wB hw;have HD:=wB hd;have HOW:=wB how;have HOD:=wB hod;clear hn hm hw hd how hod;go_enter Tryz.func130,Tryz.ntmps130
 go_wp2_with fail
 have hst:=wB (show Grown w ai.cells 2 (aV ws ds 0 0) (.slice none 0 0) w from Grown.begin _ _ _);obtain ⟨i5,hi,hz0,hz1,hz2⟩:=dF jq;go_loopw [5,10] (fun a i wr=>Hid (∃ p:Nat,i = .int .i64 p∧p≤n∧Grown w ai.cells 2 (aV ws ds p 0) a wr)) (fun _ i _=>n - (intOf i).toNat)
 case atStart=>exact wB ⟨0,rfl,xd _,hst.out⟩
 case round=>
  obtain ⟨p,rfl,hp,hrel1⟩:=hrel.out;clear hrel;have HR:=wB hrel1;clear hrel1;by_cases hlt:p<n
  · obtain ⟨x,hx⟩:∃ x,ws[p]?=some x:=⟨ws[p]'(by rw [HN.out];exact hlt),wE _⟩
    obtain ⟨b,o,rfl,_⟩:=HW.out.place (by rw [cellsOf_length _ 18 aa.cells_length,HN.out];omega);have HX:=wB hx;have HXO:=wB (HOW.out x (wM hx));clear hx;go_wp2_with fail
    go_loopw [5,15] (fun a i wr=>Hid (∃ q:Nat,i = .int .i64 q∧q≤m∧Grown w ai.cells 2 (aV ws ds p q) a wr)) (fun _ i _=>m - (intOf i).toNat)
    case atStart=>exact wB ⟨0,rfl,xd _,HR.out⟩
    case round=>
     obtain ⟨q,rfl,hq,hrel1⟩:=hrel.out;clear hrel;have HR1:=wB hrel1;clear hrel1;by_cases hqm:q<m
     · obtain ⟨y,hy⟩:∃ y,ds[q]?=some y:=⟨ds[q]'(by rw [HM.out];exact hqm),wE _⟩
       obtain ⟨b',o',rfl,_⟩:=HD.out.place (by rw [cellsOf_length _ 14 ak.cells_length,HM.out];omega);have HY:=wB hy;have HYO:=wB (HOD.out y (wM hy));clear hy;go_wp2_with fail
       have cQ:∀ dd os,Calls Tryz.prog 28 #[.agg #[.int .u8 x.r.i0,.int .u8 x.r.i1,.int .u8 x.r.i2,.int .u8 x.r.i3,.int .u8 x.r.i4,.int .u8 x.r.i5,.int .u8 x.r.i6,.int .u8 x.r.i7,.int .i16 x.r.fx,.int .i16 x.r.fy,.int .i16 x.r.tx,.int .i16 x.r.ty,.int .u8 x.r.seats,.int .u8 x.r.classes,.int .i64 x.r.base,.int .i64 x.r.ttl],.agg #[.int .u8 y.d.i0,.int .u8 y.d.i1,.int .u8 y.d.i2,.int .u8 y.d.i3,.int .u8 y.d.i4,.int .u8 y.d.i5,.int .u8 y.d.i6,.int .u8 y.d.i7,.int .i16 y.d.ax,.int .i16 y.d.ay,.int .u8 y.d.seats,.int .u8 y.d.cls,.int .i64 y.d.radius]] (grow (redrawn wr dd) os) fun e w''=>e = .returned (.bool (lq x.r y.d))∧∃ p:Regrown,w''=grow (redrawn wr p.d) p.os:=fun dd os=>Calls.regrown_of (fits_any _ _ _ HXO.out.r HYO.out.d)
       obtain ⟨k0,k1,k2,k3,k4,k5,k6,k7,k8,k9,k10,k11,k12,k13,k14,k15,k16,k17⟩:=vw (HW.out.below HR1.out.below) HX.out;obtain ⟨j0,j1,j2,j3,j4,j5,j6,j7,j8,j9,j10,j11,j12,j13⟩:=vy (HD.out.below HR1.out.below) HY.out;have HF:=wB (ub HX.out HY.out);refine wp_region_quiet_below (by kernel_rfl) (by kernel_rfl) ?_
       repeat (go_big_quiet_step (exact cQ _ _))
       refine wpQuiet_nil ?_;intro _ hw';obtain ⟨⟨dq,osq⟩,hw''⟩:=hw';subst hw'';clear cQ k0 k1 k2 k3 k4 k5 k6 k7 k8 k9 k10 k11 k12 k13 k14 k15 k16 k17 j0 j1 j2 j3 j4 j5 j6 j7 j8 j9 j10 j11 j12 j13;have HBX:=wB (below_regrown wr dq osq);generalize grow (redrawn wr dq) osq=WX at *;cases hfit:lq x.r y.d with
       | true=>
         rw [hfit] at HF;have hlen:=oJ ws ds p q
         have hsmall:(aV ws ds p q).length+1≤1099512676353:=by
          have h1:p*ds.length≤1048576*1048576:=Nat.mul_le_mul (by omega) (by rw [HM.out];exact hm');omega
         clear hlen;have HG:=wB (HR1.out.next HBX.out);go_wp2_with (at_builtin;refine du rfl (.tmp 29) (.tmp 33) 29 29 rfl 69 i5 nT 2 16 Tryz.underlying29 hi hz0 hz1 hz2 rfl u5 (aV ws ds p q).length _ rfl (HG.out.own.keep (Keep.alloc (fun _=>False) _ _) (fun _ _=>id)) (.slice (some ⟨WX.heap.size,0,none⟩) 1 1) 1 (ai.cells ⟨p,q⟩) rfl (Src.lit Tryz.underlying29 2 _ rfl (ai.cells_one _) _ _ rfl) (by omega) (by unfold maxLen;omega) (by omega) ?_)
         intro g cap w2 ho2 hc2
         have hrel2:=wB (show Grown w ai.cells 2 (aV ws ds p (q+1)) (.slice (some ⟨g,0,none⟩) ((aV ws ds p q).length+1) cap) w2 from by
          rw [oK HF.out];exact HG.out.app (Keep.alloc (fun _=>False) _ _) ho2 hc2)
         clear ho2 hc2;generalize (aV ws ds p q).length=N at *;go_wp2_with fail
         go_roundw
         case rel=>exact wB ⟨q+1,by go_num,by omega,hrel2.out⟩
         case measure=>simp [intOf];omega
       | false=>
         rw [hfit] at HF
         have hrel2:=wB (show Grown w ai.cells 2 (aV ws ds p (q+1)) u5 WX from by
          rw [qv HF.out];exact HR1.out.next HBX.out)
         go_wp2_with fail
         go_roundw
         case rel=>exact wB ⟨q+1,by go_num,by omega,hrel2.out⟩
         case measure=>simp [intOf];omega
     · obtain rfl:m=q:=by omega
       go_wp2_with fail
       go_roundw
       case rel=>exact wB ⟨p+1,by go_num,by omega,by rw [np,HM.out];exact HR1.out⟩
       case measure=>simp [intOf];omega
  · obtain rfl:n=p:=by omega
    go_wp2_with fail
    go_ret
    refine ⟨_,rfl,?_⟩;rw [←oL,HN.out];exact HR.out
theorem ro (w:World) (c:ag) (now:Int) (ao bo:Option Addr) (n m c' c'':Nat) (ws:List aa) (ds:List ak) (hnow:ar now) (hn:ws.length=n) (hm:ds.length=m) (hw:RdC w ao (cellsOf aa.cells ws)) (hd:RdC w bo (cellsOf ak.cells ds))
 (how:∀ x ∈ ws,x.Ok) (hod:∀ x ∈ ds,x.Ok) (hn':n≤1048576) (hm':m≤1048576) :
 Calls Tryz.prog 85 #[.agg #[.int .i64 c.q,.int .i64 c.d,.int .i64 c.w,.int .i64 c.ttl,.int .i64 c.b],.int .i64 now,.slice ao n c',.slice bo m c''] w (GraphPost w c now ws ds):=by
 have HN:=wB hn;have HM:=wB hm;have HWR:=wB hw;have HDR:=wB hd;have HOW:=wB how;have HOD:=wB hod;have HNOW:=wB hnow;clear hn hm hw hd how hod hnow;have HW:=wB (dG.begin w c);go_enter Tryz.func85,Tryz.ntmps85
 go_upto_region 1 with fail
 generalize (w.alloc (.cells #[.int .i64 c.q,.int .i64 c.d,.int .i64 c.w,.int .i64 c.ttl,.int .i64 c.b] 23)).alloc (.cells #[.int .i64 0,.int .i64 0,.slice none 0 0] 28)=W at *;have hH8:w.heap.size≤w.heap.size+1:=by omega
 have hne8:w.heap.size<w.heap.size+1:=by omega
 generalize w.heap.size+1=H8 at *;have HHE:=wB (show ∃ H0,w.heap.size=H0 from ⟨_,rfl⟩);obtain ⟨H0,hH0⟩:=HHE.out;have H8L:=wB hH8;clear hH8;rw [hH0] at HW hne8;rw [hH0];have HH:=wB hH0;clear hH0 HHE;go_wp2_with (first | ((with_reducible refine ad (o:=⟨some 20,_,_,_,_,_⟩) ?_ 23 (.tmp 4) ?_ H0 (0) ?_ c.cells #[.int .i64 c.q,.int .i64 c.d,.int .i64 c.w,.int .i64 c.ttl,.int .i64 c.b] ?_ _ (cq HW.out.g) Tryz.underlying23 ?_ ?_ ?_);rfl;rfl;rfl;rfl;rfl;exact cg))
 refine (dN W c).mono ?_;rintro e w1 ⟨rfl,hb1⟩;have HW1:=wB (HW.out.keep hb1);clear hb1 HW;obtain ⟨r0,r1,r2,rf⟩:=cells3 HW1.out.r;cases hc:aG c with
 | false=>
   have HE:=wB (tZ (now:=now) (ws:=ws) (ds:=ds) hc);rw [show aA c=160 by simp [aA,hc]];clear hc;have HBW:=wB (HW1.out.write H8L.out (.int .i64 0) (.int .i64 0) (.slice none 0 0));have HQ:=wB (dj HW1.out.r (.int .i64 0) (.int .i64 0) (.slice none 0 0));go_wp2_with fail
   generalize ((w1.setCell ⟨H8,0,none⟩ (.int .i64 0)).setCell ⟨H8,1,none⟩ (.int .i64 0)).setCell ⟨H8,2,none⟩ (.slice none 0 0)=WF at *;obtain ⟨q0,q1,q2⟩:=HQ.out;exact xe (v:=.tuple #[.agg #[.int .i64 0,.int .i64 0,.slice none 0 0],.int .i64 160]) (by simp [results,Tryz.results85,go_sem,q0,q1,q2]) rfl (GraphPost.no HE.out (by omega) HBW.out)
 | true=>
   have HC:=wB hc;rw [show aA c=0 by simp [aA,hc]];clear hc;go_wp2_with fail
   refine (mg w1 now).mono ?_;rintro e w2 ⟨rfl,rfl⟩;cases ht:eh now with
   | false=>
     have HE:=wB (t7 (ws:=ws) (ds:=ds) HC.out ht);clear ht;have HBW:=wB (HW1.out.write H8L.out (.int .i64 0) (.int .i64 0) (.slice none 0 0));have HQ:=wB (dj HW1.out.r (.int .i64 0) (.int .i64 0) (.slice none 0 0));go_wp2_with fail
     generalize ((w1.setCell ⟨H8,0,none⟩ (.int .i64 0)).setCell ⟨H8,1,none⟩ (.int .i64 0)).setCell ⟨H8,2,none⟩ (.slice none 0 0)=WF at *;obtain ⟨q0,q1,q2⟩:=HQ.out;exact xe (v:=.tuple #[.agg #[.int .i64 0,.int .i64 0,.slice none 0 0],.int .i64 1]) (by simp [results,Tryz.results85,go_sem,q0,q1,q2]) rfl (GraphPost.no HE.out (by omega) HBW.out)
   | true=>
     have HT:=wB ht;clear ht;have hsz:(64<n∨(n≤64∧64<m))∨(n≤64∧m≤64):=by omega
     rcases hsz with h | ⟨h1,h2⟩
     · have HE:=wB (t8 (ws:=ws) (ds:=ds) HC.out HT.out (by rw [HN.out,HM.out];omega))
       rcases h with h1 | ⟨h1,h2⟩
       all_goals
        have HBW:=wB (HW1.out.write H8L.out (.int .i64 0) (.int .i64 0) (.slice none 0 0));have HQ:=wB (dj HW1.out.r (.int .i64 0) (.int .i64 0) (.slice none 0 0));go_wp2_with fail
        generalize ((w1.setCell ⟨H8,0,none⟩ (.int .i64 0)).setCell ⟨H8,1,none⟩ (.int .i64 0)).setCell ⟨H8,2,none⟩ (.slice none 0 0)=WF at *;obtain ⟨q0,q1,q2⟩:=HQ.out;exact xe (v:=.tuple #[.agg #[.int .i64 0,.int .i64 0,.slice none 0 0],.int .i64 3]) (by simp [results,Tryz.results85,go_sem,q0,q1,q2]) rfl (GraphPost.no HE.out (by omega) HBW.out)
     have HSZ:=wB (show ¬ (64<ws.length∨64<ds.length) by rw [HN.out,HM.out];omega);obtain ⟨i6,hi6,hz60,hz61,hz62⟩:=dF nU
     have hmk:∀ wx:World,(Instr.makeSlice 30 (.int .i64 n) (.int .i64 n)).run Tryz.prog wx = .ok (.slice (some ⟨wx.heap.size,0,none⟩) n n) (wx.alloc (.cells (Array.replicate n (Value.int .i64 0)) 3)):=fun wx=>by
      have h:=run_make (P:=Tryz.prog) wx 30 3 i6 (.int .i64 0) Tryz.underlying30 hi6 hz60 .i64 .i64 (n:Int) (n:Int) (by omega) (by omega) (by rw [hz62];omega) (by omega);simp only [xM] at h;rw [h]
      have hc:madeCells (Value.int .i64 0).cells (n*i6.size)=(Array.replicate n (Value.int .i64 0)):=by
       apply Array.ext
       · rw [size_madeCells,hz61];simp
       · intro j h1 h2
         simp [madeCells,Value.cells,Nat.mod_one]
      rw [hc]
     have HG:=wB (show dG w c H0 H8 (w1.alloc (.cells (Array.replicate n (Value.int .i64 0)) 3))∧Row (w1.alloc (.cells (Array.replicate n (Value.int .i64 0)) 3)) w1.heap.size n 1 (kI c now ws n 0) from
      ⟨HW1.out.one _,Row.made w1 _ 3 (0,0) n 1 _ (by simp) (.inl rfl) (fun j u hu=>by rw [sB] at hu;simpa [Array.getElem?_replicate,List.getElem?_replicate] using hu)⟩)
     have hH8G:H8<w1.heap.size:=wJ HW1.out.r;go_wp2_with fail
     generalize w1.alloc (.cells (Array.replicate n (Value.int .i64 0)) 3)=W2 at *;clear hmk r0 r1 r2 rf hi6 hz60 hz61 hz62;generalize w1.heap.size=G at *;go_loopw [45] (fun i wr=>Hid (∃ k:Nat,i = .int .i64 k∧k≤n∧(∀ (j:Nat) (y:aa),j<k→ws[j]?=some y→(wtP c now y).2=0)∧dG w c H0 H8 wr∧Row wr G n 1 (kI c now ws n k))) (fun i _=>n - (intOf i).toNat)
     case atStart=>exact wB ⟨0,rfl,xd _,fun j y h=>absurd h (Nat.not_lt_zero j),HG.out.1,HG.out.2⟩
     case round=>
      obtain ⟨k,rfl,hk,hall,hgh,hrow⟩:=hrel.out;clear hrel;have HALL:=wB hall;have HR1:=wB hgh;have HROW:=wB hrow;clear hall hgh hrow;by_cases hlt:k<n
      · obtain ⟨x,hx⟩:∃ x,ws[k]?=some x:=⟨ws[k]'(by rw [HN.out];exact hlt),wE _⟩
        obtain ⟨b,o,rfl,_⟩:=HWR.out.place (by rw [cellsOf_length _ 18 aa.cells_length,HN.out];omega);have HCE:=wB (fm (HWR.out.below HR1.out.below) hx);have HX:=wB hx;have HXO:=wB (HOW.out x (wM hx));clear hx;go_wp2_with (first | ((with_reducible refine ad (o:=⟨some 49,_,_,_,_,_⟩) ?_ 79 (.tmp 48) ?_ b (o+k*18) ?_ x.cells #[.int .u8 x.r.i0,.int .u8 x.r.i1,.int .u8 x.r.i2,.int .u8 x.r.i3,.int .u8 x.r.i4,.int .u8 x.r.i5,.int .u8 x.r.i6,.int .u8 x.r.i7,.int .i16 x.r.fx,.int .i16 x.r.fy,.int .i16 x.r.tx,.int .i16 x.r.ty,.int .u8 x.r.seats,.int .u8 x.r.classes,.int .i64 x.r.base,.int .i64 x.r.ttl,.int .i64 x.since,.int .i64 x.number] ?_ _ HCE.out Tryz.underlying79 ?_ ?_ ?_);rfl;rfl;rfl;rfl;rfl;exact bd) | ((with_reducible refine aj (o:=⟨none,.store 79 (.tmp 13) (.tmp 49),_,_,_,_⟩) ?_ 79 (.tmp 13) (.tmp 49) ?_ _ #[.int .u8 x.r.i0,.int .u8 x.r.i1,.int .u8 x.r.i2,.int .u8 x.r.i3,.int .u8 x.r.i4,.int .u8 x.r.i5,.int .u8 x.r.i6,.int .u8 x.r.i7,.int .i16 x.r.fx,.int .i16 x.r.fy,.int .i16 x.r.tx,.int .i16 x.r.ty,.int .u8 x.r.seats,.int .u8 x.r.classes,.int .i64 x.r.base,.int .i64 x.r.ttl,.int .i64 x.since,.int .i64 x.number] ?_ ?_ x.cells ?_ ?_ ?_ x.cells_one ?_);rfl;rfl;rfl;rfl;rfl;exact bd;rfl) | ((with_reducible refine ad (o:=⟨some 53,_,_,_,_,_⟩) ?_ 23 (.tmp 4) ?_ H0 (0) ?_ c.cells #[.int .i64 c.q,.int .i64 c.d,.int .i64 c.w,.int .i64 c.ttl,.int .i64 c.b] ?_ _ (cq (HR1.out.one _).g) Tryz.underlying23 ?_ ?_ ?_);rfl;rfl;rfl;rfl;rfl;exact cg) | ((with_reducible refine ad (o:=⟨some 55,_,_,_,_,_⟩) ?_ 79 (.tmp 13) ?_ wr.heap.size (0) ?_ x.cells #[.int .u8 x.r.i0,.int .u8 x.r.i1,.int .u8 x.r.i2,.int .u8 x.r.i3,.int .u8 x.r.i4,.int .u8 x.r.i5,.int .u8 x.r.i6,.int .u8 x.r.i7,.int .i16 x.r.fx,.int .i16 x.r.fy,.int .i16 x.r.tx,.int .i16 x.r.ty,.int .u8 x.r.seats,.int .u8 x.r.classes,.int .i64 x.r.base,.int .i64 x.r.ttl,.int .i64 x.since,.int .i64 x.number] ?_ _ (qA (wF wr _)) Tryz.underlying79 ?_ ?_ ?_);rfl;rfl;rfl;rfl;rfl;exact bd))
        have HR2:=wB (HR1.out.one (.cells #[.int .u8 x.r.i0,.int .u8 x.r.i1,.int .u8 x.r.i2,.int .u8 x.r.i3,.int .u8 x.r.i4,.int .u8 x.r.i5,.int .u8 x.r.i6,.int .u8 x.r.i7,.int .i16 x.r.fx,.int .i16 x.r.fy,.int .i16 x.r.tx,.int .i16 x.r.ty,.int .u8 x.r.seats,.int .u8 x.r.classes,.int .i64 x.r.base,.int .i64 x.r.ttl,.int .i64 x.since,.int .i64 x.number] 79));have HROW2:=wB (HROW.out.keep (Keep.alloc (fun _=>False) wr (.cells #[.int .u8 x.r.i0,.int .u8 x.r.i1,.int .u8 x.r.i2,.int .u8 x.r.i3,.int .u8 x.r.i4,.int .u8 x.r.i5,.int .u8 x.r.i6,.int .u8 x.r.i7,.int .i16 x.r.fx,.int .i16 x.r.fy,.int .i16 x.r.tx,.int .i16 x.r.ty,.int .u8 x.r.seats,.int .u8 x.r.classes,.int .i64 x.r.base,.int .i64 x.r.ttl,.int .i64 x.since,.int .i64 x.number] 79)) id);generalize wr.alloc (.cells #[.int .u8 x.r.i0,.int .u8 x.r.i1,.int .u8 x.r.i2,.int .u8 x.r.i3,.int .u8 x.r.i4,.int .u8 x.r.i5,.int .u8 x.r.i6,.int .u8 x.r.i7,.int .i16 x.r.fx,.int .i16 x.r.fy,.int .i16 x.r.tx,.int .i16 x.r.ty,.int .u8 x.r.seats,.int .u8 x.r.classes,.int .i64 x.r.base,.int .i64 x.r.ttl,.int .i64 x.since,.int .i64 x.number] 79)=W3 at *;refine (vq W3 c now x HXO.out HNOW.out).mono ?_;rintro e w4 ⟨rfl,hb4⟩;have HR4:=wB (HR2.out.keep hb4);have HROW4:=wB (HROW2.out.keep (Keep.of_below hb4 (wC _) (fun _=>False)) id);clear hb4 HR1 HR2 HROW HROW2 HCE HXO;have hc0:w4.cell? ⟨G,k,none⟩=some (.int .i64 0):=HROW4.out.cell k _ (sD HN.out hlt);have hf0:w4.frozen? ⟨G,k,none⟩=false:=HROW4.out.free k (by omega);have HR5:=wB (HR4.out.set hne8 hH8G H8L.out k (.int .i64 (wtP c now x).1));have HROW5:=wB (HROW4.out.set k (.int .i64 (wtP c now x).1) (by omega));rw [←sC HN.out HX.out] at HROW5;obtain ⟨A,E,hAE⟩:∃ A E,wtP c now x=(A,E):=⟨_,_,rfl⟩;rw [hAE] at HR5 HROW5 ⊢;have HAE:=wB hAE;clear hAE HR4 HROW4;by_cases h0:E=0
        · have HA:=wB (show ∀ (j:Nat) (y:aa),j<k+1→ws[j]?=some y→(wtP c now y).2=0 from fun j y hj hy=>by
           rcases xy.1 hj with hj | rfl
           · exact HALL.out j y hj hy
           · rw [HX.out] at hy;cases hy;rw [HAE.out];exact h0)
          have e1:(E==0)=true:=by simp [h0]
          have e2:(E != 0)=false:=by simp [h0]
          clear h0;go_wp2_with fail
          go_roundw
          case rel=>exact wB ⟨k+1,by go_num,by omega,HA.out,HR5.out,HROW5.out⟩
          case measure=>simp [intOf];omega
        · have HE:=wB (show bA c now ws ds=E by
           have h1:=mG HX.out (by rw [HAE.out];exact h0) HALL.out;rw [HAE.out] at h1;rw [t9 HC.out HT.out HSZ.out (by rw [h1];exact h0),h1])
          have HE0:=wB h0;have e1:(E==0)=false:=by simp [h0]
          have e2:(E != 0)=true:=by simp [h0]
          clear h0;obtain ⟨r0,r1,r2,rf⟩:=cells3 HR5.out.r;have HR6:=wB (show dG w c H0 H8 (w4.setCell ⟨G,k,none⟩ (.int .i64 A)) from HR5.out);go_upto_region 15 with fail
          generalize w4.setCell ⟨G,k,none⟩ (.int .i64 A)=W5 at *;have HBW:=wB (HR6.out.write H8L.out (.int .i64 0) (.int .i64 0) (.slice none 0 0));have HQ:=wB (dj HR6.out.r (.int .i64 0) (.int .i64 0) (.slice none 0 0));go_wp2_with fail
          generalize ((W5.setCell ⟨H8,0,none⟩ (.int .i64 0)).setCell ⟨H8,1,none⟩ (.int .i64 0)).setCell ⟨H8,2,none⟩ (.slice none 0 0)=WF at *;obtain ⟨q0,q1,q2⟩:=HQ.out;exact xe (v:=.tuple #[.agg #[.int .i64 0,.int .i64 0,.slice none 0 0],.int .i64 E]) (by simp [results,Tryz.results85,go_sem,q0,q1,q2]) rfl (GraphPost.no HE.out HE0.out HBW.out)
      · obtain rfl:n=k:=by omega
        have HWE:=wB (oC (c:=c) (now:=now) (l:=ws) (fun j y hy=>HALL.out j y (by rw [←HN.out];exact (wD.1 hy).1) hy));have HBE:=wB (ua (ds:=ds) HC.out HT.out HSZ.out HWE.out);clear HALL hlt hk
        as_aux_lemma=>
         go_wp2_with fail
         go_loopw [67] (fun i wr=>Hid (∃ k:Nat,i = .int .i64 k∧k≤m∧(∀ (j:Nat) (y:ak),j<k→ds[j]?=some y→bc y.d=0)∧dG w c H0 H8 wr∧Row wr G n 1 (kI c now ws n n))) (fun i _=>m - (intOf i).toNat)
         case atStart=>exact wB ⟨0,rfl,xd _,fun j y h=>absurd h (Nat.not_lt_zero j),HR1.out,HROW.out⟩
         case round=>
          obtain ⟨k,rfl,hk,hall,hgh,hrow⟩:=hrel.out;clear hrel;have HALL:=wB hall;have HR1:=wB hgh;have HROW:=wB hrow;clear hall hgh hrow;by_cases hlt:k<m
          · obtain ⟨x,hx⟩:∃ x,ds[k]?=some x:=⟨ds[k]'(by rw [HM.out];exact hlt),wE _⟩
            obtain ⟨b,o,rfl,_⟩:=HDR.out.place (by rw [cellsOf_length _ 14 ak.cells_length,HM.out];omega);have HCE:=wB (fo (HDR.out.below HR1.out.below) hx);have HX:=wB hx;have HXO:=wB (HOD.out x (wM hx));clear hx;go_wp2_with (first | ((with_reducible refine ad (o:=⟨some 70,_,_,_,_,_⟩) ?_ 83 (.tmp 69) ?_ b (o+k*14) ?_ x.cells #[.int .u8 x.d.i0,.int .u8 x.d.i1,.int .u8 x.d.i2,.int .u8 x.d.i3,.int .u8 x.d.i4,.int .u8 x.d.i5,.int .u8 x.d.i6,.int .u8 x.d.i7,.int .i16 x.d.ax,.int .i16 x.d.ay,.int .u8 x.d.seats,.int .u8 x.d.cls,.int .i64 x.d.radius,.int .i64 x.number] ?_ _ HCE.out Tryz.underlying83 ?_ ?_ ?_);rfl;rfl;rfl;rfl;rfl;exact ew) | ((with_reducible refine aj (o:=⟨none,.store 83 (.tmp 15) (.tmp 70),_,_,_,_⟩) ?_ 83 (.tmp 15) (.tmp 70) ?_ _ #[.int .u8 x.d.i0,.int .u8 x.d.i1,.int .u8 x.d.i2,.int .u8 x.d.i3,.int .u8 x.d.i4,.int .u8 x.d.i5,.int .u8 x.d.i6,.int .u8 x.d.i7,.int .i16 x.d.ax,.int .i16 x.d.ay,.int .u8 x.d.seats,.int .u8 x.d.cls,.int .i64 x.d.radius,.int .i64 x.number] ?_ ?_ x.cells ?_ ?_ ?_ x.cells_one ?_);rfl;rfl;rfl;rfl;rfl;exact ew;rfl) | ((with_reducible refine ad (o:=⟨some 72,_,_,_,_,_⟩) ?_ 81 (.tmp 71) ?_ wr.heap.size (0) ?_ x.d.cells #[.int .u8 x.d.i0,.int .u8 x.d.i1,.int .u8 x.d.i2,.int .u8 x.d.i3,.int .u8 x.d.i4,.int .u8 x.d.i5,.int .u8 x.d.i6,.int .u8 x.d.i7,.int .i16 x.d.ax,.int .i16 x.d.ay,.int .u8 x.d.seats,.int .u8 x.d.cls,.int .i64 x.d.radius] ?_ _ (mO (wF wr _)) Tryz.underlying81 ?_ ?_ ?_);rfl;rfl;rfl;rfl;rfl;exact uk))
            have HR2:=wB (HR1.out.one (.cells #[.int .u8 x.d.i0,.int .u8 x.d.i1,.int .u8 x.d.i2,.int .u8 x.d.i3,.int .u8 x.d.i4,.int .u8 x.d.i5,.int .u8 x.d.i6,.int .u8 x.d.i7,.int .i16 x.d.ax,.int .i16 x.d.ay,.int .u8 x.d.seats,.int .u8 x.d.cls,.int .i64 x.d.radius,.int .i64 x.number] 83));have HROW2:=wB (HROW.out.keep (Keep.alloc (fun _=>False) wr (.cells #[.int .u8 x.d.i0,.int .u8 x.d.i1,.int .u8 x.d.i2,.int .u8 x.d.i3,.int .u8 x.d.i4,.int .u8 x.d.i5,.int .u8 x.d.i6,.int .u8 x.d.i7,.int .i16 x.d.ax,.int .i16 x.d.ay,.int .u8 x.d.seats,.int .u8 x.d.cls,.int .i64 x.d.radius,.int .i64 x.number] 83)) id);generalize wr.alloc (.cells #[.int .u8 x.d.i0,.int .u8 x.d.i1,.int .u8 x.d.i2,.int .u8 x.d.i3,.int .u8 x.d.i4,.int .u8 x.d.i5,.int .u8 x.d.i6,.int .u8 x.d.i7,.int .i16 x.d.ax,.int .i16 x.d.ay,.int .u8 x.d.seats,.int .u8 x.d.cls,.int .i64 x.d.radius,.int .i64 x.number] 83)=W3 at *;refine (lr W3 x.d).mono ?_;rintro e w4 ⟨rfl,hb4⟩;have HR4:=wB (HR2.out.keep hb4);have HROW4:=wB (HROW2.out.keep (Keep.of_below hb4 (wC _) (fun _=>False)) id);clear hb4 HR1 HR2 HROW HROW2 HCE HXO;obtain ⟨E,hE⟩:∃ E,bc x.d=E:=⟨_,rfl⟩;rw [hE];have HEE:=wB hE;clear hE;by_cases h0:E=0
            · have HA:=wB (show ∀ (j:Nat) (y:ak),j<k+1→ds[j]?=some y→bc y.d=0 from fun j y hj hy=>by
               rcases xy.1 hj with hj | rfl
               · exact HALL.out j y hj hy
               · rw [HX.out] at hy;cases hy;rw [HEE.out];exact h0)
              have e1:(E==0)=true:=by simp [h0]
              have e2:(E != 0)=false:=by simp [h0]
              clear h0;go_wp2_with fail
              go_roundw
              case rel=>exact wB ⟨k+1,by go_num,by omega,HA.out,HR4.out,HROW4.out⟩
              case measure=>simp [intOf];omega
            · have HE:=wB (show bA c now ws ds=E by
               have h1:=jZ HX.out (by rw [HEE.out];exact h0) HALL.out;rw [HBE.out,h1,HEE.out])
              have HE0:=wB h0;have e1:(E==0)=false:=by simp [h0]
              have e2:(E != 0)=true:=by simp [h0]
              clear h0;obtain ⟨r0,r1,r2,rf⟩:=cells3 HR4.out.r;have HBW:=wB (HR4.out.write H8L.out (.int .i64 0) (.int .i64 0) (.slice none 0 0));have HQ:=wB (dj HR4.out.r (.int .i64 0) (.int .i64 0) (.slice none 0 0));go_wp2_with fail
              generalize ((w4.setCell ⟨H8,0,none⟩ (.int .i64 0)).setCell ⟨H8,1,none⟩ (.int .i64 0)).setCell ⟨H8,2,none⟩ (.slice none 0 0)=WF at *;obtain ⟨q0,q1,q2⟩:=HQ.out;exact xe (v:=.tuple #[.agg #[.int .i64 0,.int .i64 0,.slice none 0 0],.int .i64 E]) (by simp [results,Tryz.results85,go_sem,q0,q1,q2]) rfl (GraphPost.no HE.out HE0.out HBW.out)
          · obtain rfl:m=k:=by omega
            have HE:=wB (show bA c now ws ds=0 by rw [HBE.out];exact mj (fun j y hy=>HALL.out j y (by rw [←HM.out];exact (wD.1 hy).1) hy));clear HALL hlt hk HBE
            as_aux_lemma=>
             have HR9:=wB (HR1.out.one (.cells #[.int .i64 n,.int .i64 m,.slice none 0 0] 28));have HROW9:=wB (HROW.out.keep (Keep.alloc (fun _=>False) wr (.cells #[.int .i64 n,.int .i64 m,.slice none 0 0] 28)) id);have HBOX:=wB (wF wr (.cells #[.int .i64 n,.int .i64 m,.slice none 0 0] 28));have hG9:G<wr.heap.size:=HROW.out.lt;have HW9:=wB HR1.out.below.size;go_wp2_with fail
             generalize wr.alloc (.cells #[.int .i64 n,.int .i64 m,.slice none 0 0] 28)=W9 at *;generalize wr.heap.size=H9 at *;refine (tq W9 ao bo n m c' c'' ws ds HN.out HM.out (HWR.out.below HR9.out.below) (HDR.out.below HR9.out.below) HOW.out HOD.out hn' hm').mono ?_;rintro e w3 ⟨pv,rfl,hpg⟩;obtain ⟨po,pcap,rfl,hprd⟩:=hpg.shape;have HR3:=wB (HR9.out.keep hpg.below);have HROW3:=wB (HROW9.out.keep (Keep.of_below hpg.below (wC _) (fun _=>False)) id);have HED:=wB (gd.begin ((Keep.of_below hpg.below (wC _) (fun _=>False)).old HBOX.out id));have HNB:=wB (show ∀ p ∈ cR ws ds,0≤p.r∧p.r<n∧0≤p.c∧p.c<m from fun p hp=>by have:=sA hp;rw [HN.out,HM.out] at this;exact this);have HPR:=wB hprd
             have HPB:=wB (show ∀ b o,po=some ⟨b,o,none⟩→0<(cR ws ds).length→b≠H9 from fun b o h hl he=>by
              rcases hpg.own.2 with ⟨h1,h2⟩ | ⟨g,cap,h1,_⟩
              · omega
              · cases h1
                cases h
                have h3:W9.heap.size≤b:=hpg.new b rfl;have:=wJ HBOX.out;omega)
             have hlen:(cR ws ds).length≤4096:=by
              have k1:=ls ws ds;have k2:ws.length*ds.length≤64*64:=Nat.mul_le_mul (by rw [HN.out];exact h1) (by rw [HM.out];exact h2);omega
             obtain ⟨q,hq⟩:∃ q,(cR ws ds).length=q:=⟨_,rfl⟩;rw [hq] at hlen HPB ⊢;have HQL:=wB hq;clear hprd hpg hq HR9 HROW9 HBOX HR1 HROW;obtain ⟨i5,hi,hz0,hz1,hz2⟩:=dF jp;go_wp2_with fail
             go_loopw [88] (fun i wr=>Hid (∃ (k:Nat) (ev:Value),i = .int .i64 k∧k≤q∧gd w3 n m (((cR ws ds).take k).map (iE c now ws)) ev H9 wr)) (fun i _=>q - (intOf i).toNat)
             case atStart=>exact wB ⟨0,.slice none 0 0,rfl,xd _,HED.out⟩
             case round=>
              obtain ⟨k,ev,rfl,hk,hed⟩:=hrel.out;clear hrel;have HED1:=wB hed;clear hed;by_cases hlt:k<q
              · obtain ⟨p,hp⟩:∃ p,(cR ws ds)[k]?=some p:=⟨(cR ws ds)[k]'(by rw [HQL.out];exact hlt),wE _⟩
                obtain ⟨b,o,rfl,_⟩:=HPR.out.place (by rw [cellsOf_length _ 2 ai.cells_length,HQL.out];omega);obtain ⟨p0,p1⟩:=na (HPR.out.keep HED1.out.keep (fun b' o' h=>HPB.out b' o' h (by omega))) hp;obtain ⟨v1,v2,v3,v4⟩:=HNB.out p (wM hp);obtain ⟨x,hx⟩:∃ x,ws[p.r.toNat]?=some x:=⟨ws[p.r.toNat]'(by rw [HN.out];omega),wE _⟩;have HEO:=wB (sy (c:=c) (now:=now) hx);have hwc:wr.cell? ⟨G,p.r.toNat,none⟩=some (.int .i64 (wtP c now x).1):=(HROW3.out.keep HED1.out.keep (by omega)).cell _ _ (vJ HN.out hx);have HNEXT:=wB (fi (f:=iE c now ws) hp);obtain ⟨g0,g1,g2,gf⟩:=cells3 HED1.out.box;have hH9:H9<wr.heap.size:=Nat.lt_of_lt_of_le HED1.out.lt HED1.out.keep.size;have hb0:b<wr.heap.size:=wK wr _ p0;have hGw:G<wr.heap.size:=by omega
                have hLl:(((cR ws ds).take k).map (iE c now ws)).length≤4096:=by rw [List.length_map,wV];omega
                clear hp hx;generalize (wtP c now x).1=wt at *;obtain ⟨L,hL⟩:∃ L,((cR ws ds).take k).map (iE c now ws)=L:=⟨_,rfl⟩;rw [hL] at HED1 HNEXT hLl;clear hL;go_wp2_with fail
                have HWY:=wB (Keep.alloc (fun _=>False) wr (.cells #[.int .i64 p.r,.int .i64 p.c] 69));have y0:(wr.alloc (.cells #[.int .i64 p.r,.int .i64 p.c] 69)).cell? ⟨wr.heap.size,0,none⟩=some (.int .i64 p.r):=by go_simp
                have y1:(wr.alloc (.cells #[.int .i64 p.r,.int .i64 p.c] 69)).cell? ⟨wr.heap.size,1,none⟩=some (.int .i64 p.c):=by go_simp
                have y2:=HWY.out.cell g2 id;have y3:=HWY.out.cell hwc id;have HEY:=wB (HED1.out.past HWY.out);clear g0 g1 g2 gf hwc p0 p1;generalize wr.alloc (.cells #[.int .i64 p.r,.int .i64 p.c] 69)=WY at *;have hHY:H9<WY.heap.size:=by have:=HWY.out.size;omega
                have hPY:wr.heap.size<WY.heap.size:=wK WY _ y0;have hGY:G<WY.heap.size:=by omega
                obtain ⟨HP,hHPe⟩:∃ HP,wr.heap.size=HP:=⟨_,rfl⟩;rw [hHPe] at y0 y1 hPY ⊢;have HHP:=wB hHPe;clear hHPe
                have HNO:=wB (show ∀ b,(b<w3.heap.size∨HP≤b)→¬ ev.ownBlock=some b from fun b hb he=>by
                 have k1:=HED1.out.new b he;have k2:=HED1.out.own.lt b he;have k3:=HHP.out;omega)
                have n1:=World.new_ne WY _ y2;have n2:=World.new_ne WY _ y0;have n3:=World.new_ne WY _ y1;have n4:=World.new_ne WY _ y3;have hneP:HP≠H9:=by have:=HHP.out;omega
                have hneG:G≠H9:=by omega
                have HYS:=wB (show (⟨H9,2,none⟩:Addr).block<w3.heap.size∧G<w3.heap.size from ⟨HED1.out.lt,HROW3.out.lt⟩);have HPK:=wB (fun (w':World) (hk:Keep (fun _=>False) WY w')=>show w'.cell? ⟨H9,2,none⟩=some ev∧w'.cell? ⟨HP,0,none⟩=some (.int .i64 p.r)∧w'.cell? ⟨HP,1,none⟩=some (.int .i64 p.c)∧w'.cell? ⟨G,p.r.toNat,none⟩=some (.int .i64 wt) from ⟨hk.cell y2 id,hk.cell y0 id,hk.cell y1 id,hk.cell y3 id⟩);clear y0 y1 y2 y3 n1 n2 n3 n4;refine kK 12 (fun w'=>w'.cell? ⟨H9,2,none⟩=some ev∧w'.cell? ⟨HP,0,none⟩=some (.int .i64 p.r)∧w'.cell? ⟨HP,1,none⟩=some (.int .i64 p.c)∧w'.cell? ⟨G,p.r.toNat,none⟩=some (.int .i64 wt)) (by kernel_rfl) (by kernel_rfl) (fun _ _ _ _ _ h=>h) (HPK.out _ (Keep.drew _ _)) ?_;simp only [List.take_succ_cons,List.take_zero,List.drop_succ_cons,List.drop_zero]
                iterate 12 (
                 refine dv (v:=?_) (Or.inl ⟨by rfl,?_⟩) ?_
                 rotate_left
                 · intro w' hSw
                   try dsimp only at hSw
                   go_simp
                   try with_reducible rfl
                 try simp only [Act.put,wU,List.set_cons_zero,List.set_cons_succ])
                refine d7 ?_;refine cF rfl (fun K hK=>?_);go_simp
                refine hK _ _ ⟨by first | exact HPK.out _ (Keep.of_below ((wI WY.heap.size WY).alloc (wC _) _) (wC _) _) | exact HPK.out _ (Keep.of_below (((wI WY.heap.size WY).alloc (wC _) _).drew) (wC _) _),?_⟩;clear hK K;try simp only [Act.put,wU,List.set_cons_zero,List.set_cons_succ]
                refine et rfl (.tmp 93) (.tmp 104) 26 26 rfl 114 i5 nS 3 24 Tryz.underlying26 hi hz0 hz1 hz2 rfl ev L.length (cellsOf ab.cells L) (by simp [Act.eval]) (HEY.out.own.keep (Keep.of_below (((wI WY.heap.size WY).alloc (wC _) _).drew) (wC _) (fun _=>False)) (fun _ _=>id)) (.slice (some ⟨WY.heap.size,0,none⟩) 1 1) 1 (ab.cells ⟨p.r,p.c,wt⟩) (by simp [Act.eval]) (Src.litDrew Tryz.underlying26 3 _ rfl (ab.cells_one _) _ _ (by first | rfl | simp [ab.cells])) (by unfold maxLen;omega) (by omega) ?_;intro ao2 q2 w5 ho2 hk2 hb2;have HO2:=wB ho2;have HS2:=wB hb2;have HK2:=wB hk2;have HKY:=wB (Keep.of_below (((wI WY.heap.size WY).alloc (wC _) (.cells #[.int .i64 p.r,.int .i64 p.c,.int .i64 wt] 114)).drew) (wC _) (fun _=>False));clear ho2 hk2 hb2;have HB5:=wB (HK2.out.old (HKY.out.old HEY.out.box id) (HNO.out _ (.inl HYS.out.1)));obtain ⟨zz0,zz1,zz2,zf⟩:=cells3 HB5.out;clear HPK;have HN5:=wB (HEY.out.next (x:=⟨p.r,p.c,wt⟩) HKY.out HO2.out HK2.out HS2.out);rw [←HEO.out,←HNEXT.out] at HN5;go_wp2_with fail
                go_roundw
                case rel=>exact wB ⟨k+1,_,by go_num,by omega,HN5.out⟩
                case measure=>simp [intOf];omega
              · obtain rfl:q=k:=by omega
                have HEF:=wB (show (((cR ws ds).take q).map (iE c now ws))=bH c now ws ds by rw [xl (by rw [HQL.out];exact wC _)];rfl);rw [HEF.out] at HED1;obtain ⟨ea,ec,rfl⟩:=HED1.out.own.sl;obtain ⟨g0,g1,g2,gf⟩:=cells3 HED1.out.box;have hb8:wr.heap[H8]?=some (.cells #[.int .i64 0,.int .i64 0,.slice none 0 0] 28 (0,0)):=HED1.out.keep.old HR3.out.r (by omega);obtain ⟨r0,r1,r2,rf⟩:=cells3 hb8;have HGW:=wB ((HED1.out.grown HR3.out.below HW9.out).write H8L.out (fun g hg he=>by have:=HED1.out.new g hg;have:=HR3.out.r;have:=wJ this;omega) (.int .i64 n) (.int .i64 m) (.slice ea (bH c now ws ds).length ec));have HQ:=wB (dj hb8 (.int .i64 n) (.int .i64 m) (.slice ea (bH c now ws ds).length ec));clear hb8;go_wp2_with fail
                generalize ((wr.setCell ⟨H8,0,none⟩ (.int .i64 n)).setCell ⟨H8,1,none⟩ (.int .i64 m)).setCell ⟨H8,2,none⟩ (.slice ea (bH c now ws ds).length ec)=WF at *;obtain ⟨q0,q1,q2⟩:=HQ.out;exact xe (v:=.tuple #[.agg #[.int .i64 n,.int .i64 m,.slice ea (bH c now ws ds).length ec],.int .i64 0]) (by simp [results,Tryz.results85,go_sem,q0,q1,q2]) rfl (GraphPost.yes HE.out HN.out HM.out HGW.out)
section
variable {P:Program}
theorem me {o:Oper} {a:Act} {W:World} {K:Act→Prop} (ty:TypeId) (x:Operand) (ho:o.op = .load ty x)
 (b off:Nat) (hx:a.eval x = .pointer (some ⟨b,off,none⟩)) (cs:List Value) (V:Array Value) (hvs:cs.toArray=V) (d:TypeDesc) (hc:∀ j u,cs[j]?=some u→W.cell? ⟨b,off+j,none⟩=some u)
 (hu:P.underlying ty=some d) (hd:(match d with | .struct _ | .array _ _=>true | _=>false)=true) (hi:(P.info? ty).map (·.size)=some cs.length)
 (hk:K (a.put o.dst (.agg V))):o.quiet P a (fun w'=>∃ n,w'=W.drewN n) K:=by
 refine ⟨.agg V,?_,hk⟩;rintro w ⟨n,rfl⟩;have h:=aZ (P:=P) (W.drewN n) b off ty cs d (fun j u hj=>by have:=hc j u hj;simpa using this) hu hd hi;rw [hvs] at h;unfold Oper.quietAt execOp;simp only [ho,hx,Instr.loadAt,Instr.sureAddr,Sem.run_bind,Sem.run_pure,Result.andThen_ok,h];exact ⟨rfl,rfl⟩
end
end Go.Proofs.YtcaicgipibcicaaGreat
namespace Go.Proofs.YtcaicgipibcicaaGreat
section
variable {P:Program} {ops:Array Oper} {md:Region.Mode} {S:World→Prop} {Q:Exit→Act→World→Prop}
def dY (P:Program) (ops:Array Oper) (Q:Exit→Act→World→Prop) (S:World→Prop) (K:Act→World→Prop):Nat→Nat→Act→World→Prop
 | 0,_,a,w=>K a w
 | m+1,i,a,w=>wpOp P ops Q i (fun a' w'=>S w'∧dY P ops Q S K m (i+1) a' w') a w
theorem mf {n g:Nat} {Lq:Act→World→Prop}:∀ (m k:Nat) (listed:Array Bool) (a:Act) (w:World),k+m=n→Region.seqB md ops (m+g) k listed=true→dY P ops Q S Lq m k a w→
 iJ P md ops Q S n (fun listed' a' w'=>Region.seqB md ops g n listed'=true∧Lq a' w') m listed a w
 | 0,k,listed,a,w,hk,hB,h=>by
   have hkn:k=n:=by simpa using hk
   subst hkn;exact ⟨by simpa using hB,h⟩
 | m+1,k,listed,a,w,hk,hB,h=>by
   rw [show m+1+g=(m+g)+1 by omega] at hB;simp only [Region.seqB,xn,decide_eq_true_eq] at hB;refine ⟨by rw [hB.1];exact List.cons_ne_nil _ _,fun i hi=>?_⟩;rw [hB.1] at hi;have hik:i=k:=by simpa using hi
   subst hik;have hw:wpOp P ops Q i (fun a' w'=>S w'∧dY P ops Q S Lq m (i+1) a' w') a w:=h;exact ⟨by omega,wpOp_mono (fun a' w' h'=>⟨h'.1,mf m (i+1) _ a' w' (by omega) hB.2 h'.2⟩) hw⟩
theorem kC {n m g:Nat} {Lq:Act→World→Prop} (hsel:Region.noSelect ops=true) (hs:Region.sinkB md ops (n+m)=true) (hc:Region.chainB md ops (n+m)=true) (hn:n+m<ops.size)
 (hQ:∀ c (a:Act) (t:Nat) (v:Value) w,Q (.panic c) (a.put (some t) v) w→Q (.panic c) a w) :
 ∀ (l:List Oper) (k:Nat) (listed:Array Bool) (a:Act) (w:World),(∀ j,j<l.length→l[j]?=ops[k+j]?)→k+l.length=n→HeadInv md ops (n+m) listed→
 Region.lexHead md ops (m+g) l.length k listed=true→S w→dW P ops S (fun a'=>dY P ops Q S Lq m n a' w) l a→
 iJ P md ops Q S (n+m) (fun listed' a' w'=>Region.seqB md ops g (n+m) listed'=true∧Lq a' w') (l.length+m) listed a w
 | [],k,listed,a,w,_,hk,_,hB,_,h=>by
   have hkn:k=n:=by simpa using hk
   subst hkn;have hw:dY P ops Q S Lq m k a w:=h;rw [xh,wL];exact mf m k listed a w rfl (by simpa [Region.lexHead] using hB) hw
 | o::l,k,listed,a,w,hl,hk,inv,hB,hS,h=>by
   have h0:ops[k]?=some o:=by simpa using (hl 0 (by simp)).symm
   simp only [wY,Region.lexHead,xn] at hB;have hkn:k<n+m:=by simp only [wY] at hk;omega
   have hr:k ∈ Region.ready md ops listed:=by simpa using hB.1.1
   obtain ⟨v,hy,hK⟩:=h;rw [show (o::l).length+m=(l.length+m)+1 by simp only [wY];omega];refine ja h0 (Region.noSelect_spec hsel) hs hc hn hkn (fun c a' w' hp=>mK hQ c a' _ _ w' hp) (fun listed' a' w' hL=>seqB_ready hL.1) (l.length+m) listed a w inv (Region.free_spec h0 hB.1.2) hr hy hS ?_;refine kC hsel hs hc hn hQ l (k+1) _ _ w (fun j hj=>?_) (by simp only [wY] at hk;omega) (inv.set hr hkn) hB.2 hS hK;have h5:=hl (j+1) (by simp only [wY];omega);rw [show k+1+j=k+(j+1) by omega,←h5];rfl
def vm (ops:Array Oper) (n m:Nat):Bool:=
 Region.noSelect ops && decide (n+m<ops.size) && Region.sinkB .any ops (n+m) && Region.chainB .any ops (n+m) && Region.lexHead .any ops (m+(ops.size - (n+m))) n 0 (Array.replicate ops.size false)
theorem c9 {id:Nat} {a:Act} {w:World} {l:List Oper} (n m:Nat) (S:World→Prop) (hm:P.follows .mixedOrders=true) (hB:vm l.toArray n m=true)
 (hQ:∀ c (a:Act) (t:Nat) (v:Value) w,Q (.panic c) (a.put (some t) v) w→Q (.panic c) a w) (hS:S w.drew)
 (h:dW P l.toArray S (fun a'=>dY P l.toArray Q S (fun a'' w''=>wpList P l.toArray Q (l.drop (n+m)) a'' w'') m n a' w.drew) (l.take n) a):(Code.region id l.toArray true).wp P Q a w:=by
 simp only [vm,xn,decide_eq_true_eq] at hB;obtain ⟨⟨⟨⟨hsel,hn⟩,hs⟩,hc⟩,hlex⟩:=hB;have hn':n+m<l.length:=by simpa using hn
 have htl:(l.take n).length=n:=by simp;omega
 have hdl:(l.drop (n+m)).length=l.toArray.size - (n+m):=by simp
 have inv0:HeadInv .any l.toArray (n+m) (Array.replicate l.toArray.size false):=
  ⟨by simp,fun j oj _ hl=>(by rw [getD_replicate_false] at hl;cases hl),fun t _ ht=>getD_in (by simpa using ht) (getD_replicate_false _ _)⟩
 have H:=kC (md:=.any) (g:=l.toArray.size - (n+m)) hsel hs hc hn hQ (l.take n) 0 _ a w.drew (fun j hj=>by
  rw [htl] at hj;simp [hj]) (by simpa using htl) inv0 (by rw [htl];exact hlex) hS h
 refine wp_region_any hm ?_
 have hA:=eN (g:=l.toArray.size - (n+m)) (fun listed a' w' hL=>by
  have hT:=wpAny_of_seq (md:=.any) (l.drop (n+m)) (n+m) listed a' w' (fun j=>by simp [List.getElem?_drop]) (by rw [hdl];exact hL.1) hL.2;rwa [hdl] at hT) _ _ _ _ H
 rw [htl,show n+m+(l.toArray.size - (n+m))=l.toArray.size by omega] at hA;exact hA
end
end Go.Proofs.YtcaicgipibcicaaGreat
namespace Go.Proofs.YtcaicgipibcicaaGreat
open Go.RowKit
theorem kD (c:Nat) (h:c<4294967296):bits BinOp.and IntKind.u32 (c:Int) 1=((c % 2:Nat):Int):=by
 have:=u32_and_nat c 1 h (by decide);rw [Nat.and_one_is_mod] at this;exact this
theorem kT (a b:Nat) (ha:a<4294967296) (hb:b<4294967296):bits BinOp.xor IntKind.u32 (a:Int) (b:Int)=((a ^^^ b:Nat):Int):=u32_xor_nat a b ha hb
theorem Keep.setCellS (w:World) (B o:Nat) (v:Value):Keep (·=B) w (w.setCell ⟨B,o,none⟩ v):=
 ⟨rfl,rfl,rfl,by simp [World.setCell],fun k _ hx=>Below.heap_setCell _ _ _ _ hx⟩
theorem vn (B c:Nat) (w:World) (hc:c<4294967296) (hv:w.heap[B]?=some (.cells #[.int .u32 (c:Int)] 121 (0,0))) :
 Calls Tryz.prog 161 #[.pointer (some ⟨B,0,none⟩)] w fun e w'=>e = .returned (.tuple #[])∧w'.heap[B]?=some (.cells #[.int .u32 (dQ c:Int)] 121 (0,0))∧Keep (·=B) w w':=by
 have c0:=cell_of_one hv;have f0:=free_of_one hv;by_cases h:c % 2=1
 · have ha:(bits BinOp.and IntKind.u32 (c:Int) 1==1)=true:=by rw [kD c hc];simp [h]
   have hx:bits BinOp.xor IntKind.u32 ((c:Int) / 2) 3988292384=(dQ c:Int):=by
    have:=kT (c / 2) 3988292384 (by omega) (by decide);rw [dQ,if_pos h,←this];rfl
   have hf:=wB (one_setCell (u:=.int .u32 (dQ c:Int)) (one_setCell (u:=.int .u32 ((c:Int) / 2)) hv));have hK:=wB ((Keep.setCellS w B 0 (.int .u32 ((c:Int) / 2))).trans (Z:=(·=B)) (Keep.setCellS _ B 0 (.int .u32 (dQ c:Int))) (fun _ _ h=>h) (fun _ _ h=>h))
   go_enter Tryz.func161,Tryz.ntmps161
   go_wp2
   go_end0
   exact ⟨rfl,hf.out,hK.out⟩
 · have ha:(bits BinOp.and IntKind.u32 (c:Int) 1==1)=false:=by rw [kD c hc];simp;omega
   have hx:((c:Int) / 2)=(dQ c:Int):=by rw [dQ,if_neg h];rfl
   have HX:=wB hx;clear hx;have hf:=wB (one_setCell (u:=.int .u32 ((c:Int) / 2)) hv);have hK:=wB (Keep.setCellS w B 0 (.int .u32 ((c:Int) / 2)));go_enter Tryz.func161,Tryz.ntmps161
   go_wp2
   go_end0
   rw [←HX.out];exact ⟨rfl,hf.out,hK.out⟩
theorem rM (c:Nat) (h:c<4294967296):4294967295 ^^^ c=4294967295 - c:=by
 have h1:(BitVec.ofNat 32 c ^^^ BitVec.allOnes 32) = ~~~ (BitVec.ofNat 32 c):=BitVec.xor_allOnes;have h2:=congrArg BitVec.toNat h1;rw [BitVec.toNat_xor,BitVec.toNat_not,BitVec.toNat_allOnes,BitVec.toNat_ofNat,Nat.mod_eq_of_lt h] at h2;rw [Nat.xor_comm];exact h2
theorem ww (l:List UInt8):bits BinOp.xor IntKind.u32 IntKind.u32.max (cb l:Int)=(crc l:Int):=by
 have:=kT 4294967295 (cb l) (by decide) (fF l);rw [rM _ (fF l)] at this;exact this
theorem take_snoc {α:Type} (l:List α) (k:Nat) (h:k<l.length):l.take (k+1)=l.take k++[l[k]]:=by
 rw [xp h]
theorem sum_any (ao:Option Addr) (cap:Nat) (l:List UInt8) (w:World) (hr:Rd w ao l) (hl:l.length≤140737488351232) :
 Calls Tryz.prog 124 #[.slice ao l.length cap] w fun e w'=>e = .returned (.int .u32 (crc l:Int))∧Below w.heap.size w w':=by
 have h0:(w.alloc (.cells #[.int .u32 4294967295] 121)).heap[w.heap.size]?=some (.cells #[.int .u32 (cb (l.take 0):Int)] 121 (0,0)):=wF w _;have H0:=wB h0;clear h0;have hB0:=wB ((wI w.heap.size w).alloc (wC _) (.cells #[.int .u32 4294967295] 121));have HR:=wB hr;clear hr;go_enter Tryz.func124,Tryz.ntmps124
 go_wp2_with fail
 go_loopw [10] (fun i wr=>∃ k:Nat,k≤l.length∧i = .int .i64 k∧Hid (wr.heap[w.heap.size]?=some (.cells #[.int .u32 (cb (l.take k):Int)] 121 (0,0)))∧Hid (Below w.heap.size w wr)) (fun i _=>l.length - (intOf i).toNat)
 case atStart=>exact ⟨0,xd _,rfl,H0,hB0⟩
 case round=>
  obtain ⟨k,hk,rfl,hv,hb⟩:=hrel;by_cases hlt:k<l.length
  · obtain ⟨b,o,rfl,hcell⟩:∃ b o,ao=some ⟨b,o,none⟩∧wr.cell? ⟨b,o+k,none⟩=some (.int .u8 (l[k].toNat:Int)):=by
     have:=uu hb.out HR.out;rcases HR.out with h | ⟨b,o,rfl,hc⟩
     · subst h;simp at hlt
     · have hlt':=wK w _ (hc k hlt)
       exact ⟨b,o,rfl,(hb.out.cell (p:=⟨b,o+k,none⟩) hlt').trans (hc k hlt)⟩
    have c0:=cell_of_one hv.out;have f0:=free_of_one hv.out;have hacc:=fF (l.take k);have hb8:=l[k].toNat_lt;have hx:bits BinOp.xor IntKind.u32 (cb (l.take k):Int) (l[k].toNat:Int)=((cb (l.take k) ^^^ l[k].toNat:Nat):Int):=kT _ _ hacc (by omega);have hb8':l[k].toNat<256:=hb8;clear hb8;have hv1:=wB (one_setCell (u:=.int .u32 ((cb (l.take k) ^^^ l[k].toNat:Nat):Int)) hv.out);have hb1:=wB (hb.out.setCell (p:=⟨w.heap.size,0,none⟩) (wC _) (.int .u32 ((cb (l.take k) ^^^ l[k].toNat:Nat):Int)));have hlt0:cb (l.take k) ^^^ l[k].toNat<4294967296:=Nat.xor_lt_two_pow (n:=32) hacc (by have:=l[k].toNat_lt;omega);have hlt1:=wB hlt0;clear hlt0;go_wp2_with fail
    go_loopw [18] (fun j wi=>∃ m:Nat,m≤8∧j = .int .i64 m∧Hid (wi.heap[w.heap.size]?=some (.cells #[.int .u32 (mP m (cb (l.take k) ^^^ l[k].toNat):Int)] 121 (0,0)))∧Hid (Below w.heap.size w wi)) (fun j _=>8 - (intOf j).toNat)
    case atStart=>exact ⟨0,xd _,rfl,hv1,hb1⟩
    case round=>
     obtain ⟨m,hm,rfl,hvm,hbm⟩:=hrel;by_cases hm8:m<8
     · go_wp2_with (go_at_call 161;refine (vn w.heap.size _ _ (jc m hlt1.out) hvm.out).mono ?_;rintro e w2 ⟨rfl,hv2,hk2⟩;have hv3:=wB hv2;clear hv2)
       have hb3:=wB (hbm.out.trans (hk2.below (Nat.le_of_lt (wJ hvm.out)) (fun i hi=>by omega)));go_roundw
       case rel=>exact ⟨m+1,by omega,by go_num,hv3,hb3⟩
       case measure=>simp [intOf];omega
     · go_wp2_with fail
       go_roundw
       case rel=>
        have:m=8:=by omega
        subst this;refine ⟨k+1,by omega,by go_num,?_,hbm⟩;rw [take_snoc l k hlt,oV];exact hvm
       case measure=>simp [intOf];omega
  · have:k=l.length:=by omega
    subst this;have c0:=cell_of_one hv.out;have hfin:=wB (ww l);go_wp2_with fail
    go_ret
    rw [hfin.out];exact ⟨rfl,hb.out⟩
theorem sum_at (ao:Option Addr) (k cap:Nat) (l:List UInt8) (w:World) (hk:l.length=k) (hr:Rd w ao l) (hl:k≤140737488351232) :
 Calls Tryz.prog 124 #[.slice ao k cap] w fun e w'=>e = .returned (.int .u32 (crc l:Int))∧Below w.heap.size w w':=by
 subst hk;exact sum_any ao cap l w hr hl
end Go.Proofs.YtcaicgipibcicaaGreat
