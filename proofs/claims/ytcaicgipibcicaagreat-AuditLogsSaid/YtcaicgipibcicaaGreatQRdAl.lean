/- What a log of bytes tells, plainly. -/
import Derived.Test.YtcaicgipibcicaaGreatQRdPl
import Derived.Test.YtcaicgipibcicaaGreatQRdP2
set_option linter.unusedSimpArgs false
set_option linter.unusedVariables false
namespace Go.Proofs.YtcaicgipibcicaaGreat
open Go.RowKit
structure RSt where
 pos:Nat
 c:ae
 recs:List aF
 tick:Int
def dB:ae:=⟨0,0,0,0,0⟩
def ez:RSt:=⟨0,dB,[],0⟩
def bm (st:RSt) (l:List Int):Option RSt:=
 if st.pos=0 then
  match eT l with
  | some (c,[])=>if al c=0 then some ⟨l.length+12,c,[],0⟩ else none
  | _=>none
 else
  match eU l with
  | some x=>if st.tick<x.tick then some ⟨st.pos+(l.length+12),st.c,st.recs++[x],x.tick⟩ else none
  | none=>none
def jA:Nat→List Int→List Int→RSt→RSt
 | 0,_,_,st=>st
 | k+1,a,l,st=>match bJ a l with
   | none=>st
   | some (c,s)=>match bm st c with
     | none=>st
     | some st'=>jA k (be4 s) (l.drop (c.length+12)) st'
def ff (l:List Int):RSt:=jA (l.length+1) (be4 0) l ez
theorem gX {a l c:List Int} {s:Nat} (hb:Byt l) (h:bJ a l=some (c,s)):8≤l.length∧c=(l.drop 8).take c.length∧c.length+12≤l.length∧s=jn (a++c)∧beI (l.take 4)=(c.length:Int)∧beI ((l.drop 4).take 4)=4294967295 - (c.length:Int):=by
 unfold bJ at h;split at h
 · cases h
 · rename_i h8
   split at h
   · cases h
   · rename_i hn
     split at h
     · rename_i hs
       simp only [Option.some.injEq,Prod.mk.injEq] at h;obtain ⟨hc,hs2⟩:=h;simp only [not_or,Decidable.not_not] at hn;have hr:=lp (show (l.take 4).length=4 by rw [List.length_take];omega) (hb.take 4)
       have hl:c.length=(beI (l.take 4)).toNat:=by
        rw [←hc,List.length_take,List.length_drop];omega
       refine ⟨by omega,?_,by omega,?_,by omega,by have:=hn.1;omega⟩
       · rw [hl];exact hc.symm
       · rw [←hs2,←hc]
     · cases h
theorem uD {k:Nat} {a l:List Int} {st:RSt} (h:bJ a l=none∨∃ c s,bJ a l=some (c,s)∧bm st c=none):jA (k+1) a l st=st:=by
 unfold jA;rcases h with h | ⟨c,s,h,h2⟩
 · rw [h]
 · rw [h]
   simp only [h2]
theorem uE {k:Nat} {a l c:List Int} {s:Nat} {st st':RSt} (h:bJ a l=some (c,s)) (h2:bm st c=some st'):jA (k+1) a l st=jA k (be4 s) (l.drop (c.length+12)) st':=by
 rw [jA,h];simp only [h2]
theorem pu {st st':RSt} {c:List Int} (h:bm st c=some st'):st'.pos=st.pos+(c.length+12):=by
 unfold bm at h;split at h
 · rename_i h0
   split at h
   · split at h
     · cases h
       simp [h0]
     · cases h
   · cases h
 · split at h
   · split at h
     · cases h
       rfl
     · cases h
   · cases h
structure RAt (l0 a:List Int) (st:RSt):Prop where
 go:∃ k,ff l0=jA (k+1) a (l0.drop st.pos) st∧l0.length≤st.pos+k
 le:st.pos≤l0.length
 zero:st.pos=0→st=ez
 four:∃ s,s<4294967296∧a=be4 s
theorem RAt.first (l0:List Int):RAt l0 (be4 0) ez:=⟨⟨l0.length,rfl,by show l0.length≤0+_;omega⟩,Nat.zero_le _,fun _=>rfl,0,by omega,rfl⟩
theorem RAt.stop {l0 a:List Int} {st:RSt} (h:RAt l0 a st) (h2:bJ a (l0.drop st.pos)=none∨∃ c s,bJ a (l0.drop st.pos)=some (c,s)∧bm st c=none):ff l0=st:=by
 obtain ⟨k,hk,_⟩:=h.go;rw [hk,uD h2]
theorem RAt.next {l0 a c:List Int} {s:Nat} {st st':RSt} (hb:Byt l0) (h:RAt l0 a st) (h1:bJ a (l0.drop st.pos)=some (c,s)) (h2:bm st c=some st'):RAt l0 (be4 s) st':=by
 obtain ⟨k,hk,hk2⟩:=h.go;have sp:=gX (hb.drop _) h1;have hp:=pu h2;have hle:=sp.2.2.1;rw [List.length_drop] at hle;have hs:s<4294967296:=by rw [sp.2.2.2.1];exact jd _
 refine ⟨?_,by omega,fun h0=>by omega,s,hs,rfl⟩;obtain ⟨k',rfl⟩:∃ k',k=k' + 1:=⟨k - 1,by omega⟩;refine ⟨k',?_,by omega⟩;rw [hk,uE h1 h2,List.drop_drop,hp]
end Go.Proofs.YtcaicgipibcicaaGreat
