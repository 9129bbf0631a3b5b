/- What a log of bytes tells, plainly. -/
import Derived.Test.YtcaicgipibcicaaGreatQRdPl
import Derived.Test.YtcaicgipibcicaaGreatQRdP2
set_option linter.unusedSimpArgs false
set_option linter.unusedVariables false
namespace Go.Proofs.YtcaicgipibcicaaGreat
open Go.RowKit
structure RSt where
 pos:Nat
 c:ag
 recs:List aw
 tick:Int
def gi:ag:=⟨0,0,0,0,0⟩
def cx:RSt:=⟨0,gi,[],0⟩
def aH (st:RSt) (l:List Int):Option RSt:=
 if st.pos=0 then
  match je l with
  | some (c,[])=>if aA c=0 then some ⟨l.length+12,c,[],0⟩ else none
  | _=>none
 else
  match gk l with
  | some x=>if st.tick<x.tick then some ⟨st.pos+(l.length+12),st.c,st.recs++[x],x.tick⟩ else none
  | none=>none
def bn:Nat→List Int→List Int→RSt→RSt
 | 0,_,_,st=>st
 | k+1,a,l,st=>match aR a l with
   | none=>st
   | some (c,s)=>match aH st c with
     | none=>st
     | some st'=>bn k (be4 s) (l.drop (c.length+12)) st'
def az (l:List Int):RSt:=bn (l.length+1) (be4 0) l cx
theorem bI {a l c:List Int} {s:Nat} (hb:Byt l) (h:aR a l=some (c,s)):8≤l.length∧c=(l.drop 8).take c.length∧c.length+12≤l.length∧s=dA (a++c)∧beI (l.take 4)=(c.length:Int)∧beI ((l.drop 4).take 4)=4294967295 - (c.length:Int):=by
 unfold aR at h;split at h
 · cases h
 · rename_i h8
   split at h
   · cases h
   · rename_i hn
     split at h
     · rename_i hs
       simp only [Option.some.injEq,Prod.mk.injEq] at h;obtain ⟨hc,hs2⟩:=h;simp only [not_or,Decidable.not_not] at hn;have hr:=hO (show (l.take 4).length=4 by rw [List.length_take];omega) (hb.take 4)
       have hl:c.length=(beI (l.take 4)).toNat:=by
        rw [←hc,List.length_take,List.length_drop];omega
       refine ⟨by omega,?_,by omega,?_,by omega,by have:=hn.1;omega⟩
       · rw [hl];exact hc.symm
       · rw [←hs2,←hc]
     · cases h
theorem bs {k:Nat} {a l:List Int} {st:RSt} (h:aR a l=none∨∃ c s,aR a l=some (c,s)∧aH st c=none):bn (k+1) a l st=st:=by
 unfold bn;rcases h with h | ⟨c,s,h,h2⟩
 · rw [h]
 · rw [h]
   simp only [h2]
theorem cH {k:Nat} {a l c:List Int} {s:Nat} {st st':RSt} (h:aR a l=some (c,s)) (h2:aH st c=some st'):bn (k+1) a l st=bn k (be4 s) (l.drop (c.length+12)) st':=by
 rw [bn,h];simp only [h2]
theorem dx {st st':RSt} {c:List Int} (h:aH st c=some st'):st'.pos=st.pos+(c.length+12):=by
 unfold aH at h;split at h
 · rename_i h0
   split at h
   · split at h
     · cases h
       simp [h0]
     · cases h
   · cases h
 · split at h
   · split at h
     · cases h
       rfl
     · cases h
   · cases h
structure RAt (l0 a:List Int) (st:RSt):Prop where
 go:∃ k,az l0=bn (k+1) a (l0.drop st.pos) st∧l0.length≤st.pos+k
 le:st.pos≤l0.length
 zero:st.pos=0→st=cx
 four:∃ s,s<4294967296∧a=be4 s
theorem RAt.first (l0:List Int):RAt l0 (be4 0) cx:=⟨⟨l0.length,rfl,by show l0.length≤0+_;omega⟩,Nat.zero_le _,fun _=>rfl,0,by omega,rfl⟩
theorem RAt.stop {l0 a:List Int} {st:RSt} (h:RAt l0 a st) (h2:aR a (l0.drop st.pos)=none∨∃ c s,aR a (l0.drop st.pos)=some (c,s)∧aH st c=none):az l0=st:=by
 obtain ⟨k,hk,_⟩:=h.go;rw [hk,bs h2]
theorem RAt.next {l0 a c:List Int} {s:Nat} {st st':RSt} (hb:Byt l0) (h:RAt l0 a st) (h1:aR a (l0.drop st.pos)=some (c,s)) (h2:aH st c=some st'):RAt l0 (be4 s) st':=by
 obtain ⟨k,hk,hk2⟩:=h.go;have sp:=bI (hb.drop _) h1;have hp:=dx h2;have hle:=sp.2.2.1;rw [List.length_drop] at hle;have hs:s<4294967296:=by rw [sp.2.2.2.1];exact fd _
 refine ⟨?_,by omega,fun h0=>by omega,s,hs,rfl⟩;obtain ⟨k',rfl⟩:∃ k',k=k' + 1:=⟨k - 1,by omega⟩;refine ⟨k',?_,by omega⟩;rw [hk,cH h1 h2,List.drop_drop,hp]
end Go.Proofs.YtcaicgipibcicaaGreat
