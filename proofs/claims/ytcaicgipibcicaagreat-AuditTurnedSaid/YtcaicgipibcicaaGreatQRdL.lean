/- The gate reads lists: what stands while one grows. -/
import Derived.Test.YtcaicgipibcicaaGreatQRdG5
import Derived.Test.YtcaicgipibcicaaGreatQSumA
import Derived.Test.YtcaicgipibcicaaGreatQAuRef6
set_option maxRecDepth 100000
set_option linter.unusedSimpArgs false
set_option linter.unusedVariables false
open List renaming getElem?_append_left→xr,getElem?_append_right→xo
open Nat renaming zero_add→wL
open Option renaming bind_some→wQ
namespace Go.Proofs.YtcaicgipibcicaaGreat
open Go.RowKit Go.Sort
structure cX {α:Type} (w:World) (g R G L a N:Nat) (s1:Option (List Int)) (p:aW α) (f:α→List Value) (ok:α→Prop) (sz:Nat) (nv:Option Int) (j:Nat) (xs:List α) (sj:Option (List Int)) (sv:Value) (wr:World):Prop where
 len:xs.length=j
 ok:∀ x ∈ xs,ok x
 gate:GtR wr g R G sj
 step:Step (dm p j) s1 sj xs
 put:aq w g R L a 1 wr
 cell:wr.cell? ⟨L,a,none⟩=some sv
 own:Own wr sz sv j (cellsOf f xs)
 new:∀ b,sv.ownBlock=some b→N<b
 num:∀ v,nv=some v→wr.cell? ⟨N,0,none⟩=some (.int .i64 v)
structure lN {α:Type} (w:World) (g R G L a N:Nat) (s1:Option (List Int)) (p:aW α) (f:α→List Value) (ok:α→Prop) (sz:Nat) (nv:Option Int) (j:Nat) (xs:List α) (sj:Option (List Int)) (Z:List Value) (gb cap:Nat) (wr:World):Prop where
 len:xs.length=j
 ok:∀ x ∈ xs,ok x
 gate:GtR wr g R G sj
 step:Step (dm p j) s1 sj xs
 put:aq w g R L a 1 wr
 cell:wr.cell? ⟨L,a,none⟩=some (.slice (some ⟨gb,0,none⟩) (j+1) cap)
 own:Own wr sz (.slice (some ⟨gb,0,none⟩) (j+1) cap) (j+1) (cellsOf f xs++Z)
 new:N<gb
 num:∀ v,nv=some v→wr.cell? ⟨N,0,none⟩=some (.int .i64 v)
section
variable {α:Type} {w:World} {g R G L a N:Nat} {s1:Option (List Int)} {p:aW α} {f:α→List Value} {ok:α→Prop} {sz:Nat} {nv:Option Int} {j:Nat} {xs:List α} {sj:Option (List Int)} {sv:Value} {wr w':World}
def e9 (w:World) (g R G L N:Nat) (nv:Option Int):Prop:=(g<w.heap.size∧R<w.heap.size∧G<w.heap.size∧L<w.heap.size)∧(L≠g∧L≠R∧L≠G)∧w.heap.size≤N+1∧(∀ v,nv=some v→w.heap.size≤N)
theorem cX.below (h:cX w g R G L a N s1 p f ok sz nv j xs sj sv wr) (hb:Below wr.heap.size wr w'):cX w g R G L a N s1 p f ok sz nv j xs sj sv w':=by
 have hk:=Keep.of_below hb (Nat.le_refl _) (fun _=>False);exact ⟨h.len,h.ok,h.gate.below hb,h.step,h.put.trans (aq.below hb),hk.cell h.cell id,h.own.keep hk (fun _ _=>id),h.new,fun v hv=>hk.cell (h.num v hv) id⟩
theorem cX.gated (h:cX w g R G L a N s1 p f ok sz nv j xs sj sv wr) (hA:e9 w g R G L N nv) (hg:GtR w' g R G sj) (hk:Keep (fun k=>k=g) wr w'):cX w g R G L a N s1 p f ok sz nv j xs sj sv w':=by
 obtain ⟨⟨a1,a2,a3,a4⟩,⟨b1,b2,b3⟩,c,c2⟩:=hA;exact ⟨h.len,h.ok,hg,h.step,h.put.trans (aq.of_keep hk (fun k hk=>⟨.inl hk,by rw [hk];exact fun e=>b1 e.symm⟩)),hk.cell h.cell (by exact b1),h.own.keep hk (fun b hb e=>by have:=h.new b hb;have e:b=g:=e;omega),h.new,fun v hv=>hk.cell (h.num v hv) (by have:=c2 v hv;show ¬ N=g;omega)⟩
theorem cX.laid (h:cX w g R G L a N s1 p f ok sz nv j xs sj sv wr) (hA:e9 w g R G L N nv) {Z:List Value} {gb cap:Nat} {w5:World} (hN:N<wr.heap.size) (hth:w.there L a 1)
 (hk:Keep (fun k=>sv.ownBlock=some k) wr w5) (ho:Own w5 sz (.slice (some ⟨gb,0,none⟩) (j+1) cap) (j+1) (cellsOf f xs++Z)) (hb:sv.ownBlock=some gb∨wr.heap.size≤gb) :
 lN w g R G L a N s1 p f ok sz nv j xs sj Z gb cap (w5.setCell ⟨L,a,none⟩ (.slice (some ⟨gb,0,none⟩) (j+1) cap)):=by
 obtain ⟨⟨a1,a2,a3,a4⟩,⟨b1,b2,b3⟩,c,c2⟩:=hA;have off:∀ k,k<w.heap.size∨k=N→¬ sv.ownBlock=some k:=fun k hk he=>by have:=h.new k he;omega
 have hgbN:N<gb:=by rcases hb with hb | hb;exact h.new gb hb;omega
 have hk2:=aJ w5 L a (.slice (some ⟨gb,0,none⟩) (j+1) cap)
 have hput5:aq w g R L a 1 w5:=by
  refine ⟨h.put.keep.trans hk (fun _ _ h=>h) (fun i hi he=>absurd he (off i (.inl hi))),fun q hq v hv=>hk.cell (h.put.else_ q hq v hv) (off _ (.inl a4)),fun q m hm=>av (h.put.room q m hm) hk (off _ (.inl a4))⟩
 have hroom:=hput5.room a 1 hth;refine ⟨h.len,h.ok,(h.gate.keep hk (off _ (.inl a1)) (off _ (.inl a2)) (off _ (.inl a3))).keep hk2 (fun e=>b1 e.symm) (fun e=>b2 e.symm) (fun e=>b3 e.symm),h.step,hput5.trans (aq.set w5 g R L a [.slice (some ⟨gb,0,none⟩) (j+1) cap]),?_,ho.keep hk2 (fun b hb e=>?_),hgbN,fun v hv=>hk2.cell (hk.cell (h.num v hv) (off _ (.inr rfl))) (by have:=c2 v hv;show ¬ N=L;omega)⟩
 · have:=World.rangeAt_setCells_same w5 L a [.slice (some ⟨gb,0,none⟩) (j+1) cap] hroom 0 _ rfl
   rwa [Nat.add_zero] at this
 · have h1:b=L:=e
   have h2:b=gb:=by cases hb;rfl
   omega
theorem lN.read {Z:List Value} {gb cap:Nat} (h:lN w g R G L a N s1 p f ok sz nv j xs sj Z gb cap wr) (hA:e9 w g R G L N nv) (hf:∀ x,(f x).length=sz) (hZ:Z.length=sz) (hp:aE wr g R G gb (j*sz) sz sj p f ok w') :
 ∃ x s2,cX w g R G L a N s1 p f ok sz nv (j+1) (xs++[x]) s2 (.slice (some ⟨gb,0,none⟩) (j+1) cap) w':=by
 obtain ⟨⟨a1,a2,a3,a4⟩,⟨b1,b2,b3⟩,c,c2⟩:=hA;obtain ⟨x,s2,h1,h2,h3,h4,h5⟩:=hp;have hNg:=h.new;refine ⟨x,s2,by simp [h.len],fun y hy=>?_,h2,Step.rep1 h.step h3,?_,h4.keep.cell h.cell (by show ¬ (L=g∨L=R∨L=gb);omega),?_,fun b hb=>by cases hb;exact h.new,fun v hv=>h4.keep.cell (h.num v hv) (by have:=c2 v hv;show ¬ (N=g∨N=R∨N=gb);omega)⟩
 · rcases List.mem_append.1 hy with hy | hy
   · exact h.ok y hy
   · cases List.mem_singleton.1 hy;exact h1
 · refine ⟨h.put.keep.trans h4.keep (fun _ _ h=>h) (fun i hi he=>by rcases he with e | e | e;exact .inl e;exact .inr (.inl e);omega),fun q hq v hv=>h4.keep.cell (h.put.else_ q hq v hv) (by show ¬ (L=g∨L=R∨L=gb);omega),fun q m hm=>av (h.put.room q m hm) h4.keep (by show ¬ (L=g∨L=R∨L=gb);omega)⟩
 · obtain ⟨hl,hr⟩:=h.own
   rcases hr with ⟨h6,_⟩ | ⟨g',cap',h6,h7,h8,h9⟩
   · cases h6
   · cases h6
     have hlx:(cellsOf f xs).length=j*sz:=by rw [cellsOf_length _ sz hf,h.len]
     refine ⟨by rw [cellsOf_length _ sz hf];simp [h.len],.inr ⟨gb,cap,rfl,h7,h8,⟨Nat.lt_of_lt_of_le h9.lt h4.keep.size,fun q u hu=>?_,fun q hq=>?_,fun q hq=>?_⟩⟩⟩
     · rw [gc] at hu
       by_cases hq:q<j*sz
       · rw [xr (by omega)] at hu
         exact h4.else_ q (.inl hq) u (h9.cell q u (by rw [xr (by omega)];exact hu))
       · rw [xo (by omega),hlx] at hu
         have:=h5 (q - j*sz) u hu;rwa [show j*sz+(q - j*sz)=q by omega] at this
     · have:=(h4.room 0 (cap*sz) (fun i hi=>by rw [wL];exact ⟨h9.there i hi,h9.free i hi⟩)) q hq
       rw [wL] at this;exact this.1
     · have:=(h4.room 0 (cap*sz) (fun i hi=>by rw [wL];exact ⟨h9.there i hi,h9.free i hi⟩)) q hq
       rw [wL] at this;exact this.2
theorem lN.elem {Z:List Value} {gb cap:Nat} (h:lN w g R G L a N s1 p f ok sz nv j xs sj Z gb cap wr) (hf:∀ x,(f x).length=sz) (hZ:Z.length=sz):wr.rangeAt gb (j*sz) Z∧wr.there gb (j*sz) sz∧j+1≤cap:=by
 obtain ⟨hl,hr⟩:=h.own;rcases hr with ⟨h6,_⟩ | ⟨g',cap',h6,h7,h8,h9⟩
 · cases h6
 · cases h6
   have hlx:(cellsOf f xs).length=j*sz:=by rw [cellsOf_length _ sz hf,h.len]
   have hcap:(j+1)*sz≤cap*sz:=Nat.mul_le_mul_right _ h7;rw [Nat.add_mul,Nat.one_mul] at hcap;refine ⟨fun q u hu=>h9.cell _ u ?_,fun q hq=>⟨h9.there _ (by omega),h9.free _ (by omega)⟩,h7⟩;rw [xo (by omega),hlx,show j*sz+q - j*sz=q by omega];exact hu
end
def kv {α:Type} (w:World) (g R G L a:Nat) (s:Option (List Int)) (most:Nat) (p:aW α) (f:α→List Value) (ok:α→Prop) (sz:Nat) (w':World):Prop:=
 ∃ (xs:List α) (s':Option (List Int)) (sv:Value),(∀ x ∈ xs,ok x)∧xs.length≤most∧GtR w' g R G s'∧Step (dJ most p) s s' xs∧aq w g R L a 1 w'∧w'.cell? ⟨L,a,none⟩=some sv∧Own w' sz sv xs.length (cellsOf f xs)∧∀ b,sv.ownBlock=some b→w.heap.size≤b
theorem Step.list {α:Type} {p:aW α} {most:Nat} {s s1 s2:Option (List Int)} {n:Nat} {xs:List α} (h1:Step (cz most) s s1 (n:Int)) (h2:Step (dm p n) s1 s2 xs):Step (dJ most p) s s2 xs:=by
 obtain ⟨e1,v1⟩:=h1;obtain ⟨e2,v2⟩:=h2;cases s with
 | none=>subst e1;subst e2;exact Step.none _ _
 | some l=>
   simp only [wQ] at e1 v1;cases hp:cz most l with
   | none=>
     rw [hp] at e1;subst e1;subst e2;exact Step.fail (by simp [dJ,hp]) _
   | some y=>
     obtain ⟨y,l1⟩:=y;rw [hp] at e1;have ha:=v1 y l1 hp;subst e1;simp only [Option.map_some,wQ] at e2 v2;cases hq:dm p n l1 with
     | none=>
       rw [hq] at e2;subst e2;refine Step.fail ?_ _;simp only [dJ,hp,wQ];rw [←ha]
       simpa using hq
     | some z=>
       obtain ⟨z,l2⟩:=z;rw [hq] at e2;have hb:=v2 z l2 hq;subst e2 hb;refine Step.some ?_;simp only [dJ,hp,wQ];rw [←ha]
       simpa using hq
theorem Step.listNone {α:Type} {p:aW α} {most:Nat} {s:Option (List Int)} {n:Int} (h1:Step (cz most) s Option.none n) (xs:List α):Step (dJ most p) s Option.none xs:=by
 cases s with
 | none=>exact Step.none _ _
 | some l=>
   have e1:=h1.1;simp only [wQ] at e1;refine Step.fail ?_ _;cases hp:cz most l with
   | none=>simp [dJ,hp]
   | some y=>rw [hp] at e1;cases e1
def Far (s1:Option (List Int)) (nv:Int) (j:Nat):Prop:=(∃ l,s1=some l∧(j:Int)≤nv)∨(s1=none∧j=0)
theorem nz {most:Nat} {s s1:Option (List Int)} {nv:Int} (hm:most≤9223372036854775807) (h:Step (cz most) s s1 nv) (hb:∀ l,s=some l→Byt l) (hs:s1≠none):0≤nv∧nv≤most:=by
 obtain ⟨e1,v1⟩:=h;cases s with
 | none=>exact absurd e1 hs
 | some l=>
   simp only [wQ] at e1 v1;cases hp:cz most l with
   | none=>rw [hp] at e1;exact absurd e1 hs
   | some y=>
     obtain ⟨y,r⟩:=y;have:=v1 y r hp;subst this;have:=wq (hb l rfl) hm hp;exact ⟨this.1,this.2.1⟩
theorem gI {α:Type} {w:World} {g R G L a N:Nat} {s s1:Option (List Int)} {p:aW α} {f:α→List Value} {ok:α→Prop} {sz:Nat} {nv:Int} {j most:Nat} {xs:List α} {sj:Option (List Int)} {sv:Value} {wr:World}
 (hst:Step (cz most) s s1 nv) (hin:s1≠none→0≤nv∧nv≤most) (hfar:Far s1 nv j) (h:cX w g R G L a N s1 p f ok sz (some nv) j xs sj sv wr) (hN:w.heap.size≤N) (hend:¬ (j:Int)<nv∨sj=none):kv w g R G L a s most p f ok sz wr:=by
 rcases hfar with ⟨l,rfl,hj⟩ | ⟨rfl,rfl⟩
 · obtain ⟨h1,h2⟩:=hin (by simp)
   obtain ⟨n,rfl⟩:∃ n:Nat,nv=n:=⟨nv.toNat,by omega⟩
   have hrep:Step (dm p n) (some l) sj xs:=by
    by_cases hs:sj=none
    · subst hs
      exact h.step.repFail (by omega) xs
    · have:¬ (j:Int)<n:=by rcases hend with h3 | h3;exact h3;exact absurd h3 hs
      obtain rfl:n=j:=by omega
      exact h.step
   exact ⟨xs,sj,sv,h.ok,by rw [h.len];omega,h.gate,Step.list hst hrep,h.put,h.cell,by rw [h.len];exact h.own,fun b hb=>by have:=h.new b hb;omega⟩
 · have hsj:sj=none:=h.step.1
   subst hsj;exact ⟨xs,none,sv,h.ok,by rw [h.len];omega,h.gate,Step.listNone hst xs,h.put,h.cell,by rw [h.len];exact h.own,fun b hb=>by have:=h.new b hb;omega⟩
end Go.Proofs.YtcaicgipibcicaaGreat
