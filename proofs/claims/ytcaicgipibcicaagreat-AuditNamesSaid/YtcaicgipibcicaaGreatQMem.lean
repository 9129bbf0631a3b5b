/- Plain words: the check sum over bytes, and how a slice of bytes reads in memory. No program in sight. -/
import Derived.WalkKit
import Derived.WalkSpells
import Derived.Deep.AppendSrc
import Derived.Deep.MidRow
import Derived.Deep.Upon
open Go.World renaming cell?_alloc_mark→xD
open List renaming eq_nil_of_length_eq_zero→xx,getElem?_eq_some_iff→wD
open Nat renaming le_refl→wC,lt_of_lt_of_le→xm,zero_add→wL
namespace Go.Proofs.YtcaicgipibcicaaGreat
open Go.RowKit
/-! ### the check sum -/
def dQ (c:Nat):Nat:=if c % 2=1 then (c / 2) ^^^ 3988292384 else c / 2
def mP:Nat→Nat→Nat
 | 0,c=>c
 | k+1,c=>dQ (mP k c)
def dX (c b:Nat):Nat:=mP 8 (c ^^^ b)
def cb (l:List UInt8):Nat:=l.foldl (fun c b=>dX c b.toNat) 4294967295
def crc (l:List UInt8):Nat:=4294967295 - cb l
theorem sJ {c:Nat} (h:c<4294967296):dQ c<4294967296:=by
 unfold dQ;split
 · exact Nat.xor_lt_two_pow (n:=32) (by omega) (by decide)
 · omega
theorem jc (k:Nat) {c:Nat} (h:c<4294967296):mP k c<4294967296:=by
 induction k with
 | zero=>exact h
 | succ k ih=>exact sJ ih
theorem eO {c b:Nat} (h:c<4294967296) (hb:b<256):dX c b<4294967296:=
 jc 8 (Nat.xor_lt_two_pow (n:=32) (by omega) (by omega))
theorem lJ (l:List UInt8):∀ c,c<4294967296→l.foldl (fun c b=>dX c b.toNat) c<4294967296:=by
 induction l with
 | nil=>intro c h;exact h
 | cons b l ih=>intro c h;exact ih _ (eO h b.toNat_lt)
theorem fF (l:List UInt8):cb l<4294967296:=lJ l _ (by decide)
theorem ut (l:List UInt8):crc l<4294967296:=by unfold crc;omega
theorem oV (l:List UInt8) (b:UInt8):cb (l++[b])=dX (cb l) b.toNat:=by
 simp [cb,List.foldl_append]
/-! ### bytes in memory -/
def Rd (w:World) (ao:Option Addr) (l:List UInt8):Prop:=
 l=[]∨∃ b o,ao=some ⟨b,o,none⟩∧∀ i (h:i<l.length),w.cell? ⟨b,o+i,none⟩=some (.int .u8 (l[i].toNat:Int))
def aS (l:List UInt8):List Value:=l.map fun b=>Value.int .u8 (b.toNat:Int)
@[simp] theorem vt (l:List UInt8):(aS l).length=l.length:=by simp [aS]
theorem lK (l:List UInt8):∀ u ∈ aS l,u.oneCell'=true:=by
 intro u hu;simp only [aS,List.mem_map] at hu;obtain ⟨b,_,rfl⟩:=hu;rfl
theorem qC (l:List UInt8) (j:Nat) (u:Value) (h:(aS l)[j]?=some u):∃ hj:j<l.length,u = .int .u8 (l[j].toNat:Int):=by
 have hj:j<l.length:=by
  have:=(wD.1 h).1
  simpa using this
 refine ⟨hj,?_⟩;simp [aS,hj] at h;exact h.symm
structure Keep (X:Nat→Prop) (w w':World):Prop where
 os:w'.os=w.os
 tape:w'.tape=w.tape
 output:w'.output=w.output
 size:w.heap.size≤w'.heap.size
 block:∀ k,k<w.heap.size→¬ X k→w'.heap[k]?=w.heap[k]?
theorem Keep.refl (X:Nat→Prop) (w:World):Keep X w w:=⟨rfl,rfl,rfl,wC _,fun _ _ _=>rfl⟩
theorem Keep.trans {X Y Z:Nat→Prop} {a b c:World} (h:Keep X a b) (k:Keep Y b c) (hx:∀ i,i<a.heap.size→X i→Z i) (hy:∀ i,i<a.heap.size→Y i→Z i):Keep Z a c:=
 ⟨k.os.trans h.os,k.tape.trans h.tape,k.output.trans h.output,Nat.le_trans h.size k.size,
  fun i hi hz=>(k.block i (xm hi h.size) (fun y=>hz (hy i hi y))).trans (h.block i hi (fun x=>hz (hx i hi x)))⟩
theorem Keep.mono {X Z:Nat→Prop} {a b:World} (h:Keep X a b) (hx:∀ i,i<a.heap.size→X i→Z i):Keep Z a b:=
 ⟨h.os,h.tape,h.output,h.size,fun i hi hz=>h.block i hi (fun x=>hz (hx i hi x))⟩
theorem Keep.of_below {B:Nat} {a b:World} (h:Below B a b) (hB:a.heap.size≤B) (X:Nat→Prop):Keep X a b:=
 ⟨h.os,h.tape,h.output,h.size,fun i hi _=>h.block i (xm hi hB)⟩
theorem Keep.below {X:Nat→Prop} {a b:World} (h:Keep X a b) {B:Nat} (hB:B≤a.heap.size) (hx:∀ i,i<B→¬ X i):Below B a b:=
 ⟨h.os,h.tape,h.output,h.size,fun i hi=>h.block i (xm hi hB) (hx i hi)⟩
theorem Keep.of_grown {w w':World} {row:Option Nat} (h:w.grownBy w' row):Keep (fun k=>some k=row) w w':=
 ⟨h.os,h.tape,h.output,h.size,fun k hk hx=>h.block k hk hx⟩
theorem Keep.cell {X:Nat→Prop} {w w':World} (h:Keep X w w') {p:Addr} {v:Value} (hv:w.cell? p=some v) (hx:¬ X p.block):w'.cell? p=some v:=
 (World.cell?_of_block (w:=w) (h.block p.block (World.block_lt_of_cell? w p hv) hx)).trans hv
theorem Keep.old {X:Nat→Prop} {w w':World} (h:Keep X w w') {b:Nat} {o:Obj} (hb:w.heap[b]?=some o) (hx:¬ X b):w'.heap[b]?=some o:=
 (h.block b (lt_of_block hb) hx).trans hb
theorem Keep.rd {X:Nat→Prop} {w w':World} (h:Keep X w w') {ao:Option Addr} {l:List UInt8} (hr:Rd w ao l) (hx:∀ b o,ao=some ⟨b,o,none⟩→¬ X b):Rd w' ao l:=by
 rcases hr with h0 | ⟨b,o,rfl,hc⟩
 · exact .inl h0
 · exact .inr ⟨b,o,rfl,fun i hi=>h.cell (hc i hi) (hx b o rfl)⟩
theorem Below.rd {B:Nat} {w w':World} (h:Below B w w') {ao:Option Addr} {l:List UInt8} (hr:Rd w ao l) (hB:w.heap.size≤B):Rd w' ao l:=
 (Keep.of_below h hB (fun _=>False)).rd hr (fun _ _ _=>id)
theorem Below.next {w a w1:World} (h:Below w.heap.size w a) (k:Below a.heap.size a w1):Below w.heap.size w w1:=h.trans (k.mono h.size)
theorem uu {B:Nat} {w w':World} (h:Below B w w') {ao:Option Addr} {l:List UInt8} (hr:Rd w ao l) (hb:∀ b o,ao=some ⟨b,o,none⟩→b<B):Rd w' ao l:=by
 rcases hr with h0 | ⟨b,o,rfl,hc⟩
 · exact .inl h0
 · exact .inr ⟨b,o,rfl,fun i hi=>(h.cell (p:=⟨b,o+i,none⟩) (hb b o rfl)).trans (hc i hi)⟩
structure Row (w:World) (g cap size:Nat) (xs:List Value):Prop where
 lt:g<w.heap.size
 cell:∀ j u,xs[j]?=some u→w.cell? ⟨g,j,none⟩=some u
 there:∀ j,j<cap*size→(w.cell? ⟨g,j,none⟩).isSome=true
 free:∀ j,j<cap*size→w.frozen? ⟨g,j,none⟩=false
def Own (w:World) (size:Nat) (v:Value) (n:Nat) (xs:List Value):Prop:=
 xs.length=n*size∧((v = .slice none 0 0∧n=0)∨∃ g cap,v = .slice (some ⟨g,0,none⟩) n cap∧n≤cap∧cap≤maxLen∧Row w g cap size xs)
theorem Own.nil (w:World) (size:Nat):Own w size (.slice none 0 0) 0 []:=⟨by simp,.inl ⟨rfl,rfl⟩⟩
theorem Row.keep {X:Nat→Prop} {w w':World} {g cap size:Nat} {xs:List Value} (h:Row w g cap size xs) (k:Keep X w w') (hx:¬ X g):Row w' g cap size xs:=by
 have hb:=k.block g h.lt hx;refine ⟨xm h.lt k.size,fun j u hu=>?_,fun j hj=>?_,fun j hj=>?_⟩
 · rw [World.cell?_of_block (w:=w) (a:=⟨g,j,none⟩) hb];exact h.cell j u hu
 · rw [World.cell?_of_block (w:=w) (a:=⟨g,j,none⟩) hb];exact h.there j hj
 · rw [World.frozen?_of_block (w:=w) (a:=⟨g,j,none⟩) hb];exact h.free j hj
theorem Own.keep {X:Nat→Prop} {w w':World} {size:Nat} {v:Value} {n:Nat} {xs:List Value} (h:Own w size v n xs) (k:Keep X w w') (hx:∀ g,v.ownBlock=some g→¬ X g):Own w' size v n xs:=by
 obtain ⟨h1,h2⟩:=h;refine ⟨h1,?_⟩;rcases h2 with h2 | ⟨g,cap,rfl,hn,hm,hr⟩
 · exact .inl h2
 · exact .inr ⟨g,cap,rfl,hn,hm,hr.keep k (hx g rfl)⟩
theorem Own.lt {w:World} {size:Nat} {v:Value} {n:Nat} {xs:List Value} (h:Own w size v n xs):∀ g,v.ownBlock=some g→g<w.heap.size:=by
 intro g hg;rcases h.2 with ⟨rfl,_⟩ | ⟨g',cap,rfl,hn,hm,hr⟩
 · simp [Value.ownBlock] at hg
 · simp [Value.ownBlock] at hg
   subst hg;exact hr.lt
theorem Keep.alloc (X:Nat→Prop) (w:World) (o:Obj):Keep X w (w.alloc o):=⟨rfl,rfl,rfl,by simp,fun k hk _=>Below.heap_alloc w o k hk⟩
theorem Keep.drew (X:Nat→Prop) (w:World):Keep X w w.drew:=⟨rfl,rfl,rfl,wC _,fun _ _ _=>rfl⟩
theorem Keep.setCells (w:World) (g o:Nat) (vs:List Value):Keep (·=g) w (w.setCells g o vs):=
 ⟨World.os_setCells w g o vs,by
  suffices h:∀ (vs:List Value) (o:Nat) (w:World),(w.setCells g o vs).tape=w.tape from h vs o w
  intro vs
  induction vs with
  | nil=>intro o w;rfl
  | cons v vs ih=>intro o w;simp only [World.setCells];rw [ih];rfl,World.output_setCells w g o vs,by
  suffices h:∀ (vs:List Value) (o:Nat) (w:World),w.heap.size≤(w.setCells g o vs).heap.size from h vs o w
  intro vs
  induction vs with
  | nil=>intro o w;exact wC _
  | cons v vs ih=>intro o w;simp only [World.setCells];exact Nat.le_trans (by simp [World.setCell]) (ih _ _),
  fun k hk hx=>World.heap_setCells_other w g o vs hk hx⟩
theorem Row.made (w:World) (cur:Array Value) (t:TypeId) (fr:Nat × Nat) (cap size:Nat) (xs:List Value) (hs:cur.size=cap*size) (hfr:fr=(0,0)∨cur.size≤fr.1) (hx:∀ (j:Nat) (u:Value),xs[j]?=some u→cur[j]?=some u) :
 Row (w.alloc (.cells cur t fr)) w.heap.size cap size xs:=by
 refine ⟨by simp,fun j u hu=>?_,fun j hj=>?_,fun j hj=>?_⟩
 · rw [xD];exact hx j u hu
 · rw [xD]
   have:j<cur.size:=by omega
   simp [this]
 · obtain ⟨lo,hi⟩:=fr
   rw [World.frozen?_alloc_mark];rcases hfr with h | h
   · cases h;simp
   · have:¬ lo≤j:=by simp only at h;omega
     simp [this]
section
variable {P:Program}
theorem gF (w:World) (t tx ty e:TypeId) (i:TypeInfo) (z:Value) (size bytes:Nat) (ht:P.underlying t=some (.slice e)) (hi:P.info? e=some i) (hz:i.zero=some z) (hsize:i.size=size) (hby:i.bytes=bytes)
 (hzs:z.cells.size=size) (v:Value) (n:Nat) (xs:List Value) (hown:Own w size v n xs) (x:Value) (m:Nat) (news:List Value) (hs:Src P size tx x m news w)
 (h63:n+m≤maxLen) (hbytes:(n+m)*bytes≤140737488355328) :
 ∃ v' w',(Builtin.append_ #[t,tx] ty #[v,x]).run P w = .ok v' w'∧Own w' size v' (n+m) (xs++news)∧Keep (fun k=>v.ownBlock=some k) w w'∧
  (v'.ownBlock=v.ownBlock∨∃ g,v'.ownBlock=some g∧w.heap.size≤g)∧(0<n+m∨v.ownBlock.isSome=true→∃ g cap,v' = .slice (some ⟨g,0,none⟩) (n+m) cap):=by
 subst hsize;subst hby;have hmax:((n+m:Nat):Int)≤9223372036854775807:=by simp only [maxLen] at h63;omega
 have hlen:(xs++news).length=(n+m)*i.size:=by rw [List.length_append,hown.1,hs.newsLen,Nat.add_mul]
 have grow:∀ (ba:Option Addr) (old:Nat),v = .slice ba n old→old<n+m→(Builtin.firstCells i.size n (.slice ba n old)).run P w.drew = .ok xs.toArray w.drew→
  ∃ v' w',(Builtin.append_ #[t,tx] ty #[v,x]).run P w = .ok v' w'∧Own w' i.size v' (n+m) (xs++news)∧Keep (fun k=>v.ownBlock=some k) w w'∧
   (v'.ownBlock=v.ownBlock∨∃ g,v'.ownBlock=some g∧w.heap.size≤g)∧(0<n+m∨v.ownBlock.isSome=true→∃ g cap,v' = .slice (some ⟨g,0,none⟩) (n+m) cap):=by
  intro ba old hv hlt hold;subst hv;have hr:=run_append_grow_src (P:=P) w t tx ty e i z ht hi hz ba n old xs hold x m news hs hlt hmax (growslice_fits hlt hbytes);have hge:=grownCap_ge w (n+m) old e;have hcm:=grownCap_le_maxLen w (n+m) old e h63;refine ⟨_,_,hr,⟨hlen,.inr ⟨w.heap.size,_,rfl,hge,hcm,?_⟩⟩,(Keep.drew _ w).trans (Keep.alloc _ _ _) (fun _ _ h=>h) (fun _ _ h=>h),.inr ⟨_,rfl,wC _⟩,fun _=>⟨_,_,rfl⟩⟩;refine Row.made w.drew _ e (0,0) _ i.size _ ?_ (.inl rfl) ?_
  · simp only [Array.size_append,List.size_toArray,size_zeroCells,hzs,hlen,←Nat.add_mul]
    congr 1
    omega
  · intro j u hu
    have hj:=(wD.1 hu).1;rw [Array.getElem?_append_left (by simpa using hj)]
    simpa using hu
 rcases hown.2 with ⟨rfl,rfl⟩ | ⟨g,cap,rfl,hnc,hcm,hrow⟩
 · have hx:xs=[]:=xx (by simpa using hown.1)
   subst hx;by_cases hm:m=0
   · subst hm
     have hn:news=[]:=xx (by simpa using hs.newsLen);subst hn;refine ⟨.slice none 0 0,w,?_,by simpa using Own.nil w i.size,Keep.refl _ w,.inl rfl,fun h=>by simp [Value.ownBlock] at h⟩;have hc:=hs.cells;rcases hs.kind with ⟨e',hk⟩ | hk <;> simp [Builtin.append_,run_underlying ht,run_underlying hk,sizeOf,typeInfo,hi,hs.len,hc]
   · exact grow none 0 rfl (by omega) (run_firstCells_none w.drew i.size 0 0 0)
 · by_cases hroom:n+m≤cap
   · have hle:(n+m)*i.size≤cap*i.size:=Nat.mul_le_mul_right _ hroom
     rw [Nat.add_mul] at hle;have hnl:=hs.newsLen;have hr:=run_append_room_src (P:=P) w t tx ty e i ht hi g 0 n cap x m news hs hroom (fun j hj=>by simp only [wL];exact hrow.there _ (by omega)) (fun j hj=>by simp only [wL];exact hrow.free _ (by omega));simp only [wL] at hr;refine ⟨_,_,hr,⟨hlen,.inr ⟨g,cap,rfl,hroom,hcm,?_⟩⟩,(Keep.setCells w g _ news).mono (fun k _ h=>by subst h;rfl),.inl rfl,fun _=>⟨_,_,rfl⟩⟩;have hK:=Keep.setCells w g (n*i.size) news;refine ⟨xm hrow.lt hK.size,fun j u hu=>?_,fun j hj=>World.isSome_setCells g news _ w _ (hrow.there j hj),fun j hj=>by rw [World.frozen?_setCells];exact hrow.free j hj⟩;by_cases hj:j<xs.length
     · rw [World.cell?_setCells_out g news _ w ⟨g,j,none⟩ (fun _ _=>.inl (by rw [←hown.1];exact hj))]
       rw [List.getElem?_append_left hj] at hu;exact hrow.cell j u hu
     · rw [List.getElem?_append_right (by omega)] at hu
       have hj2:=(wD.1 hu).1;have:=World.cell?_setCells_in g news (n*i.size) w (fun k hk=>hrow.there _ (by omega)) (j - xs.length) hj2;have e1:n*i.size+(j - xs.length)=j:=by rw [←hown.1];omega
       rw [e1] at this;rw [this]
       simpa [List.getElem?_eq_getElem hj2] using hu
   · refine grow (some ⟨g,0,none⟩) cap rfl (by omega) (run_firstCells_some w.drew i.size n ⟨g,0,none⟩ n cap xs hown.1 ?_)
     intro j u hu;have hadd:(⟨g,0,none⟩:Addr).add j=⟨g,j,none⟩:=by unfold Addr.add;split <;> simp_all
     rw [hadd];exact hrow.cell j u hu
theorem eZ {w:World} {ops:Array Oper} {rest:List Oper} {o:Oper} {a:Act} {Q:Exit→Act→World→Prop} (hgd:o.guard=none) (s x:Operand) (t tx:TypeId)
 (ho:o.op = .call { callee:=.builtin .append,args:=#[s,x],argTypes:=#[t,tx] })
 (e:TypeId) (i:TypeInfo) (z:Value) (size bytes:Nat) (ht:P.underlying t=some (.slice e)) (hi:P.info? e=some i) (hz:i.zero=some z) (hsize:i.size=size) (hby:i.bytes=bytes) (hzs:z.cells.size=size)
 (v:Value) (n:Nat) (xs:List Value) (hs:a.eval s=v) (hown:Own w size v n xs) (xv:Value) (m:Nat) (news:List Value) (hx:a.eval x=xv) (hsrc:Src P size tx xv m news w)
 (h63:n+m≤maxLen) (hbytes:(n+m)*bytes≤140737488355328)
 (h:∀ v' w',Own w' size v' (n+m) (xs++news)→Keep (fun k=>v.ownBlock=some k) w w'→(v'.ownBlock=v.ownBlock∨∃ g,v'.ownBlock=some g∧w.heap.size≤g)→(0<n+m∨v.ownBlock.isSome=true→∃ g cap,v' = .slice (some ⟨g,0,none⟩) (n+m) cap)→wpList P ops Q rest (a.put o.dst v') w') :
 wpList P ops Q (o::rest) a w:=by
 refine wpList_plain hgd fun K hK=>?_
 obtain ⟨v',w',hr,h2,h3,h4,h5⟩:=gF (P:=P) w t tx o.type e i z size bytes ht hi hz hsize hby hzs v n xs hown xv m news hsrc h63 hbytes;unfold Oper.wp execOp;simp only [ho,resolve,invoke,builtin,Sem.run_bind,Sem.run_pure,Result.andThen_ok,List.map_toArray,List.map_cons,List.map_nil,hs,hx,hr];exact hK _ _ (h v' w' h2 h3 h4 h5)
theorem bE {w:World} {ops:Array Oper} {rest:List Oper} {o:Oper} {a:Act} {Q:Exit→Act→World→Prop} (hgd:o.guard=none) (s x:Operand) (t tx:TypeId)
 (ho:o.op = .call { callee:=.builtin .append,args:=#[s,x],argTypes:=#[t,tx] })
 (e:TypeId) (i:TypeInfo) (z:Value) (size bytes:Nat) (ht:P.underlying t=some (.slice e)) (hi:P.info? e=some i) (hz:i.zero=some z) (hsize:i.size=size) (hby:i.bytes=bytes) (hzs:z.cells.size=size)
 (v:Value) (n:Nat) (xs:List Value) (hs:a.eval s=v) (hown:Own w size v n xs) (xv:Value) (m:Nat) (news:List Value) (hx:a.eval x=xv) (hsrc:Src P size tx xv m news w)
 (hpos:0<n+m∨v.ownBlock.isSome=true) (h63:n+m≤maxLen) (hbytes:(n+m)*bytes≤140737488355328)
 (h:∀ g cap w',Own w' size (.slice (some ⟨g,0,none⟩) (n+m) cap) (n+m) (xs++news)→Keep (fun k=>v.ownBlock=some k) w w'→(v.ownBlock=some g∨w.heap.size≤g)→wpList P ops Q rest (a.put o.dst (.slice (some ⟨g,0,none⟩) (n+m) cap)) w') :
 wpList P ops Q (o::rest) a w:=by
 refine eZ hgd s x t tx ho e i z size bytes ht hi hz hsize hby hzs v n xs hs hown xv m news hx hsrc h63 hbytes ?_;intro v' w' hown' hk hb hsh;obtain ⟨g,cap,rfl⟩:=hsh hpos;refine h g cap w' hown' hk ?_;rcases hb with hb | ⟨g',hg',hle⟩
 · exact .inl hb.symm
 · simp [Value.ownBlock] at hg'
   subst hg';exact .inr hle
theorem et {w:World} {ops:Array Oper} {rest:List Oper} {o:Oper} {a:Act} {Q:Exit→Act→World→Prop} (hgd:o.guard=none) (s x:Operand) (t tx:TypeId)
 (ho:o.op = .call { callee:=.builtin .append,args:=#[s,x],argTypes:=#[t,tx] })
 (e:TypeId) (i:TypeInfo) (z:Value) (size bytes:Nat) (ht:P.underlying t=some (.slice e)) (hi:P.info? e=some i) (hz:i.zero=some z) (hsize:i.size=size) (hby:i.bytes=bytes) (hzs:z.cells.size=size)
 (v:Value) (n:Nat) (xs:List Value) (hs:a.eval s=v) (hown:Own w size v n xs) (xv:Value) (m:Nat) (news:List Value) (hx:a.eval x=xv) (hsrc:Src P size tx xv m news w)
 (h63:n+m≤maxLen) (hbytes:(n+m)*bytes≤140737488355328)
 (h:∀ ao cap w',Own w' size (.slice ao (n+m) cap) (n+m) (xs++news)→Keep (fun k=>v.ownBlock=some k) w w'→((Value.slice ao (n+m) cap).ownBlock=v.ownBlock∨∃ g,(Value.slice ao (n+m) cap).ownBlock=some g∧w.heap.size≤g)→wpList P ops Q rest (a.put o.dst (.slice ao (n+m) cap)) w') :
 wpList P ops Q (o::rest) a w:=by
 refine eZ hgd s x t tx ho e i z size bytes ht hi hz hsize hby hzs v n xs hs hown xv m news hx hsrc h63 hbytes ?_;intro v' w' hown' hk hb hsh
 have hv:∃ ao cap,v' = .slice ao (n+m) cap:=by
  rcases hown'.2 with ⟨hv,h0⟩ | ⟨g,cap,hv,_⟩
  · exact ⟨none,0,by rw [hv,h0]⟩
  · exact ⟨_,cap,hv⟩
 obtain ⟨ao,cap,rfl⟩:=hv;exact h ao cap w' hown' hk hb
theorem Src.bytes {w:World} {tx e:TypeId} (hk:P.underlying tx=some (.slice e)) (ao:Option Addr) (m c:Nat) (l:List UInt8) (hl:l.length=m) (hr:Rd w ao l):Src P 1 tx (.slice ao m c) m (aS l) w:=by
 subst hl;rcases hr with rfl | ⟨b,o,rfl,hc⟩
 · cases ao with
   | none=>exact Src.ofNil (P:=P) w hk c
   | some a=>exact Src.ofSlice (P:=P) w hk a 0 c [] (by simp) (fun j u h=>by simp at h) (fun u h=>by cases h)
 · refine Src.ofSlice (P:=P) w hk _ _ c (aS l) (by simp) (fun j u hu=>?_) (lK l)
   obtain ⟨hj,rfl⟩:=qC l j u hu;have hadd:(⟨b,o,none⟩:Addr).add j=⟨b,o+j,none⟩:=by unfold Addr.add;split <;> simp_all
   rw [hadd];exact hc j hj
end
theorem oW {P:Program} (w:World) (src dst e:TypeId) (hs:P.underlying src=some (.slice e)) (he:P.underlying e=some (.int .u8)) (hd:P.underlying dst=some .string) (ao:Option Addr) (n cap:Nat) (l:List UInt8) (hl:l.length=n) (hr:Rd w ao l) :
 (convert src dst (.slice ao n cap)).run P w = .ok (.string ⟨l.toArray⟩) w:=by
 subst hl;rcases hr with rfl | ⟨b,o,rfl,hc⟩
 · cases ao with
   | none=>exact run_convert_bytes_nil w src e hs he 0 cap dst hd
   | some a=>exact run_convert_bytes_back w src dst e a cap [] hs he hd (fun j hj=>by simp at hj)
 · refine run_convert_bytes_back w src dst e _ cap l hs he hd (fun j hj=>?_)
   have hadd:(⟨b,o,none⟩:Addr).add j=⟨b,o+j,none⟩:=by unfold Addr.add;split <;> simp_all
   rw [hadd];exact hc j hj
end Go.Proofs.YtcaicgipibcicaaGreat
