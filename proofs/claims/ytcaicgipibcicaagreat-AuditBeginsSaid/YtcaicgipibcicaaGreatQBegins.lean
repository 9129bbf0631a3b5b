/- The check sum parts bytes that differ in one place. No program in sight. -/
import Derived.Test.YtcaicgipibcicaaGreatQRdAl
import Derived.Test.YtcaicgipibcicaaGreatQRowB
import Derived.Test.YtcaicgipibcicaaGreatQRdRg
import Derived.Test.YtcaicgipibcicaaGreatQEnc
import Derived.Laws.BitsAllLaws
import Derived.BigRegion
set_option maxRecDepth 100000
set_option maxHeartbeats 8000000
set_option linter.unusedSimpArgs false
set_option linter.unusedVariables false
open Go.Lib renaming hid→wB
open List renaming append_assoc→wP,cons_append→xR,getElem?_drop→xC,getElem?_eq_getElem→wE,getElem?_eq_some_iff→wD,getElem?_take_of_lt→xJ,length_append→wH,length_drop→xt,length_take→wV,mem_of_getElem?→wM,take_zero→xF
open Nat renaming le_refl→wC,le_trans→xc,zero_le→xd
open Option renaming bind_some→wQ,map_eq_some_iff→xO,map_some→xw
open Option.some renaming injEq→xb
open Prod.mk renaming injEq→xq
namespace Go.Proofs.YtcaicgipibcicaaGreat
open Go.RowKit
theorem la {a b c:Nat} (h:a ^^^ c=b ^^^ c):a=b:=by
 have:=congrArg (· ^^^ c) h
 simpa [Nat.xor_assoc] using this
theorem si {a b c:Nat} (h:c ^^^ a=c ^^^ b):a=b:=by
 rw [Nat.xor_comm c a,Nat.xor_comm c b] at h;exact la h
theorem ol {c:Nat} (h:c<2147483648):2147483648≤c ^^^ 3988292384:=by
 have h1:(c ^^^ 3988292384).testBit 31=true:=by
  rw [Nat.testBit_xor,Nat.testBit_lt_two_pow (show c<2 ^ 31 from h)]
  decide
 exact Nat.ge_two_pow_of_testBit h1
theorem qd {a b:Nat} (ha:a<4294967296) (hb:b<4294967296) (h:dQ a=dQ b):a=b:=by
 have ta:=ol (show a / 2<2147483648 by omega);have tb:=ol (show b / 2<2147483648 by omega);unfold dQ at h;split at h <;> split at h
 · have:=la h
   omega
 · omega
 · omega
 · omega
theorem ju:∀ (k:Nat) {a b:Nat},a<4294967296→b<4294967296→mP k a=mP k b→a=b
 | 0,_,_,_,_,h=>h
 | k+1,_,_,ha,hb,h=>ju k ha hb (qd (jc k ha) (jc k hb) h)
theorem kN {c b:Nat} (h:c<4294967296) (hb:b<256):c ^^^ b<4294967296:=Nat.xor_lt_two_pow (n:=32) (by omega) (by omega)
theorem om {a b x:Nat} (ha:a<4294967296) (hb:b<4294967296) (hx:x<256) (h:dX a x=dX b x):a=b:=
 la (ju 8 (kN ha hx) (kN hb hx) h)
theorem ng {a x y:Nat} (ha:a<4294967296) (hx:x<256) (hy:y<256) (h:dX a x=dX a y):x=y:=
 si (ju 8 (kN ha hx) (kN ha hy) h)
theorem oo (l:List UInt8):∀ a b,a<4294967296→b<4294967296→l.foldl (fun c b=>dX c b.toNat) a=l.foldl (fun c b=>dX c b.toNat) b→a=b:=by
 induction l with
 | nil=>intro a b _ _ h;exact h
 | cons x l ih=>intro a b ha hb h;exact om ha hb x.toNat_lt (ih _ _ (eO ha x.toNat_lt) (eO hb x.toNat_lt) h)
theorem vD (p q:List UInt8) (x y:UInt8) (h:crc (p++x::q)=crc (p++y::q)):x=y:=by
 have h1:=fF (p++x::q);have h2:=fF (p++y::q)
 have h3:cb (p++x::q)=cb (p++y::q):=by
  unfold crc at h;omega
 unfold cb at h3;rw [List.foldl_append,List.foldl_append,List.foldl_cons,List.foldl_cons] at h3;have hp:=lJ p 4294967295 (by decide);have h4:=oo q _ _ (eO hp x.toNat_lt) (eO hp y.toNat_lt) h3;exact UInt8.toNat_inj.1 (ng hp x.toNat_lt y.toNat_lt h4)
theorem tH {p q:List Int} {x y:Int} (hx:0≤x∧x≤255) (hy:0≤y∧y≤255) (h:dA (p++x::q)=dA (p++y::q)):x=y:=by
 unfold dA u8s at h;rw [List.map_append,List.map_append,List.map_cons,List.map_cons] at h;have:=congrArg UInt8.toNat (vD _ _ _ _ h);rw [UInt8.toNat_ofNat',UInt8.toNat_ofNat'] at this;omega
theorem jv {P:RSt→Prop} (hs:∀ st st' c,P st→aH st c=some st'→P st'):∀ (k:Nat) (a l:List Int) (st:RSt),P st→P (bn k a l st)
 | 0,_,_,st,h=>h
 | k+1,a,l,st,h=>by
   unfold bn;cases h1:aR a l with
   | none=>exact h
   | some y=>
     obtain ⟨c,s⟩:=y;simp only;cases h2:aH st c with
     | none=>exact h
     | some st'=>exact jv hs k _ _ _ (hs _ _ _ h h2)
theorem jw (l:List Int):((az l).pos≠0→aA (az l).c=0)∧(az l).recs.length≤(az l).pos:=by
 refine jv (P:=fun st=>(st.pos≠0→aA st.c=0)∧st.recs.length≤st.pos) ?_ _ _ _ _ ⟨fun h=>absurd rfl h,wC _⟩;rintro st st' c ⟨h1,h2⟩ h;unfold aH at h;split at h
 · split at h
   · split at h
     · cases h
       rename_i hc
       exact ⟨fun _=>hc,xd _⟩
     · cases h
   · cases h
 · rename_i hp
   split at h
   · split at h
     · cases h
       refine ⟨fun _=>h1 hp,?_⟩
       show (st.recs++[_]).length≤st.pos+(c.length+12)
       rw [wH];simp;omega
     · cases h
   · cases h
def eR:PAu→List aw→Nat→Int→Nat × Int
 | _,[],i,k=>(i,k)
 | a,x::xs,i,k=>if (db a x).1≠0 then (i,(db a x).1) else eR (db a x).2 xs (i+1) k
def bR (l:List Int):Nat × Int:=
 if (az l).pos=0 then (0,250) else eR ⟨(az l).c,0,[]⟩ (az l).recs 0 (if (az l).pos<l.length then 250 else 0)
theorem tI (a:PAu) (xs:List aw) (i:Nat) (k:Int) (h:xs.length≤i):eR a (xs.drop i) i k=(i,k):=by
 rw [List.drop_of_length_le h];rfl
theorem tJ {a:PAu} {xs:List aw} {i:Nat} {k:Int} {x:aw} (h:xs[i]?=some x) (h2:(db a x).1≠0):eR a (xs.drop i) i k=(i,(db a x).1):=by
 obtain ⟨hi,h⟩:=wD.1 h;rw [List.drop_eq_getElem_cons hi,h,eR,if_pos h2]
theorem sk {a:PAu} {xs:List aw} {i:Nat} {k:Int} {x:aw} (h:xs[i]?=some x) (h2:(db a x).1=0):eR a (xs.drop i) i k=eR (db a x).2 (xs.drop (i+1)) (i+1) k:=by
 obtain ⟨hi,h⟩:=wD.1 h;rw [List.drop_eq_getElem_cons hi,h,eR,if_neg (by rw [h2];exact fun e=>e rfl)]
theorem iz {c:ag} (h:aA c=0):aG c=true:=by
 unfold aA at h;cases hc:aG c with
 | true=>rfl
 | false=>simp [hc] at h
theorem eS.keepA {lo:Nat} {sv:Value} {vs:List RV} {W W':World} {X:Nat→Prop} (h:eS lo sv vs W) (hk:Keep X W W') (hx:∀ k,X k→W.heap.size≤k):eS lo sv vs W':=by
 refine ⟨h.own.keep hk (fun b e hX=>by have h1:=h.own.lt b e;have h2:=hx b hX;omega),h.blk,fun v hv=>?_,fun v hv=>?_⟩
 · obtain ⟨N,M,h1,h2,h3,h4⟩:=h.zone v hv
   exact h1 X _ _ (h.ins v hv) hk (fun k hX=>.inr (xc h3 (hx k hX)))
 · obtain ⟨N,M,h1,h2,h3,h4⟩:=h.zone v hv
   exact ⟨N,M,h1,h2,xc h3 hk.size,h4⟩
theorem eS.apart {lo:Nat} {sv:Value} {vs:List RV} {W:World} {A M:Nat} (h:eS lo sv vs W) (hA:W.heap.size≤A) (hM:W.heap.size≤M):∀ v ∈ vs,jt v A M:=fun v hv X w w' hi hk hx=>by
 obtain ⟨N,M',h1,h2,h3,h4⟩:=h.zone v hv;exact h1 X w w' hi hk (fun k hX=>.inr (by rcases hx k hX with e | e <;> omega))
structure LgAt (W1:World) (A M:Nat) (vs:List RV) (c:ag) (k:Int) (tot:Nat × Int) (j:Nat) (wr:World):Prop where
 ex:∃ a ts,iw a A M (128*j) wr∧Alike a ts∧a.c=c∧eR a ((vs.map (·.x)).drop j) j k=tot
 keep:Keep (fun k=>k=A∨k=M) W1 wr
def rt (w:World) (l0:List Int) (e:Ending) (w':World):Prop:=
 Below w.heap.size w w'∧e = .returned (.agg #[.int .i64 ((bR l0).1:Int),.int .i64 ((bR l0).1:Int),.int .i64 (bR l0).2])
theorem fw {l:List Int} {j p q:Nat} {y:Int} (h:p+q≤j):((l.set j y).drop p).take q=(l.drop p).take q:=by
 apply List.ext_getElem?
 intro i;by_cases hi:i<q
 · rw [xJ hi,xJ hi,xC,xC,List.getElem?_set_ne (by omega)]
 · rw [List.getElem?_eq_none (by rw [wV];omega),List.getElem?_eq_none (by rw [wV];omega)]
theorem nh {l:List Int} {j p q:Nat} {y:Int} (hj:j<l.length) (h1:p≤j) (h2:j<p+q) (h:((l.set j y).drop p).take q=(l.drop p).take q):l[j]?=some y:=by
 have:=congrArg (fun l:List Int=>l[j - p]?) h;rw [xJ (by omega),xJ (by omega),xC,xC,show p+(j - p)=j by omega,List.getElem?_set_self hj] at this;exact this.symm
theorem ld {l:List Int} {j p q:Nat} {y:Int} (h:j<p):((l.set j y).drop p).take q=(l.drop p).take q:=by
 rw [List.drop_set_of_lt h]
theorem Byt.set {l:List Int} (h:Byt l) {y:Int} (hy:0≤y∧y≤255) (j:Nat):Byt (l.set j y):=fun x hx=>by
 rcases List.mem_or_eq_of_mem_set hx with h1 | rfl
 · exact h x h1
 · exact hy
theorem vE {u v:List Int} (hu:u.length=4) (hv:v.length=4) (hbu:Byt u) (hbv:Byt v) (h:beI u=beI v):u=v:=by
 rw [←nC hu hbu,←nC hv hbv,h]
theorem mz {a l c:List Int} {s:Nat} (hb:Byt l) (h:aR a l=some (c,s)):beI ((l.drop (8+c.length)).take 4)=(s:Int):=by
 have sp:=bI hb h;have hr:=hO (show (l.take 4).length=4 by rw [wV];omega) (hb.take 4);unfold aR at h;split at h
 · cases h
 · split at h
   · cases h
   · split at h
     · rename_i hs
       simp only [xb,xq] at h;rw [h.2,show (beI (l.take 4)).toNat=c.length by omega] at hs;exact hs
     · cases h
theorem sq {a l c:List Int} {s j:Nat} {y:Int} (hb:Byt l) (h:aR a l=some (c,s)) (hj:c.length+12≤j):aR a (l.set j y)=some (c,s):=by
 have sp:=bI hb h;rw [←h];have e0:(l.set j y).take 4=l.take 4:=by simpa using fw (l:=l) (j:=j) (p:=0) (q:=4) (y:=y) (by omega)
 have e1:((l.set j y).drop 4).take 4=(l.drop 4).take 4:=fw (by omega);have en:(beI (l.take 4)).toNat=c.length:=by have:=sp.2.2.2.2.1;omega
 have e2:((l.set j y).drop 8).take c.length=(l.drop 8).take c.length:=fw (by omega);have e3:((l.set j y).drop (8+c.length)).take 4=(l.drop (8+c.length)).take 4:=fw (by omega);unfold aR;rw [List.length_set,e0,e1,en,e2,e3]
theorem ni {a l c:List Int} {s j:Nat} {y:Int} (hb:Byt l) (hy:0≤y∧y≤255) (h:aR a l=some (c,s)) (hj:j<c.length+12) (hne:l[j]?≠some y):aR a (l.set j y)=none:=by
 have sp:=bI hb h;have sm:=mz hb h;have hjl:j<l.length:=by omega
 have hb':=hb.set hy j;cases h':aR a (l.set j y) with
 | none=>rfl
 | some z=>
   exfalso
   obtain ⟨c',s'⟩:=z;have sp':=bI hb' h';have sm':=mz hb' h';rw [List.length_set] at sp';have el0:l.take 4=(l.drop 0).take 4:=by rw [List.drop_zero]
   have el0':(l.set j y).take 4=((l.set j y).drop 0).take 4:=by rw [List.drop_zero]
   have len:∀ p,p+4≤l.length→((l.drop p).take 4).length=4:=fun p hp=>by rw [wV,xt];omega
   have len':∀ p,p+4≤l.length→(((l.set j y).drop p).take 4).length=4:=fun p hp=>by rw [wV,xt,List.length_set];omega
   have inj:∀ p,p+4≤l.length→beI (((l.set j y).drop p).take 4)=beI ((l.drop p).take 4)→((l.set j y).drop p).take 4=(l.drop p).take 4:=fun p hp e=>
    vE (len' p hp) (len p hp) ((hb'.drop p).take 4) ((hb.drop p).take 4) e
   rw [el0] at sp;rw [el0'] at sp';by_cases h4:j<4
   · have e1:((l.set j y).drop 4).take 4=(l.drop 4).take 4:=ld h4
     rw [e1] at sp';have hc:c'.length=c.length:=by omega
     exact hne (nh hjl (xd _) (by omega) (inj 0 (by omega) (by omega)))
   · have e0:((l.set j y).drop 0).take 4=(l.drop 0).take 4:=fw (by omega)
     rw [e0] at sp';have hc:c'.length=c.length:=by omega
     rw [hc] at sm' sp';by_cases h8:j<8
     · exact hne (nh hjl (by omega) (by omega) (inj 4 (by omega) (by omega)))
     · by_cases hn:j<8+c.length
       · have e3:((l.set j y).drop (8+c.length)).take 4=(l.drop (8+c.length)).take 4:=ld (by omega)
         rw [e3,sm] at sm';have hs:s=s':=by omega
         rw [sp.2.2.2.1,sp'.2.2.2.1] at hs;obtain ⟨i,hi⟩:∃ i,j=8+i:=⟨j - 8,by omega⟩;have hci:i<c.length:=by omega
         have hc':c'=c.set i y:=by
          rw [sp'.2.1];apply List.ext_getElem?
          intro m;by_cases hm:m<c.length
          · rw [xJ hm,xC]
            have hcm:c[m]?=l[8+m]?:=by
             conv=>lhs;rw [sp.2.1]
             rw [xJ hm,xC]
            by_cases e:m=i
            · subst e
              rw [hi,List.getElem?_set_self (by omega),List.getElem?_set_self hm]
            · rw [List.getElem?_set_ne (by omega),List.getElem?_set_ne (by omega),hcm]
          · rw [List.getElem?_eq_none (by rw [wV];omega),List.getElem?_eq_none (by rw [List.length_set];omega)]
         have hcl:c[i]?=l[j]?:=by
          conv=>lhs;rw [sp.2.1]
          rw [xJ hci,xC,hi]
         have hbc:0≤c[i]∧c[i]≤255:=by
          have h1:l[j]?=some c[i]:=by rw [←hcl,wE hci]
          exact hb _ (wM h1)
         have es:c=c.take i++c[i]::c.drop (i+1):=by rw [←List.drop_eq_getElem_cons hci,List.take_append_drop]
         have es':c.set i y=c.take i++y::c.drop (i+1):=by rw [List.set_eq_take_append_cons_drop,if_pos hci]
         rw [hc',es'] at hs
         conv at hs=>lhs;rw [es]
         rw [←wP,←wP] at hs;have:=tH hbc hy hs;exact hne (by rw [←hcl,wE hci,this])
       · have e2:((l.set j y).drop 8).take c.length=(l.drop 8).take c.length:=fw (by omega)
         have hcc:c'=c:=by rw [sp'.2.1,e2,←sp.2.1]
         have hs:s'=s:=by rw [sp.2.2.2.1,sp'.2.2.2.1,hcc]
         rw [hs,←sm] at sm';exact hne (nh hjl (by omega) (by omega) (inj (8+c.length) (by omega) sm'))
theorem iU {st st':RSt} {c:List Int} (h:aH st c=some st') (h0:st.pos=0→st.recs=[]):(st.pos≠0→st'.c=st.c)∧(∃ r,st'.recs=st.recs++r)∧st'.pos≠0:=by
 have hp:=dx h;unfold aH at h;split at h
 · rename_i hz
   split at h
   · split at h
     · cases h
       exact ⟨fun e=>absurd hz e,⟨[],by rw [h0 hz];rfl⟩,by omega⟩
     · cases h
   · cases h
 · rename_i hz
   split at h
   · split at h
     · cases h
       exact ⟨fun _=>rfl,⟨_,rfl⟩,by omega⟩
     · cases h
   · cases h
theorem dM:∀ (k:Nat) (a l:List Int) (st:RSt),Byt l→(st.pos=0→st.recs=[])→(st.pos≠0→(bn k a l st).c=st.c)∧(∃ r,(bn k a l st).recs=st.recs++r)∧(bn k a l st).pos≤st.pos+l.length
 | 0,_,_,st,_,_=>⟨fun _=>rfl,⟨[],by simp [bn]⟩,by simp [bn]⟩
 | k+1,a,l,st,hb,h0=>by
   cases h1:aR a l with
   | none=>rw [bs (.inl h1)];exact ⟨fun _=>rfl,⟨[],by simp⟩,by omega⟩
   | some z=>
     obtain ⟨c,s⟩:=z;cases h2:aH st c with
     | none=>rw [bs (.inr ⟨c,s,h1,h2⟩)];exact ⟨fun _=>rfl,⟨[],by simp⟩,by omega⟩
     | some st'=>
       rw [cH h1 h2];obtain ⟨e1,⟨r,e2⟩,e3⟩:=iU h2 h0;obtain ⟨f1,⟨r',f2⟩,f3⟩:=dM k (be4 s) (l.drop (c.length+12)) st' (hb.drop _) (fun h=>absurd h e3);have hp:=dx h2;have sp:=bI hb h1;rw [xt] at f3;exact ⟨fun h=>by rw [f1 e3,e1 h],⟨r++r',by rw [f2,e2,wP]⟩,by omega⟩
theorem iV {y:Int} (hy:0≤y∧y≤255):∀ (k:Nat) (a l:List Int) (st:RSt) (j:Nat),Byt l→(st.pos=0→st.recs=[])→(bn k a l st).pos=st.pos+l.length→j<l.length→l[j]?≠some y→
 (bn k a (l.set j y) st).pos<st.pos+l.length∧(∃ r,(bn k a l st).recs=(bn k a (l.set j y) st).recs++r)∧((bn k a (l.set j y) st).pos=0∨(bn k a (l.set j y) st).c=(bn k a l st).c)
 | 0,a,l,st,j,_,_,h,hj,_=>by
   simp [bn] at h;subst h;exact absurd hj (Nat.not_lt_zero _)
 | k+1,a,l,st,j,hb,h0,h,hj,hne=>by
   have ext:=dM (k+1) a l st hb h0;cases h1:aR a l with
   | none=>rw [bs (.inl h1)] at h;omega
   | some z=>
     obtain ⟨c,s⟩:=z;cases h2:aH st c with
     | none=>rw [bs (.inr ⟨c,s,h1,h2⟩)] at h;omega
     | some st'=>
       have hp:=dx h2;have sp:=bI hb h1;by_cases hfar:c.length+12≤j
       · obtain ⟨e1,e2,e3⟩:=iU h2 h0
         rw [cH h1 h2] at h ⊢;rw [cH (sq hb h1 hfar) h2,List.drop_set,if_neg (by omega)];have:=iV hy k (be4 s) (l.drop (c.length+12)) st' (j - (c.length+12)) (hb.drop _) (fun h=>absurd h e3) (by rw [xt];omega) (by rw [xt];omega) (by rw [xC,show c.length+12+(j - (c.length+12))=j by omega];exact hne);rw [xt] at this;exact ⟨by omega,this.2⟩
       · rw [bs (a:=a) (l:=l.set j y) (.inl (ni hb hy h1 (by omega) hne))]
         refine ⟨by omega,ext.2.1,?_⟩;by_cases hz:st.pos=0
         · exact .inl hz
         · exact .inr (ext.1 hz).symm
theorem jx:∀ (xs:List aw) (a:PAu) (i:Nat) (k:Int),(eR a xs i k).2=0→k=0
 | [],_,_,_,h=>h
 | x::xs,a,i,k,h=>by
   unfold eR at h;split at h
   · rename_i hx
     exact absurd h hx
   · exact jx xs _ _ _ h
theorem ru:∀ (xs:List aw) (a:PAu) (i:Nat) (k:Int),i≤(eR a xs i k).1
 | [],_,_,_=>wC _
 | x::xs,a,i,k=>by
   unfold eR;split
   · exact wC _
   · exact xc (Nat.le_succ i) (ru xs _ _ _)
theorem lg:∀ (xs ys:List aw) (a:PAu) (i:Nat) (k:Int),(eR a (xs++ys) i 0).2=0→eR a xs i k=(i+xs.length,k)∧i+xs.length≤(eR a (xs++ys) i 0).1
 | [],ys,a,i,k,h=>⟨rfl,ru _ _ _ _⟩
 | x::xs,ys,a,i,k,h=>by
   rw [xR] at h ⊢;by_cases hx:(db a x).1=0
   · have e:∀ zs kk,eR a (x::zs) i kk=eR (db a x).2 zs (i+1) kk:=fun zs kk=>by rw [eR,if_neg (fun h=>h hx)]
     rw [e] at h ⊢;rw [e];have:=lg xs ys _ (i+1) k h;rw [List.length_cons,show i+(xs.length+1)=i+1+xs.length by omega];exact this
   · rw [eR,if_pos hx] at h
     exact absurd h hx
theorem qe {l:List Int} {j:Nat} {y:Int} (hb:Byt l) (hy:0≤y∧y≤255) (h:(bR l).2=0) (hj:j<l.length) (hne:l[j]?≠some y):(bR (l.set j y)).2=250∧(bR (l.set j y)).1≤(bR l).1:=by
 have hp:(az l).pos≠0:=fun e=>by
  unfold bR at h;rw [if_pos e] at h;cases h
 have hk:=h;unfold bR at hk;rw [if_neg hp] at hk;have hk0:=jx _ _ _ _ hk;have hge:¬ (az l).pos<l.length:=fun e=>by rw [if_pos e] at hk0;cases hk0
 have ext:=dM (l.length+1) (be4 0) l cx hb (fun _=>rfl);have ht:=iV hy (l.length+1) (be4 0) l cx j hb (fun _=>rfl) (by have:=ext.2.2;have h0:cx.pos=0:=rfl;have:(az l).pos=(bn (l.length+1) (be4 0) l cx).pos:=rfl;omega) hj hne;have e0:az (l.set j y)=bn (l.length+1) (be4 0) (l.set j y) cx:=by unfold az;rw [List.length_set]
 rw [←e0] at ht;obtain ⟨h1,⟨r,h2⟩,h3⟩:=ht
 have e1:bR l=eR ⟨(az l).c,0,[]⟩ (az l).recs 0 0:=by
  unfold bR;rw [if_neg hp,if_neg hge]
 rw [e1] at h ⊢;have e2:(az l).recs=(az (l.set j y)).recs++r:=h2;rw [e2] at h ⊢;by_cases hz:(az (l.set j y)).pos=0
 · have:bR (l.set j y)=(0,250):=by unfold bR;rw [if_pos hz]
   rw [this];exact ⟨rfl,xd _⟩
 · have hlt:(az (l.set j y)).pos<(l.set j y).length:=by rw [List.length_set];have:cx.pos=0:=rfl;omega
   have hc:(az (l.set j y)).c=(az l).c:=h3.resolve_left hz;have:=lg _ r _ 0 250 h;unfold bR;rw [if_neg hz,if_pos hlt,hc,this.1];exact ⟨rfl,this.2⟩
def Can {α:Type} (p:aW α) (f:α→List Int):Prop:=∀ l x r,Byt l→p l=some (x,r)→l=f x++r∧Byt r
theorem or128 (n:Nat):bits .or .u8 ((n:Int) % 256) 128=((n % 128+128:Nat):Int):=by
 have h:=u8_or_nat (n % 256) 128 (by omega) (by omega);rw [show ((n:Int) % 256)=((n % 256:Nat):Int) by omega];rw [show (128:Int)=((128:Nat):Int) from rfl,h]
 congr 1
 have:∀ m,m<256→m ||| 128=m % 128+128:=by decide +kernel
 rw [this _ (by omega)];omega
theorem mA:∀ (l:List Int) (i m v:Nat) (r:List Int),Byt l→dI i m l=some (v,r)→∃ n,v=m+128 ^ i*n∧l=aO n++r∧(0<i→0<n)
 | [],i,m,v,r,_,h=>by simp [dI] at h
 | b::l,i,m,v,r,hb,h=>by
   obtain ⟨b1,b2⟩:=hb.head;unfold dI at h;split at h
   · cases h
   · rename_i hno
     split at h
     · rename_i h128
       simp only [xb,xq] at h;obtain ⟨rfl,rfl⟩:=h;refine ⟨b.toNat,by rw [Nat.mod_eq_of_lt (by omega)],?_,fun hi=>?_⟩
       · rw [dh (by omega)]
         simp;omega
       · have:¬ b=0:=fun e=>hno (.inr ⟨hi,e⟩)
         omega
     · rename_i h128
       obtain ⟨n,h1,h2,h3⟩:=mA l (i+1) _ v r hb.tail h;have hn:=h3 (by omega);refine ⟨b.toNat % 128+128*n,?_,?_,fun _=>by omega⟩
       · rw [h1,Nat.pow_succ,Nat.mul_add,Nat.mul_assoc]
         omega
       · rw [fJ (by omega),or128,show (b.toNat % 128+128*n) / 128=n by omega,h2]
         simp;omega
theorem oq {l r:List Int} {v:Nat} (hb:Byt l) (h:il l=some (v,r)):l=aO v++r:=by
 obtain ⟨n,h1,h2,_⟩:=mA l 0 0 v r hb h;rw [h2,h1];simp
theorem cm (most:Nat):Can (cz most) (fun x=>aO x.toNat):=by
 intro l x r hb h;unfold cz at h;split at h
 · cases h
 · rename_i n r' hv
   split at h
   · simp only [xb,xq] at h
     obtain ⟨rfl,rfl⟩:=h;exact ⟨by simpa using oq hb hv,(mb hb hv).1⟩
   · cases h
theorem vF (k:Nat) (h:k<9223372036854775808):zzN (k:Int)=2*k:=by
 unfold zzN;rw [IntKind.wrap_u64,IntKind.wrap_u64,IntKind.wrap_u64];have e1:((k:Int) % 18446744073709551616*2 % 18446744073709551616).toNat=2*k:=by omega
 have e2:((k:Int) / 9223372036854775808 % 18446744073709551616).toNat=0:=by omega
 rw [e1,e2,Nat.xor_zero]
theorem zz_odd (k:Nat) (h:k<9223372036854775808):zzN (-(k:Int) - 1)=2*k+1:=by
 unfold zzN;rw [IntKind.wrap_u64,IntKind.wrap_u64,IntKind.wrap_u64];have e1:((-(k:Int) - 1) % 18446744073709551616*2 % 18446744073709551616).toNat=18446744073709551615 - (2*k+1):=by omega
 have e2:((-(k:Int) - 1) / 9223372036854775808 % 18446744073709551616).toNat=18446744073709551615:=by omega
 rw [e1,e2];have h64:2*k+1<2 ^ 64:=by omega
 have:=Nat.xor_comm (18446744073709551615 - (2*k+1)) 18446744073709551615;apply Nat.eq_of_testBit_eq
 intro i;rw [Nat.testBit_xor];by_cases hi:i<64
 · rw [show 18446744073709551615 - (2*k+1)=2 ^ 64 - ((2*k+1)+1) by omega,Nat.testBit_two_pow_sub_succ h64,show 18446744073709551615=2 ^ 64 - 1 by rfl,Nat.testBit_two_pow_sub_one]
   simp [hi]
 · have p:2 ^ 64≤2 ^ i:=Nat.pow_le_pow_right (by omega) (by omega)
   rw [Nat.testBit_lt_two_pow (show 18446744073709551615 - (2*k+1)<2 ^ i by omega),Nat.testBit_lt_two_pow (show 18446744073709551615<2 ^ i by omega),Nat.testBit_lt_two_pow (show 2*k+1<2 ^ i by omega)];rfl
theorem vG {n:Nat} (h:n<18446744073709551616):zzN (iu n)=n:=by
 unfold iu;split
 · rw [vF _ (by omega)];omega
 · rw [zz_odd _ (by omega)];omega
theorem gq:Can eT cY:=by
 intro l x r hb h;unfold eT at h;rw [xO] at h;obtain ⟨⟨n,r'⟩,hv,he⟩:=h;simp only [xq] at he;obtain ⟨rfl,rfl⟩:=he;refine ⟨?_,(mb hb hv).1⟩;unfold cY;rw [vG (rJ hb hv)];exact oq hb hv
theorem ot {a b:Int} (a1:0≤a) (a2:a≤255) (b1:0≤b) (b2:b≤255):IntKind.u16.wrap (cJ a b) / 256 % 256=a∧IntKind.u16.wrap (cJ a b) % 256=b:=by
 rw [IntKind.wrap_u16];unfold cJ;split <;> omega
theorem iA:Can dg (fun p=>aU p.1 p.2):=by
 intro l x r hb h
 match l,h with
 | a::b::c::d::r',h=>
   simp only [dg,xb,xq] at h;obtain ⟨rfl,rfl⟩:=h;have ha:=hb a (by simp);have hb':=hb b (by simp);have hc:=hb c (by simp);have hd:=hb d (by simp);obtain ⟨e1,e2⟩:=ot ha.1 ha.2 hb'.1 hb'.2;obtain ⟨e3,e4⟩:=ot hc.1 hc.2 hd.1 hd.2;refine ⟨by simp only [aU];rw [e1,e2,e3,e4];rfl,hb.tail.tail.tail.tail⟩
theorem gQ:Can ff (fun b=>[b]):=by
 intro l x r hb h
 match l,h with
 | b::r',h=>
   simp only [ff,xb,xq] at h;obtain ⟨rfl,rfl⟩:=h;exact ⟨rfl,hb.tail⟩
theorem mB (k:Nat):Can (bK k) (fun d=>d):=by
 intro l x r hb h;unfold bK at h;split at h
 · cases h
 · simp only [xb,xq] at h
   obtain ⟨rfl,rfl⟩:=h;exact ⟨(List.take_append_drop k l).symm,hb.drop k⟩
theorem mC {k:Nat} {l d r:List Int} (h:bK k l=some (d,r)):d.length=k:=by
 unfold bK at h;split at h
 · cases h
 · simp only [xb,xq] at h
   rw [←h.1,wV];omega
theorem cU {α β γ:Type} {f:α→β→γ} {p:aW α} {q:aW β} {fa:α→List Int} {fb:β→List Int} {fc:γ→List Int} (hp:Can p fa) (hq:Can q fb) (hc:∀ a b,fc (f a b)=fa a++fb b):Can (ft f p q) fc:=by
 intro l x r hb h;unfold ft at h;cases h1:p l with
 | none=>simp [h1] at h
 | some y=>
   obtain ⟨a,r1⟩:=y;obtain ⟨e1,b1⟩:=hp l a r1 hb h1;cases h2:q r1 with
   | none=>simp [h1,h2] at h
   | some z=>
     obtain ⟨b,r2⟩:=z;obtain ⟨e2,b2⟩:=hq r1 b r2 b1 h2;simp only [h1,h2,wQ,xw,xb,xq] at h;obtain ⟨rfl,rfl⟩:=h;exact ⟨by rw [hc,wP,←e2,←e1],b2⟩
theorem gr {α:Type} {p:aW α} {f:α→List Int} (hp:Can p f):∀ (k:Nat) (l:List Int) (xs:List α) (r:List Int),Byt l→dm p k l=some (xs,r)→l=xs.flatMap f++r∧Byt r∧xs.length=k
 | 0,l,xs,r,hb,h=>by
   simp only [dm,xb,xq] at h;obtain ⟨rfl,rfl⟩:=h;exact ⟨rfl,hb,rfl⟩
 | k+1,l,xs,r,hb,h=>by
   unfold dm at h;cases h1:dm p k l with
   | none=>simp [h1] at h
   | some y=>
     obtain ⟨a,r1⟩:=y;obtain ⟨e1,b1,n1⟩:=gr hp k l a r1 hb h1;cases h2:p r1 with
     | none=>simp [h1,h2] at h
     | some z=>
       obtain ⟨b,r2⟩:=z;obtain ⟨e2,b2⟩:=hp r1 b r2 b1 h2;simp only [h1,h2,wQ,xw,xb,xq] at h;obtain ⟨rfl,rfl⟩:=h;exact ⟨by rw [List.flatMap_append,wP,e1,e2];simp,b2,by simp [n1]⟩
theorem gR {α:Type} {p:aW α} {f:α→List Int} (hp:Can p f) (most:Nat):Can (dJ most p) (bj f):=by
 intro l xs r hb h;unfold dJ at h;cases h1:cz most l with
 | none=>simp [h1] at h
 | some y=>
   obtain ⟨n,r1⟩:=y;obtain ⟨e1,b1⟩:=cm most l n r1 hb h1;simp only [h1,wQ] at h;obtain ⟨e2,b2,n2⟩:=gr hp _ _ _ _ b1 h;unfold bj;exact ⟨by rw [n2,wP,←e2];exact e1,b2⟩
theorem iW {α β:Type} {g:α→β} {p:aW α} {f:α→List Int} {h:β→List Int} (hp:Can p f) (he:∀ l x r,Byt l→p l=some (x,r)→h (g x)=f x):Can (dT g p) h:=by
 intro l y r hb hy;unfold dT at hy;cases h1:p l with
 | none=>simp [h1] at hy
 | some z=>
   obtain ⟨x,r1⟩:=z;obtain ⟨e1,b1⟩:=hp l x r1 hb h1;simp only [h1,xw,xb,xq] at hy;obtain ⟨rfl,rfl⟩:=hy;exact ⟨by rw [he l x r1 hb h1];exact e1,b1⟩
theorem lh {d:List Int} (h:d.length=8):[d.getD 0 0,d.getD 1 0,d.getD 2 0,d.getD 3 0,d.getD 4 0,d.getD 5 0,d.getD 6 0,d.getD 7 0]=d:=by
 match d,h with
 | [a,b,c,d,e,f,g,i],_=>rfl
theorem tK:Can fU dE:=
 iW (cU (fc:=fun y=>aO y.1.1.toNat++aO y.1.2.toNat++aO y.2.toNat) (cU (fc:=fun y=>aO y.1.toNat++aO y.2.toNat) (cm _) (cm _) (fun _ _=>rfl)) (cm _) (fun _ _=>rfl)) (fun _ _ _ _ _=>rfl)
theorem tL:Can rdPair dK:=
 iW (cU (fc:=fun y=>aO y.1.toNat++aO y.2.toNat) (cm _) (cm _) (fun _ _=>rfl)) (fun _ _ _ _ _=>rfl)
theorem fz {α β γ:Type} {f:α→β→γ} {p:aW α} {q:aW β} {l r:List Int} {x:γ} (h:ft f p q l=some (x,r)):∃ a r1 b,p l=some (a,r1)∧q r1=some (b,r)∧x=f a b:=by
 unfold ft at h;cases h1:p l with
 | none=>simp [h1] at h
 | some y=>
   obtain ⟨a,r1⟩:=y;cases h2:q r1 with
   | none=>simp [h1,h2] at h
   | some z=>
     obtain ⟨b,r2⟩:=z;simp only [h1,h2,wQ,xw,xb,xq] at h;exact ⟨a,r1,b,rfl,by rw [h2,h.2],h.1.symm⟩
theorem tM:Can fS idleB:=by
 refine iW (cU (fc:=fun y=>(y.1.1.1.1.1++aU y.1.1.1.1.2.1 y.1.1.1.1.2.2++[y.1.1.1.2]++[y.1.1.2]++cY y.1.2)++aO y.2.toNat)
  (cU (fc:=fun y=>(y.1.1.1.1++aU y.1.1.1.2.1 y.1.1.1.2.2++[y.1.1.2]++[y.1.2])++cY y.2) (cU (fc:=fun y=>(y.1.1.1++aU y.1.1.2.1 y.1.1.2.2++[y.1.2])++[y.2])
    (cU (fc:=fun y=>(y.1.1++aU y.1.2.1 y.1.2.2)++[y.2]) (cU (fc:=fun y=>y.1++aU y.2.1 y.2.2) (mB 8) iA (fun _ _=>rfl)) gQ (fun _ _=>rfl)) gQ (fun _ _=>rfl)) gq (fun _ _=>rfl)) (cm _) (fun _ _=>rfl)) ?_
 intro l x r hb h;obtain ⟨a1,r1,b1,h1,_,rfl⟩:=fz h;obtain ⟨a2,r2,b2,h2,_,rfl⟩:=fz h1;obtain ⟨a3,r3,b3,h3,_,rfl⟩:=fz h2;obtain ⟨a4,r4,b4,h4,_,rfl⟩:=fz h3;obtain ⟨a5,r5,b5,h5,_,rfl⟩:=fz h4;have:=lh (mC h5)
 show [a5.getD 0 0,a5.getD 1 0,a5.getD 2 0,a5.getD 3 0,a5.getD 4 0,a5.getD 5 0,a5.getD 6 0,a5.getD 7 0]++aU b5.1 b5.2++[b4]++[b3]++cY b2++aO b1.toNat=_
 rw [this]
def gu (x:aB) (k:Nat):List Int:=((bW x).take k).flatten
theorem tN (k:Nat) (hk:k≤7):∀ l x r,Byt l→e8 ik k l=some (x,r)→l=gu x k++r∧Byt r:=by
 induction k with
 | zero=>
   intro l x r hb h;simp only [e8,xb,xq] at h;obtain ⟨rfl,rfl⟩:=h;exact ⟨rfl,hb⟩
 | succ k ih=>
   intro l x r hb h;unfold e8 at h;cases h1:e8 ik k l with
   | none=>simp [h1] at h
   | some y=>
     obtain ⟨x1,r1⟩:=y;obtain ⟨e1,b1⟩:=ih (by omega) l x1 r1 hb h1;simp only [h1,wQ] at h;have key:∀ (g:List Int),gu x (k+1)=gu x1 k++g→r1=g++r→l=gu x (k+1)++r:=fun g h1 h2=>by rw [h1,wP,←h2];exact e1
     have hk7:k=0∨k=1∨k=2∨k=3∨k=4∨k=5∨k=6:=by omega
     rcases hk7 with rfl | rfl | rfl | rfl | rfl | rfl | rfl
     · simp only [ek,dT,xO,xq] at h
       obtain ⟨⟨d,r2⟩,h2,rfl,rfl⟩:=h;obtain ⟨e2,b2⟩:=mB 8 _ _ _ b1 h2;exact ⟨key d (by have:=lh (mC h2);simp only [gu,bW,List.take,List.flatten];simpa using this) e2,b2⟩
     · simp only [ek,dT,xO,xq] at h
       obtain ⟨⟨d,r2⟩,h2,rfl,rfl⟩:=h;obtain ⟨e2,b2⟩:=iA _ _ _ b1 h2;exact ⟨key _ (by simp [gu,bW]) e2,b2⟩
     · simp only [ek,dT,xO,xq] at h
       obtain ⟨⟨d,r2⟩,h2,rfl,rfl⟩:=h;obtain ⟨e2,b2⟩:=iA _ _ _ b1 h2;exact ⟨key _ (by simp [gu,bW]) e2,b2⟩
     · simp only [ek,dT,xO,xq] at h
       obtain ⟨⟨d,r2⟩,h2,rfl,rfl⟩:=h;obtain ⟨e2,b2⟩:=gQ _ _ _ b1 h2;exact ⟨key _ (by simp [gu,bW]) e2,b2⟩
     · simp only [ek,dT,xO,xq] at h
       obtain ⟨⟨d,r2⟩,h2,rfl,rfl⟩:=h;obtain ⟨e2,b2⟩:=gQ _ _ _ b1 h2;exact ⟨key _ (by simp [gu,bW]) e2,b2⟩
     · simp only [ek,dT,xO,xq] at h
       obtain ⟨⟨d,r2⟩,h2,rfl,rfl⟩:=h;obtain ⟨e2,b2⟩:=gq _ _ _ b1 h2;exact ⟨key _ (by simp [gu,bW]) e2,b2⟩
     · simp only [ek,dT,xO,xq] at h
       obtain ⟨⟨d,r2⟩,h2,rfl,rfl⟩:=h;obtain ⟨e2,b2⟩:=gq _ _ _ b1 h2;exact ⟨key _ (by simp [gu,bW]) e2,b2⟩
theorem tO:Can fR cK:=
 iW (cU (fc:=fun y=>((bW y.1.1).flatten++aO y.1.2.toNat)++aO y.2.toNat) (cU (fc:=fun y=>(bW y.1).flatten++aO y.2.toNat) (fun l x r hb h=>tN 7 (wC _) l x r hb h) (cm _) (fun _ _=>rfl)) (cm _) (fun _ _=>rfl)) (fun _ _ _ _ _=>rfl)
theorem tP {l:List Int} {x:aw} {r:List Int} (hb:Byt l) (h:pt l=some (x,r)):l=bu x++r:=by
 unfold pt gj uP at h;cases h1:cz em l with
 | none=>simp [h1] at h
 | some y1=>
   obtain ⟨t,r1⟩:=y1;obtain ⟨e1,b1⟩:=cm _ _ _ _ hb h1;simp only [h1,wQ] at h;cases h2:dJ 64 fR r1 with
   | none=>simp [h2] at h
   | some y2=>
     obtain ⟨ws,r2⟩:=y2;obtain ⟨e2,b2⟩:=gR tO _ _ _ _ b1 h2;simp only [h2,wQ] at h;cases h3:dJ 64 fS r2 with
     | none=>simp [h3] at h
     | some y3=>
       obtain ⟨ds,r3⟩:=y3;obtain ⟨e3,b3⟩:=gR tM _ _ _ _ b2 h3;simp only [h3,wQ] at h;cases h4:dJ 4096 fU r3 with
       | none=>simp [h4] at h
       | some y4=>
         obtain ⟨es,r4⟩:=y4;obtain ⟨e4,b4⟩:=gR tK _ _ _ _ b3 h4;simp only [h4,wQ] at h;cases h5:dJ 64 rdPair r4 with
         | none=>simp [h5] at h
         | some y5=>
           obtain ⟨ps,r5⟩:=y5;obtain ⟨e5,b5⟩:=gR tL _ _ _ _ b4 h5;simp only [h5,wQ] at h;cases h6:dm eT ws.length r5 with
           | none=>simp [h6] at h
           | some y6=>
             obtain ⟨ys,r6⟩:=y6;obtain ⟨e6,b6,_⟩:=gr gq _ _ _ _ b5 h6;simp only [h6,wQ] at h;cases h7:dm eT ds.length r6 with
             | none=>simp [h7] at h
             | some y7=>
               obtain ⟨zs,r7⟩:=y7;obtain ⟨e7,b7,_⟩:=gr gq _ _ _ _ b6 h7;simp only [h7,wQ,xb,xq] at h;obtain ⟨rfl,rfl⟩:=h;unfold bu;simp only [wP];rw [←e7,←e6,←e5,←e4,←e3,←e2,←e1]
theorem tQ {l:List Int} {x:aw} (hb:Byt l) (h:gk l=some x):bu x=l∧bh x=0:=by
 unfold gk at h;split at h
 · rename_i y hy
   split at h
   · rename_i he
     cases h
     have:=tP hb hy;rw [List.append_nil] at this;exact ⟨this.symm,he⟩
   · cases h
 · cases h
def bJ (c:ag):List Int:=aO c.q.toNat++aO c.d.toNat++aO c.w.toNat++aO c.ttl.toNat++aO c.b.toNat
theorem sr {l:List Int} {c:ag} (hb:Byt l) (h:je l=some (c,[])):bJ c=l:=by
 unfold je dT at h;cases h1:dm (cz em) 5 l with
 | none=>simp [h1] at h
 | some y=>
   obtain ⟨xs,r⟩:=y;obtain ⟨e1,b1,n1⟩:=gr (cm em) _ _ _ _ hb h1;simp only [h1,xw,xb,xq] at h;obtain ⟨rfl,rfl⟩:=h
   match xs,n1 with
   | [a,b,c,d,e],_=>
     rw [e1];simp [bJ]
end Go.Proofs.YtcaicgipibcicaaGreat
namespace Go.Proofs.YtcaicgipibcicaaGreat
open Go.RowKit Go.Sort
def ep (c:ag):List Int:=[c.q,c.d,c.w,c.ttl,c.b]
def li (n:Int):List Int:=aO n.toNat
theorem ou (c:ag):bJ c=(ep c).flatMap li:=by simp [bJ,ep,li]
theorem ov {n:Int} (h:ar n):(li n).length≤10:=dD (by unfold ar at h;omega)
theorem ss (wS w:World) (GB WB:Nat) (sv:Value) (l:List Int) (h:Gt wS GB WB sv l w) (P:Nat) (c:ag) (hP:w.heap[P]?=some (.cells #[.int .i64 c.q,.int .i64 c.d,.int .i64 c.w,.int .i64 c.ttl,.int .i64 c.b] 23 (0,0))) (hfr:Free sv WB P) (hok:∀ x ∈ ep c,ar x∧0≤x) (hl:l.length≤1000) :
 Calls Tryz.prog 77 #[.pointer (some ⟨GB,0,none⟩),.pointer (some ⟨P,0,none⟩)] w fun e w'=>e = .returned (.tuple #[])∧am wS GB WB sv (l++bJ c) w w':=by
 have H:=wB h;have HO:=wB hP;have HFR:=wB hfr;have HPL:=wB (lt_of_block hP);have HOK:=wB hok;clear h hP hok hfr;go_enter Tryz.func77,Tryz.ntmps77
 go_wp2_with fail
 go_region
 go_wp2_with fail
 have HK0:=wB (show Keep (fun _=>False) w (w.alloc (.cells #[.pointer (some ⟨P,0,none⟩),.pointer (some ⟨P,1,none⟩),.pointer (some ⟨P,2,none⟩),.pointer (some ⟨P,3,none⟩),.pointer (some ⟨P,4,none⟩)] 194)).drew from (Keep.alloc (fun _=>False) w _).trans (Keep.drew (fun _=>False) _) (fun _ _ h=>h) (fun _ _ h=>h));have HBB:=wB (show (w.alloc (.cells #[.pointer (some ⟨P,0,none⟩),.pointer (some ⟨P,1,none⟩),.pointer (some ⟨P,2,none⟩),.pointer (some ⟨P,3,none⟩),.pointer (some ⟨P,4,none⟩)] 194)).drew.heap[w.heap.size]?=some (.cells #[.pointer (some ⟨P,0,none⟩),.pointer (some ⟨P,1,none⟩),.pointer (some ⟨P,2,none⟩),.pointer (some ⟨P,3,none⟩),.pointer (some ⟨P,4,none⟩)] 194 (0,0)) from heap_alloc_new w _);generalize (w.alloc (.cells #[.pointer (some ⟨P,0,none⟩),.pointer (some ⟨P,1,none⟩),.pointer (some ⟨P,2,none⟩),.pointer (some ⟨P,3,none⟩),.pointer (some ⟨P,4,none⟩)] 194)).drew=W at *;have HFB:=wB (Free.new H.out (wC w.heap.size));have HW0:=wB (show am wS GB WB sv (l++((ep c).take 0).flatMap li) W W from by simpa using am.nil (H.out.keep HK0.out));have HO1:=wB (HK0.out.old HO.out id);obtain ⟨BL,hBL⟩:∃ BL,w.heap.size=BL:=⟨_,rfl⟩;rw [hBL] at HBB HFB;rw [hBL];clear hBL;have HBLT:=wB (lt_of_block HBB.out);go_loopw [23] (fun i wr=>Hid (∃ k:Nat,i = .int .i64 k∧k≤5∧am wS GB WB sv (l++((ep c).take k).flatMap li) W wr∧wr.heap[BL]?=some (.cells #[.pointer (some ⟨P,0,none⟩),.pointer (some ⟨P,1,none⟩),.pointer (some ⟨P,2,none⟩),.pointer (some ⟨P,3,none⟩),.pointer (some ⟨P,4,none⟩)] 194 (0,0)))) (fun i _=>5 - (intOf i).toNat)
 case atStart=>exact wB ⟨0,rfl,xd _,HW0.out,HBB.out⟩
 case round=>
  clear HW0 HBB;obtain ⟨k,rfl,hk,hw,hbl⟩:=hrel.out;clear hrel;have HW:=wB hw;have HBL:=wB hbl;obtain ⟨sv1,hg,hkp,hn1⟩:=hw;have HG:=wB hg;have HKP:=wB hkp;have HN:=wB hn1;clear hg hkp hn1 hbl;have hp5:=HKP.out.old HO1.out HFR.out.not;by_cases hlt:k<5
  · have b1:decide ((k:Int)<5)=true:=decide_eq_true (by omega)
    have lc:wr.cell? ⟨BL,k,none⟩=some (.pointer (some ⟨P,k,none⟩)):=by
     rw [cell_of_row _ _ _ _ _ (0,0) HBL.out];obtain rfl | rfl | rfl | rfl | rfl:k=0∨k=1∨k=2∨k=3∨k=4:=by omega
     all_goals rfl
    obtain ⟨x,hx⟩:∃ x,(ep c)[k]?=some x:=⟨(ep c)[k]'hlt,wE _⟩
    have HCE:=wB (show wr.cell? ⟨P,k,none⟩=some (.int .i64 x) from by
     rw [cell_of_row _ _ _ _ _ (0,0) hp5];obtain rfl | rfl | rfl | rfl | rfl:k=0∨k=1∨k=2∨k=3∨k=4:=by omega
     all_goals (cases hx;rfl))
    have HXO:=wB (HOK.out x (wM hx));have HT:=wB (fM li hx);have HFL:=wB (show Free sv1 WB BL from HFB.out.next HBLT.out HN.out)
    have hlen:(((ep c).take k).flatMap li).length≤50:=by
     have h1:=c8 (f:=li) (m:=10) (L:=(ep c).take k) (fun y hy=>ov (HOK.out y (List.mem_of_mem_take hy)).1);rw [wV] at h1;omega
    clear hx hp5;go_wp2_with fail
    refine (ci wS wr GB WB sv1 (l++((ep c).take k).flatMap li) HG.out P k x 9223372036854775807 HCE.out HXO.out.2 HXO.out.1 (by rw [wH];omega)).mono ?_;rintro r w2 ⟨rfl,hb2⟩;have HE:=wB (show am wS GB WB sv (l++((ep c).take (k+1)).flatMap li) W w2 from by rw [HT.out,←wP];exact am.step HKP.out HN.out hb2);have HB2:=wB (show w2.heap[BL]?=_ from by obtain ⟨_,_,hk2,_⟩:=hb2;exact hk2.old HBL.out HFL.out.not);clear hb2 lc;go_wp2_with fail
    go_roundw
    case rel=>exact wB ⟨k+1,by go_num,by omega,HE.out,HB2.out⟩
    case measure=>simp [intOf];omega
  · obtain rfl:k=5:=by omega
    have HE:=wB (show am wS GB WB sv (l++bJ c) w wr from am.after HK0.out (by rw [ou];exact HW.out));go_wp2_with fail
    exact bodyPost_end (v:=.tuple #[]) (by simp [results,Tryz.results77,go_sem]) rfl ⟨rfl,HE.out⟩
end Go.Proofs.YtcaicgipibcicaaGreat
namespace Go.Proofs.YtcaicgipibcicaaGreat
open Go.RowKit
def fg (a c:List Int):List Int:=be4 (dA (a++c))
def wrF:List Int→List aw→List Int
 | _,[]=>[]
 | a,x::xs=>aC a (bu x)++wrF (fg a (bu x)) xs
def gv:List Int→List aw→List Int
 | a,[]=>a
 | a,x::xs=>gv (fg a (bu x)) xs
theorem ow:∀ (xs:List aw) (a:List Int) (x:aw),wrF a (xs++[x])=wrF a xs++aC (gv a xs) (bu x)
 | [],a,x=>by simp [wrF,gv]
 | y::xs,a,x=>by simp only [xR,wrF,gv,ow xs,wP]
theorem jW:∀ (xs:List aw) (a:List Int) (x:aw),gv a (xs++[x])=fg (gv a xs) (bu x)
 | [],a,x=>rfl
 | y::xs,a,x=>by simp only [xR,gv,jW xs]
theorem bi (a c:List Int):(aC a c).length=c.length+12:=by
 simp only [aC,wH,dB];omega
theorem tR:∀ (a:List Int) (xs:List aw),xs.length≤(wrF a xs).length
 | _,[]=>wC _
 | a,x::xs=>by
   have:=tR (fg a (bu x)) xs;simp only [wrF,wH,bi,List.length_cons];omega
theorem jX {a c:List Int} (rest:List Int) (hc:c.length<4294967296):aR a (aC a c++rest)=some (c,dA (a++c)):=by
 have hs:=fd (a++c);have hlen:(aC a c++rest).length=c.length+12+rest.length:=by rw [wH,bi]
 have hd:∀ (A B C:List Int) (p q:Nat),A.length=p→B.length=q→((A++(B++C)).drop p).take q=B:=fun A B C p q h1 h2=>by
  rw [←h1,List.drop_left,←h2,List.take_left]
 have e0:(aC a c++rest).take 4=be4 c.length:=by
  have:=hd [] (be4 c.length) (be4 (4294967295 - c.length)++(c++(be4 (dA (a++c))++rest))) 0 4 rfl rfl
  simpa [aC,wP] using this
 have e1:((aC a c++rest).drop 4).take 4=be4 (4294967295 - c.length):=by
  have:=hd (be4 c.length) (be4 (4294967295 - c.length)) (c++(be4 (dA (a++c))++rest)) 4 4 rfl rfl
  simpa [aC,wP] using this
 have e2:((aC a c++rest).drop 8).take c.length=c:=by
  have:=hd (be4 c.length++be4 (4294967295 - c.length)) c (be4 (dA (a++c))++rest) 8 c.length rfl rfl
  simpa [aC,wP] using this
 have e3:((aC a c++rest).drop (8+c.length)).take 4=be4 (dA (a++c)):=by
  have:=hd (be4 c.length++be4 (4294967295 - c.length)++c) (be4 (dA (a++c))) rest (8+c.length) 4 (by simp only [wH,dB]) rfl
  simpa [aC,wP] using this
 have en:(beI (be4 c.length)).toNat=c.length:=by rw [jh hc];omega
 unfold aR;rw [e0,e1,en,e2,e3,jh hc,jh (by omega),jh hs,hlen,if_neg (by omega),if_neg (by omega),if_pos rfl]
theorem kH (a:List Int):aR a []=none:=by
 unfold aR;rw [if_pos (by simp)]
theorem ox:∀ (k:Nat) (a l:List Int) (st:RSt),st.pos≤(bn k a l st).pos
 | 0,_,_,st=>wC _
 | k+1,a,l,st=>by
   cases h1:aR a l with
   | none=>rw [bs (.inl h1)];exact wC _
   | some z=>
     obtain ⟨c,s⟩:=z;cases h2:aH st c with
     | none=>rw [bs (.inr ⟨c,s,h1,h2⟩)];exact wC _
     | some st'=>
       rw [cH h1 h2];have:=ox k (be4 s) (l.drop (c.length+12)) st';have hp:=dx h2;omega
theorem Byt.app {a b:List Int} (h1:Byt a) (h2:Byt b):Byt (a++b):=fun x hx=>(List.mem_append.1 hx).elim (h1 x) (h2 x)
theorem lk (a:List Int) {c:List Int} (hc:Byt c) (hl:c.length<4294967296):Byt (aC a c):=(((jg _ hl).app (jg _ (by omega))).app hc).app (jg _ (fd _))
theorem rv:∀ (k m k':Nat) (a l r:List Int) (st:RSt) (rs:List aw),Byt l→l.length<4294967296→st.pos≠0→(bn k a l st).recs=st.recs++rs→m≤rs.length→m<k'→r=wrF a (rs.take m)→
 (∃ t,bn k' a r st=⟨st.pos+r.length,st.c,st.recs++rs.take m,t⟩)∧st.pos+r.length≤(bn k a l st).pos∧Byt r
 | k,0,k' + 1,a,l,r,st,rs,hb,hl,hp,hr,hm,hk,hw=>by
   subst hw;have:=dM k a l st hb (fun e=>absurd e hp);refine ⟨⟨st.tick,?_⟩,?_,?_⟩
   · rw [xF,wrF,bs (.inl (kH a))]
     simp
   · have h2:=this.1
     rw [xF,wrF];exact ox k a l st
   · rw [xF,wrF]
     intro x hx;cases hx
 | 0,m+1,k' + 1,a,l,r,st,rs,hb,hl,hp,hr,hm,hk,hw=>by
   simp only [bn] at hr;have:=congrArg List.length hr;rw [wH] at this;omega
 | k+1,m+1,k' + 1,a,l,r,st,rs,hb,hl,hp,hr,hm,hk,hw=>by
   cases h1:aR a l with
   | none=>
     rw [bs (.inl h1)] at hr;have:=congrArg List.length hr;rw [wH] at this;omega
   | some z=>
     obtain ⟨c,s⟩:=z;cases h2:aH st c with
     | none=>
       rw [bs (.inr ⟨c,s,h1,h2⟩)] at hr;have:=congrArg List.length hr;rw [wH] at this;omega
     | some st'=>
       have sp:=bI hb h1;have hbc:Byt c:=by rw [sp.2.1];exact (hb.drop 8).take _
       have hst:=h2;unfold aH at hst;rw [if_neg hp] at hst;cases hd:gk c with
       | none=>rw [hd] at hst;cases hst
       | some x=>
         rw [hd] at hst;simp only at hst;split at hst
         · cases hst
           obtain ⟨hcan,_⟩:=tQ hbc hd;rw [cH h1 h2] at hr ⊢;have ext:=dM k (be4 s) (l.drop (c.length+12)) ⟨st.pos+(c.length+12),st.c,st.recs++[x],x.tick⟩ (hb.drop _) (fun e=>by have:st.pos+(c.length+12)=0:=e;omega);obtain ⟨rs',hrs'⟩:=ext.2.1;rw [hrs',wP,List.append_cancel_left_eq] at hr;subst hr;have hs:fg a (bu x)=be4 s:=by unfold fg;rw [hcan,sp.2.2.2.1]
           simp only [xR,List.nil_append,List.take_succ_cons,wrF] at hw;rw [hs,hcan] at hw;obtain ⟨⟨t,ht⟩,hle,hbr⟩:=rv k m k' (be4 s) (l.drop (c.length+12)) (wrF (be4 s) (rs'.take m)) ⟨st.pos+(c.length+12),st.c,st.recs++[x],x.tick⟩ rs' (hb.drop _) (by rw [xt];omega) (by show st.pos+(c.length+12)≠0;omega) hrs' (by simpa using hm) (by omega) rfl;have hn:aR a r=some (c,s):=by rw [hw,jX _ (by omega),sp.2.2.2.1]
           have hrl:r.length=c.length+12+(wrF (be4 s) (rs'.take m)).length:=by rw [hw,wH,bi]
           refine ⟨⟨t,?_⟩,?_,?_⟩
           · rw [cH hn h2]
             have hdr:r.drop (c.length+12)=wrF (be4 s) (rs'.take m):=by rw [hw,←bi a c,List.drop_left]
             rw [hdr,ht,hrl];simp only [xR,List.nil_append,List.take_succ_cons,wP,RSt.mk.injEq,and_true,true_and];omega
           · have e:st.pos+(c.length+12)+(wrF (be4 s) (rs'.take m)).length≤(bn k (be4 s) (l.drop (c.length+12)) ⟨st.pos+(c.length+12),st.c,st.recs++[x],x.tick⟩).pos:=hle
             rw [hrl];omega
           · rw [hw]
             intro y hy;rcases List.mem_append.1 hy with h | h
             · exact lk a hbc (by omega) y h
             · exact hbr y h
         · cases hst
def iB (xs:List aw):Int:=match xs.getLast? with | none=>0 | some x=>x.tick
def qg (xs:List aw):Prop:=∀ i x,xs[i]?=some x→iB (xs.take i)<x.tick∧bh x=0
theorem nj (l:List Int):qg (az l).recs:=by
 refine (jv (P:=fun st=>st.tick=iB st.recs∧qg st.recs) ?_ _ _ _ _ ⟨rfl,fun i x h=>by simp [cx] at h⟩).2;rintro st st' c ⟨h1,h2⟩ h;unfold aH at h;split at h
 · split at h
   · split at h
     · cases h
       exact ⟨rfl,fun i x h=>by simp at h⟩
     · cases h
   · cases h
 · split at h
   · rename_i x hd
     split at h
     · rename_i ht
       cases h
       have he:bh x=0:=by
        unfold gk at hd;split at hd
        · split at hd
          · rename_i he
            cases hd
            exact he
          · cases hd
        · cases hd
       refine ⟨by simp [iB],fun i y hy=>?_⟩;by_cases hi:i<st.recs.length
       · rw [List.getElem?_append_left hi] at hy
         rw [List.take_append_of_le_length (by omega)];exact h2 i y hy
       · have hi2:i=st.recs.length:=by
          have:=(wD.1 hy).1;rw [wH] at this;simp at this;omega
         subst hi2;rw [List.getElem?_append_right (wC _),Nat.sub_self] at hy;simp at hy;subst hy;rw [List.take_append_of_le_length (wC _),List.take_length,←h1];exact ⟨ht,he⟩
     · cases h
   · cases h
def co (c:ag) (xs:List aw):List Int:=aC (be4 0) (bJ c)++wrF (fg (be4 0) (bJ c)) xs
def qh (c:ag) (xs:List aw):List Int:=gv (fg (be4 0) (bJ c)) xs
theorem mD (c:ag) (xs:List aw) (x:aw):co c (xs++[x])=co c xs++aC (qh c xs) (bu x):=by
 unfold co qh;rw [ow,wP]
theorem su (c:ag) (xs:List aw) (x:aw):qh c (xs++[x])=fg (qh c xs) (bu x):=by
 unfold qh;rw [jW]
theorem qi {l:List Int} (hb:Byt l) (hl:l.length≤1048576) (h:(bR l).2=0) :
 (az l).pos≠0∧aA (az l).c=0∧∀ n,n≤(az l).recs.length→Byt (co (az l).c ((az l).recs.take n))∧(co (az l).c ((az l).recs.take n)).length≤l.length∧bR (co (az l).c ((az l).recs.take n))=(n,0):=by
 have hp:(az l).pos≠0:=fun e=>by
  unfold bR at h;rw [if_pos e] at h;cases h
 have hk:=h;unfold bR at hk;rw [if_neg hp] at hk;have hk0:=jx _ _ _ _ hk;rw [hk0] at hk;have hle:=(dM (l.length+1) (be4 0) l cx hb (fun _=>rfl)).2.2;have hcf:=(jw l).1 hp;refine ⟨hp,hcf,fun n hn=>?_⟩;have hv:=lg ((az l).recs.take n) ((az l).recs.drop n) ⟨(az l).c,0,[]⟩ 0 0 (by rw [List.take_append_drop];exact hk);rw [wV,Nat.min_eq_left hn,Nat.zero_add] at hv;have hF:az l=bn (l.length+1) (be4 0) l cx:=rfl;rw [←hF] at hle;cases h1:aR (be4 0) l with
 | none=>rw [hF,bs (.inl h1)] at hp;exact absurd rfl hp
 | some z=>
   obtain ⟨c,s⟩:=z;cases h2:aH cx c with
   | none=>rw [hF,bs (.inr ⟨c,s,h1,h2⟩)] at hp;exact absurd rfl hp
   | some st'=>
     have sp:=bI hb h1;have hbc:Byt c:=by rw [sp.2.1];exact (hb.drop 8).take _
     have hst:=h2;unfold aH at hst;rw [if_pos (show cx.pos=0 from rfl)] at hst;split at hst
     · rename_i cf hcp
       split at hst
       · cases hst
         have hcan:=sr hbc hcp;have hF2:az l=bn l.length (be4 s) (l.drop (c.length+12)) ⟨c.length+12,cf,[],0⟩:=by rw [hF,cH h1 h2]
         have ext:=dM l.length (be4 s) (l.drop (c.length+12)) ⟨c.length+12,cf,[],0⟩ (hb.drop _) (fun e=>by have:c.length+12=0:=e;omega);rw [←hF2] at ext;have hc:(az l).c=cf:=ext.1 (show c.length+12≠0 by omega);have hs:fg (be4 0) (bJ cf)=be4 s:=by unfold fg;rw [hcan,sp.2.2.2.1]
         rw [hc] at hv ⊢;have hw:co cf ((az l).recs.take n)=aC (be4 0) c++wrF (be4 s) ((az l).recs.take n):=by unfold co;rw [hs,hcan]
         obtain ⟨⟨t,ht⟩,hle2,hbr⟩:=rv l.length n (co cf ((az l).recs.take n)).length (be4 s) (l.drop (c.length+12)) (wrF (be4 s) ((az l).recs.take n)) ⟨c.length+12,cf,[],0⟩ (az l).recs (hb.drop _) (by rw [xt];omega) (show c.length+12≠0 by omega) (by rw [←hF2];simp) hn (by
          rw [hw,wH,bi];have:=tR (be4 s) ((az l).recs.take n);rw [wV,Nat.min_eq_left hn] at this;omega) rfl
         rw [←hF2] at hle2;have hbJ:Byt (co cf ((az l).recs.take n)):=by rw [hw];exact (lk _ hbc (by omega)).app hbr
         have hlJ:(co cf ((az l).recs.take n)).length=c.length+12+(wrF (be4 s) ((az l).recs.take n)).length:=by rw [hw,wH,bi]
         have hle3:c.length+12+(wrF (be4 s) ((az l).recs.take n)).length≤(az l).pos:=hle2;have hr0:cx.pos=0:=rfl
         have hJ:az (co cf ((az l).recs.take n))=⟨(co cf ((az l).recs.take n)).length,cf,(az l).recs.take n,t⟩:=by
          have hn2:aR (be4 0) (co cf ((az l).recs.take n))=some (c,s):=by rw [hw,jX _ (by omega),sp.2.2.2.1]
          have hdr:(co cf ((az l).recs.take n)).drop (c.length+12)=wrF (be4 s) ((az l).recs.take n):=by rw [hw,←bi (be4 0) c,List.drop_left]
          rw [show az (co cf ((az l).recs.take n))=bn ((co cf ((az l).recs.take n)).length+1) (be4 0) (co cf ((az l).recs.take n)) cx from rfl,cH hn2 h2,hdr];rw [hlJ] at ht ⊢;exact ht
         refine ⟨hbJ,by omega,?_⟩;have hpJ:(az (co cf ((az l).recs.take n))).pos=(co cf ((az l).recs.take n)).length:=by rw [hJ]
         have hcJ:(az (co cf ((az l).recs.take n))).c=cf:=by rw [hJ]
         have hrJ:(az (co cf ((az l).recs.take n))).recs=(az l).recs.take n:=by rw [hJ]
         unfold bR;rw [hpJ,hcJ,hrJ,if_neg (by omega),if_neg (by omega)];exact hv.1
       · cases hst
     · cases hst
end Go.Proofs.YtcaicgipibcicaaGreat
