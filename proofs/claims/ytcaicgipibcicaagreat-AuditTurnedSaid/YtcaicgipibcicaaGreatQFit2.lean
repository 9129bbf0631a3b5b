/- Append onto a row that is owned: in place, or into a new row, the old one as it was. -/
import Derived.Test.YtcaicgipibcicaaGreatQMem
import Derived.Test.YtcaicgipibcicaaGreatProg
import Derived.WalkKit
import Derived.WalkSpells
import Derived.Lib.Hide
set_option maxRecDepth 100000
set_option maxHeartbeats 2000000
set_option linter.unusedSimpArgs false
set_option linter.unusedVariables false
open List renaming eq_nil_of_length_eq_zero→xx,getElem?_eq_some_iff→wD
open Nat renaming zero_add→wL
namespace Go.Proofs.YtcaicgipibcicaaGreat
open Go.RowKit
section
variable {P:Program}
theorem lp (w:World) (t tx ty e:TypeId) (i:TypeInfo) (z:Value) (size bytes:Nat) (ht:P.underlying t=some (.slice e)) (hi:P.info? e=some i) (hz:i.zero=some z) (hsize:i.size=size) (hby:i.bytes=bytes)
 (hzs:z.cells.size=size) (v:Value) (n:Nat) (xs:List Value) (hown:Own w size v n xs) (x:Value) (m:Nat) (news:List Value) (hs:Src P size tx x m news w)
 (h63:n+m≤maxLen) (hbytes:(n+m)*bytes≤140737488355328) :
 ∃ v' w',(Builtin.append_ #[t,tx] ty #[v,x]).run P w = .ok v' w'∧Own w' size v' (n+m) (xs++news)∧((v'.ownBlock=v.ownBlock∧Keep (fun k=>v.ownBlock=some k) w w')∨(∃ g,v'.ownBlock=some g∧w.heap.size≤g)∧Keep (fun _=>False) w w'):=by
 subst hsize;subst hby;have hmax:((n+m:Nat):Int)≤9223372036854775807:=by simp only [maxLen] at h63;omega
 have hlen:(xs++news).length=(n+m)*i.size:=by rw [List.length_append,hown.1,hs.newsLen,Nat.add_mul]
 have grow:∀ (ba:Option Addr) (old:Nat),v = .slice ba n old→old<n+m→(Builtin.firstCells i.size n (.slice ba n old)).run P w.drew = .ok xs.toArray w.drew→
  ∃ v' w',(Builtin.append_ #[t,tx] ty #[v,x]).run P w = .ok v' w'∧Own w' i.size v' (n+m) (xs++news)∧((v'.ownBlock=v.ownBlock∧Keep (fun k=>v.ownBlock=some k) w w')∨(∃ g,v'.ownBlock=some g∧w.heap.size≤g)∧Keep (fun _=>False) w w'):=by
  intro ba old hv hlt hold;subst hv;have hr:=run_append_grow_src (P:=P) w t tx ty e i z ht hi hz ba n old xs hold x m news hs hlt hmax (growslice_fits hlt hbytes);have hge:=grownCap_ge w (n+m) old e;have hcm:=grownCap_le_maxLen w (n+m) old e h63;refine ⟨_,_,hr,⟨hlen,.inr ⟨w.heap.size,_,rfl,hge,hcm,?_⟩⟩,.inr ⟨⟨_,rfl,Nat.le_refl _⟩,(Keep.drew _ w).trans (Keep.alloc _ _ _) (fun _ _ h=>h) (fun _ _ h=>h)⟩⟩;refine Row.made w.drew _ e (0,0) _ i.size _ ?_ (.inl rfl) ?_
  · simp only [Array.size_append,List.size_toArray,size_zeroCells,hzs,hlen,←Nat.add_mul]
    congr 1
    omega
  · intro j u hu
    have hj:=(wD.1 hu).1;rw [Array.getElem?_append_left (by simpa using hj)]
    simpa using hu
 rcases hown.2 with ⟨rfl,rfl⟩ | ⟨g,cap,rfl,hnc,hcm,hrow⟩
 · have hx:xs=[]:=xx (by simpa using hown.1)
   subst hx;by_cases hm:m=0
   · subst hm
     have hn:news=[]:=xx (by simpa using hs.newsLen);subst hn;refine ⟨.slice none 0 0,w,?_,by simpa using Own.nil w i.size,.inl ⟨rfl,Keep.refl _ w⟩⟩;have hc:=hs.cells;rcases hs.kind with ⟨e',hk⟩ | hk <;> simp [Builtin.append_,run_underlying ht,run_underlying hk,sizeOf,typeInfo,hi,hs.len,hc]
   · exact grow none 0 rfl (by omega) (run_firstCells_none w.drew i.size 0 0 0)
 · by_cases hroom:n+m≤cap
   · have hle:(n+m)*i.size≤cap*i.size:=Nat.mul_le_mul_right _ hroom
     rw [Nat.add_mul] at hle;have hnl:=hs.newsLen;have hr:=run_append_room_src (P:=P) w t tx ty e i ht hi g 0 n cap x m news hs hroom (fun j hj=>by simp only [wL];exact hrow.there _ (by omega)) (fun j hj=>by simp only [wL];exact hrow.free _ (by omega));simp only [wL] at hr;refine ⟨_,_,hr,⟨hlen,.inr ⟨g,cap,rfl,hroom,hcm,?_⟩⟩,.inl ⟨rfl,(Keep.setCells w g _ news).mono (fun k _ h=>by subst h;rfl)⟩⟩;have hK:=Keep.setCells w g (n*i.size) news;refine ⟨Nat.lt_of_lt_of_le hrow.lt hK.size,fun j u hu=>?_,fun j hj=>World.isSome_setCells g news _ w _ (hrow.there j hj),fun j hj=>by rw [World.frozen?_setCells];exact hrow.free j hj⟩;by_cases hj:j<xs.length
     · rw [World.cell?_setCells_out g news _ w ⟨g,j,none⟩ (fun _ _=>.inl (by rw [←hown.1];exact hj))]
       rw [List.getElem?_append_left hj] at hu;exact hrow.cell j u hu
     · rw [List.getElem?_append_right (by omega)] at hu
       have hj2:=(wD.1 hu).1;have:=World.cell?_setCells_in g news (n*i.size) w (fun k hk=>hrow.there _ (by omega)) (j - xs.length) hj2;have e1:n*i.size+(j - xs.length)=j:=by rw [←hown.1];omega
       rw [e1] at this;rw [this]
       simpa [List.getElem?_eq_getElem hj2] using hu
   · refine grow (some ⟨g,0,none⟩) cap rfl (by omega) (run_firstCells_some w.drew i.size n ⟨g,0,none⟩ n cap xs hown.1 ?_)
     intro j u hu;have hadd:(⟨g,0,none⟩:Addr).add j=⟨g,j,none⟩:=by unfold Addr.add;split <;> simp_all
     rw [hadd];exact hrow.cell j u hu
theorem du {w:World} {ops:Array Oper} {rest:List Oper} {o:Oper} {a:Act} {Q:Exit→Act→World→Prop} (hgd:o.guard=none) (s x:Operand) (t tx:TypeId)
 (ho:o.op = .call { callee:=.builtin .append,args:=#[s,x],argTypes:=#[t,tx] })
 (e:TypeId) (i:TypeInfo) (z:Value) (size bytes:Nat) (ht:P.underlying t=some (.slice e)) (hi:P.info? e=some i) (hz:i.zero=some z) (hsize:i.size=size) (hby:i.bytes=bytes) (hzs:z.cells.size=size)
 (v:Value) (n:Nat) (xs:List Value) (hs:a.eval s=v) (hown:Own w size v n xs) (xv:Value) (m:Nat) (news:List Value) (hx:a.eval x=xv) (hsrc:Src P size tx xv m news w)
 (hpos:0<n+m) (h63:n+m≤maxLen) (hbytes:(n+m)*bytes≤140737488355328)
 (h:∀ g cap w',Own w' size (.slice (some ⟨g,0,none⟩) (n+m) cap) (n+m) (xs++news)→((v.ownBlock=some g∧Keep (fun k=>v.ownBlock=some k) w w')∨(w.heap.size≤g∧Keep (fun _=>False) w w'))→wpList P ops Q rest (a.put o.dst (.slice (some ⟨g,0,none⟩) (n+m) cap)) w') :
 wpList P ops Q (o::rest) a w:=by
 refine wpList_plain hgd fun K hK=>?_
 obtain ⟨v',w',hr,h2,h3⟩:=lp (P:=P) w t tx o.type e i z size bytes ht hi hz hsize hby hzs v n xs hown xv m news hsrc h63 hbytes;unfold Oper.wp execOp;simp only [ho,resolve,invoke,builtin,Sem.run_bind,Sem.run_pure,Result.andThen_ok,List.map_toArray,List.map_cons,List.map_nil,hs,hx,hr]
 obtain ⟨g,cap,rfl⟩:∃ g cap,v' = .slice (some ⟨g,0,none⟩) (n+m) cap:=by
  rcases h2.2 with ⟨_,h0⟩ | ⟨g,cap,h0,_⟩
  · omega
  · exact ⟨g,cap,h0⟩
 refine hK _ _ (h g cap w' h2 ?_);rcases h3 with ⟨h3,h4⟩ | ⟨⟨g',h3,h4⟩,h5⟩
 · exact .inl ⟨h3.symm,h4⟩
 · simp [Value.ownBlock] at h3
   subst h3;exact .inr ⟨h4,h5⟩
end
structure ag where
 q:Int
 d:Int
 w:Int
 ttl:Int
 b:Int
structure aB where
 i0:Int
 i1:Int
 i2:Int
 i3:Int
 i4:Int
 i5:Int
 i6:Int
 i7:Int
 fx:Int
 fy:Int
 tx:Int
 ty:Int
 seats:Int
 classes:Int
 base:Int
 ttl:Int
structure aa where
 r:aB
 since:Int
 number:Int
structure iD where
 i0:Int
 i1:Int
 i2:Int
 i3:Int
 i4:Int
 i5:Int
 i6:Int
 i7:Int
 ax:Int
 ay:Int
 seats:Int
 cls:Int
 radius:Int
structure ak where
 d:iD
 number:Int
structure ab where
 r:Int
 c:Int
 w:Int
structure ai where
 r:Int
 c:Int
def bp (x:Int):Prop:=0≤x∧x≤255
def aY (x:Int):Prop:=-32768≤x∧x≤32767
def ar (x:Int):Prop:=-9223372036854775808≤x∧x≤9223372036854775807
structure aB.Ok (r:aB):Prop where
 id:bp r.i0∧bp r.i1∧bp r.i2∧bp r.i3∧bp r.i4∧bp r.i5∧bp r.i6∧bp r.i7
 from_:aY r.fx∧aY r.fy
 to_:aY r.tx∧aY r.ty
 seats:bp r.seats
 classes:bp r.classes
 base:ar r.base
 ttl:ar r.ttl
structure iD.Ok (d:iD):Prop where
 id:bp d.i0∧bp d.i1∧bp d.i2∧bp d.i3∧bp d.i4∧bp d.i5∧bp d.i6∧bp d.i7
 at_:aY d.ax∧aY d.ay
 seats:bp d.seats
 cls:bp d.cls
 radius:ar d.radius
structure aa.Ok (w:aa):Prop where
 r:w.r.Ok
 since:ar w.since
 number:ar w.number
structure ak.Ok (x:ak):Prop where
 d:x.d.Ok
 number:ar x.number
def aa.cells (w:aa):List Value:=[.int .u8 w.r.i0,.int .u8 w.r.i1,.int .u8 w.r.i2,.int .u8 w.r.i3,.int .u8 w.r.i4,.int .u8 w.r.i5,.int .u8 w.r.i6,.int .u8 w.r.i7,.int .i16 w.r.fx,.int .i16 w.r.fy,.int .i16 w.r.tx,.int .i16 w.r.ty,.int .u8 w.r.seats,.int .u8 w.r.classes,.int .i64 w.r.base,.int .i64 w.r.ttl,.int .i64 w.since,.int .i64 w.number]
def ak.cells (x:ak):List Value:=[.int .u8 x.d.i0,.int .u8 x.d.i1,.int .u8 x.d.i2,.int .u8 x.d.i3,.int .u8 x.d.i4,.int .u8 x.d.i5,.int .u8 x.d.i6,.int .u8 x.d.i7,.int .i16 x.d.ax,.int .i16 x.d.ay,.int .u8 x.d.seats,.int .u8 x.d.cls,.int .i64 x.d.radius,.int .i64 x.number]
def ab.cells (e:ab):List Value:=[.int .i64 e.r,.int .i64 e.c,.int .i64 e.w]
def ai.cells (p:ai):List Value:=[.int .i64 p.r,.int .i64 p.c]
/-! what chapter 13 says -/
def bw (n most:Int):Bool:=decide (1≤n∧n≤most)
def aG (c:ag):Bool:=bw c.q 64 && bw c.d 64 && bw c.w 1048576 && bw c.ttl 1048576 && bw c.b 1048576
def iX (c:ag) (r:aB):Bool:=decide (r.seats≠0) && decide (r.classes≠0) && decide (0≤r.base∧r.base≤c.b) && bw r.ttl c.ttl
def gS (d:iD):Bool:=decide (d.seats≠0) && decide (d.cls≤7) && decide (0≤d.radius∧d.radius≤131070)
def gA (ax ay bx by_:Int):Int:=((ax - bx).natAbs:Int)+((ay - by_).natAbs:Int)
def eI (classes cls:Int):Bool:=decide (classes.toNat / 2 ^ cls.toNat % 2=1)
def lq (r:aB) (d:iD):Bool:=decide (d.cls≤7) && eI r.classes d.cls && decide (r.seats≤d.seats) && decide (gA d.ax d.ay r.fx r.fy≤d.radius)
theorem eB (w:World) (n most:Int):Calls Tryz.prog 70 #[.int .i64 n,.int .i64 most] w fun e w'=>e = .returned (.bool (bw n most))∧w=w':=by
 by_cases h1:1≤n
 · by_cases h2:n≤most
   · rw [show bw n most=true by simp [bw,h1,h2]]
     go_enter Tryz.func70,Tryz.ntmps70
     go_wp2_with fail
     go_ret
     exact ⟨rfl,rfl⟩
   · rw [show bw n most=false by simp [bw,h2]]
     go_enter Tryz.func70,Tryz.ntmps70
     go_wp2_with fail
     go_ret
     exact ⟨rfl,rfl⟩
 · rw [show bw n most=false by simp [bw,h1]]
   go_enter Tryz.func70,Tryz.ntmps70
   go_wp2_with fail
   go_ret
   exact ⟨rfl,rfl⟩
def aA (c:ag):Int:=if aG c then 0 else 160
theorem dN (w:World) (c:ag):Calls Tryz.prog 42 #[.agg #[.int .i64 c.q,.int .i64 c.d,.int .i64 c.w,.int .i64 c.ttl,.int .i64 c.b]] w fun e w'=>e = .returned (.int .i64 (aA c))∧Below w.heap.size w w':=by
 have HB:=Lib.hid ((Below.refl w.heap.size w).alloc (Nat.le_refl _) (.cells #[.int .i64 c.q,.int .i64 c.d,.int .i64 c.w,.int .i64 c.ttl,.int .i64 c.b] 23));go_enter Tryz.func42,Tryz.ntmps42
 go_wp2_with fail
 refine (eB _ c.q 64).mono ?_;rintro e w0 ⟨rfl,rfl⟩;cases h0:bw c.q 64 with
 | false=>
   go_wp2_with fail
   go_ret
   exact ⟨by simp [aA,aG,h0],HB.out⟩
 | true=>
 go_wp2_with fail
 refine (eB _ c.d 64).mono ?_;rintro e w1 ⟨rfl,rfl⟩;cases h1:bw c.d 64 with
 | false=>
   go_wp2_with fail
   go_ret
   exact ⟨by simp [aA,aG,h0,h1],HB.out⟩
 | true=>
 go_wp2_with fail
 refine (eB _ c.w 1048576).mono ?_;rintro e w2 ⟨rfl,rfl⟩;cases h2:bw c.w 1048576 with
 | false=>
   go_wp2_with fail
   go_ret
   exact ⟨by simp [aA,aG,h0,h1,h2],HB.out⟩
 | true=>
 go_wp2_with fail
 refine (eB _ c.ttl 1048576).mono ?_;rintro e w3 ⟨rfl,rfl⟩;cases h3:bw c.ttl 1048576 with
 | false=>
   go_wp2_with fail
   go_ret
   exact ⟨by simp [aA,aG,h0,h1,h2,h3],HB.out⟩
 | true=>
 go_wp2_with fail
 refine (eB _ c.b 1048576).mono ?_;rintro e w4 ⟨rfl,rfl⟩;cases h4:bw c.b 1048576 with
 | false=>
   go_wp2_with fail
   go_ret
   exact ⟨by simp [aA,aG,h0,h1,h2,h3,h4],HB.out⟩
 | true=>
 go_wp2_with fail
 go_ret
 exact ⟨by simp [aA,aG,h0,h1,h2,h3,h4],HB.out⟩
end Go.Proofs.YtcaicgipibcicaaGreat
