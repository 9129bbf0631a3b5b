/- The pieces of a log, one behind the other: the iterator. -/
import Derived.Test.YtcaicgipibcicaaGreatQRdAl
import Derived.Test.YtcaicgipibcicaaGreatQRdSl
import Derived.Test.YtcaicgipibcicaaGreatQAuRef6
import Derived.Shelf.RegionOpen
import Derived.BigRegion
set_option maxRecDepth 100000
set_option linter.unusedSimpArgs false
set_option linter.unusedVariables false
open Int renaming toNat_natCast→xM
open List renaming length_take→wV,mem_append→xL
namespace Go.Proofs.YtcaicgipibcicaaGreat
open Go.RowKit Go.Sort Go.Shelf
theorem rD:∀ {l1 l2:List Int},Byt l1→Byt l2→u8s l1=u8s l2→l1=l2
 | [],[],_,_,_=>rfl
 | [],_::_,_,_,h=>by simp [u8s] at h
 | _::_,[],_,_,h=>by simp [u8s] at h
 | x::l1,y::l2,h1,h2,h=>by
   simp only [u8s,List.map_cons,List.cons.injEq] at h;obtain ⟨hx,ht⟩:=h;have a1:=h1.head;have a2:=h2.head
   have e:x.toNat=y.toNat:=by
    have:=congrArg UInt8.toNat hx;simp only [UInt8.toNat_ofNat'] at this;omega
   rw [rD h1.tail h2.tail ht,show x=y by omega]
def pj (w:World) (B:Nat):Nat:=match w.cell? ⟨B,0,none⟩ with
 | some (.slice _ n _)=>n
 | _=>0
theorem pk {w:World} {B n c:Nat} {ao:Option Addr} {t:TypeId} (h:w.heap[B]?=some (.cells #[.slice ao n c] t (0,0))):pj w B=n:=by
 unfold pj;rw [cell_of_row _ _ _ _ _ (0,0) h];rfl
structure PsGo (l:Nat) (B C T:Nat) (l0:List Int) (J:List Int→Nat→World→Prop) (Jx:World→Prop):Prop where
 round:∀ (sa pos:Nat) (c:List Int) (s:Nat) (W0 W1:World) (ao:Option Addr) (cc:Nat),J (be4 sa) pos W0→Keep (fun k=>k=B∨k=T) W0 W1→aR (be4 sa) (l0.drop pos)=some (c,s)→RdC W1 ao (cellsOf ah c)→c.length≤cc→(∀ a,ao=some a→a.block<C)→
  YieldAt Fence.wide 3 Tryz.prog l #[.slice ao c.length cc,.agg (cellsOf ah (be4 s)).toArray] W1 fun e W'=>∃ bv:Bool,e = .returned (.bool bv)∧
   Keep (fun k=>C≤k∧k<W0.heap.size∧k≠B∧k≠T) W1 W'∧(bv=true→J (be4 s) (pos+(c.length+12)) W')∧(bv=false→Jx W')
structure PsAt (B C T:Nat) (l0:List Int) (J:List Int→Nat→World→Prop) (sa pos:Nat) (ao:Option Addr) (n cap:Nat) (W0 wr:World):Prop where
 four:sa<4294967296
 le:pos≤l0.length
 len:l0.length=pos+n
 j:J (be4 sa) pos W0
 keep:Keep (fun k=>k=B∨k=T) W0 wr
 box:wr.heap[B]?=some (.cells #[.slice ao n cap] 59 (0,0))
 last:wr.heap[T]?=some (.cells (cellsOf ah (be4 sa)).toArray 139 (0,0))
 rd:RdC wr ao (cellsOf ah (l0.drop pos))
 cap:n≤cap
 low:∀ a,ao=some a→a.block<C
def PsPost (B C T:Nat) (l0:List Int) (J:List Int→Nat→World→Prop) (Jx:World→Prop) (e:Ending) (W':World):Prop:=
 (∃ v,e = .returned v)∧((∃ sa pos W0,J (be4 sa) pos W0∧aR (be4 sa) (l0.drop pos)=none∧Keep (fun k=>k=B∨k=T) W0 W')∨(∃ W0,Jx W0∧Keep (fun k=>k=B∨k=T) W0 W'))
theorem kR {s:Nat} (hs:s<4294967296):Byt (be4 s):=by
 intro x hx;simp only [be4,List.mem_cons,List.not_mem_nil,or_false] at hx;omega
theorem sT {a c:List Int} (ha:Byt a) (hc:Byt c) (hn:c.length<4294967296):Byt (aC a c):=by
 unfold aC;intro x hx;rcases xL.1 hx with hx | hx
 · rcases xL.1 hx with hx | hx
   · rcases xL.1 hx with hx | hx
     · exact kR hn x hx
     · exact kR (by omega) x hx
   · exact hc x hx
 · exact kR (fd _) x hx
theorem pm {a l:List Int} (h:l.length<8):aR a l=none:=by
 unfold aR;rw [if_pos h]
theorem mV {a l:List Int} {q1 q2:Nat} (h8:8≤l.length) (h1:(q1:Int)=beI (l.take 4)) (h2:(q2:Int)=beI ((l.drop 4).take 4)) (h:q1≠4294967295 - q2∨l.length<q1+12) (hq:q1<4294967296∧q2<4294967296):aR a l=none:=by
 unfold aR;rw [if_neg (by omega),if_pos];rw [←h1,←h2];rcases h with h | h
 · left;omega
 · right;rw [xM];exact h
theorem qS {a l:List Int} {q1 q2:Nat} (hb:Byt l) (h8:8≤l.length) (h1:(q1:Int)=beI (l.take 4)) (h2:(q2:Int)=beI ((l.drop 4).take 4)) (h:q1=4294967295 - q2) (hl:q1+12≤l.length) (hq:q1<4294967296∧q2<4294967296) :
 (aC a ((l.drop 8).take q1)=l.take (8+q1+4)→aR a l=some ((l.drop 8).take q1,dA (a++(l.drop 8).take q1)))∧(aC a ((l.drop 8).take q1)≠l.take (8+q1+4)→aR a l=none):=by
 have hp:=uO (a:=a) hb h1.symm (by rw [←h2];omega) hl;rw [show q1+12=8+q1+4 by omega] at hp;constructor
 · intro he
   unfold aR;rw [if_neg (by omega),if_neg (by rw [←h1,←h2,xM];omega),←h1,xM,if_pos (hp.1 he)]
 · intro he
   unfold aR;rw [if_neg (by omega),if_neg (by rw [←h1,←h2,xM];omega),←h1,xM,if_neg (fun hs=>he (hp.2 hs))]
theorem PsAt.below {B C T:Nat} {l0:List Int} {J:List Int→Nat→World→Prop} {sa pos:Nat} {ao:Option Addr} {n cap:Nat} {W0 wr w':World} (h:PsAt B C T l0 J sa pos ao n cap W0 wr) (hb:Below wr.heap.size wr w'):PsAt B C T l0 J sa pos ao n cap W0 w':=by
 have hk:=Keep.of_below hb (Nat.le_refl _) (fun _=>False);exact ⟨h.four,h.le,h.len,h.j,h.keep.trans hk (fun _ _ h=>h) (fun _ _ h=>h.elim),hk.old h.box id,hk.old h.last id,h.rd.keep hk (fun _ _ _=>id),h.cap,h.low⟩
theorem vZ {l:List Int} {s1 s2:Option (List Int)} {x1 x2:Int} {er:Int} (hb:Byt l) (h1:Step nB (some (l.take 8)) s1 x1) (h2:Step nB s1 s2 x2) (he:rF s2 er) :
 (er=0↔8≤l.length)∧(er=0→x1=beI (l.take 4)∧x2=beI ((l.drop 4).take 4)):=by
 obtain ⟨a1,b1⟩:=h1;obtain ⟨a2,b2⟩:=h2;simp only [Option.bind_some] at a1 b1
 have f1:∀ m:List Int,nB m=if m.length<4 then none else some (beI (m.take 4),m.drop 4):=fun m=>by
  unfold nB dT bK;split <;> simp
 rw [f1] at a1 b1;by_cases h4:l.length<4
 · have:(l.take 8).length<4:=by rw [wV];omega
   rw [if_pos this] at a1;simp only [Option.map_none] at a1;subst a1;simp only [Option.bind_none,Option.map_none] at a2;subst a2;have hne:er≠0:=fun e=>by have:=he.1 e;cases this
   exact ⟨⟨fun e=>absurd e hne,fun h=>by omega⟩,fun e=>absurd e hne⟩
 · have:¬ (l.take 8).length<4:=by rw [wV];omega
   rw [if_neg this] at a1 b1;simp only [Option.map_some] at a1;have hx1:=b1 _ _ rfl;subst a1;simp only [Option.bind_some] at a2 b2;rw [f1] at a2 b2;by_cases h8:l.length<8
   · have:((l.take 8).drop 4).length<4:=by rw [List.length_drop,wV];omega
     rw [if_pos this] at a2;simp only [Option.map_none] at a2;subst a2;have hne:er≠0:=fun e=>by have:=he.1 e;cases this
     exact ⟨⟨fun e=>absurd e hne,fun h=>by omega⟩,fun e=>absurd e hne⟩
   · have:¬ ((l.take 8).drop 4).length<4:=by rw [List.length_drop,wV];omega
     rw [if_neg this] at a2 b2;simp only [Option.map_some] at a2;have hx2:=b2 _ _ rfl
     have hend:s2=some []:=by
      rw [a2,List.drop_drop,List.drop_eq_nil_of_le (by rw [wV];omega)]
     refine ⟨⟨fun _=>by omega,fun _=>he.2 hend⟩,fun _=>⟨?_,?_⟩⟩
     · rw [hx1,List.take_take]
       rfl
     · rw [hx2,List.drop_take,List.take_take]
       rfl
end Go.Proofs.YtcaicgipibcicaaGreat
